import Derived.Test.YtemnmcfmabamcaaGreatDoorXVars
import Derived.Test.YtemnmcfmabamcaaGreatDoorXAnd
import Derived.Test.YtemnmcfmabamcaaGreatDoorXVt
set_option linter.unusedSimpArgs false
set_option linter.unusedVariables false
namespace Go.Proofs.YtemnmcfmabamcaaGreatDoor
open Go Go.RowKit
theorem shr_bit (x:BitVec 64) (n:Nat):((((x.toNat:Int) / 2 ^ n).tmod 2) == 1) = x.getLsbD n:=by
 have h1:((x.toNat:Int) / 2 ^ n) = ((x.toNat / 2 ^ n:Nat):Int):=by simp
 rw [h1]
 have h2:(((x.toNat / 2 ^ n:Nat):Int)).tmod 2 = ((x.toNat / 2 ^ n % 2:Nat):Int):=by
  rw [Int.tmod_eq_emod_of_nonneg (Int.natCast_nonneg _)];simp
 rw [h2,BitVec.getLsbD,Nat.testBit_eq_decide_div_mod_eq]
 rw [Bool.eq_iff_iff]
 simp
 omega
theorem shr_lo (a:VSet) (v:Int) (h1:1≤v) (h2:v≤64):((lo a / 2 ^ (v.toNat - 1)).tmod 2 == 1) = hasS a v:=by
 rw [lo,shr_bit,BitVec.getLsbD_setWidth]
 have e1:v.toNat - 1 = (v - 1).toNat:=by omega
 rw [e1]
 simp only [hasS,h1,show v≤128 from by omega,show (v-1).toNat < 64 from by omega,decide_true,Bool.true_and]
theorem shr_hi (a:VSet) (v:Int) (h1:65≤v) (h2:v≤128):((hi a / 2 ^ (v - 65).toNat).tmod 2 == 1) = hasS a v:=by
 have e1:64+(v - 65).toNat = (v - 1).toNat:=by omega
 rw [hi,shr_bit,BitVec.getLsbD_setWidth,BitVec.getLsbD_ushiftRight,e1]
 simp only [hasS,h2,show 1≤v from by omega,show (v-65).toNat < 64 from by omega,decide_true,Bool.true_and]
set_option maxRecDepth 100000 in
set_option maxHeartbeats 1000000 in
theorem refHas_no (a:VSet) (v:Int) (w:World) (h:v < 1∨128 < v):Calls Tryz.prog 111 #[encS a,.int .i64 v] w fun e w'=>e = .returned (.bool false)∧Ext w w':=by
 have hx:=(Ext.refl w).alloc (.cells #[.int .u64 (lo a),.int .u64 (hi a)] 82)
 unfold encS
 by_cases h1:v < 1
 ·have d0:decide (v < 1) = true:=decide_eq_true h1
  go_enter Tryz.func111,Tryz.ntmps111
  go_wp2_with fail
  all_goals go_ret
  all_goals exact ⟨rfl,hx⟩
 ·have d0:decide (v < 1) = false:=decide_eq_false h1
  have d1:decide (128 < v) = true:=decide_eq_true (by omega)
  go_enter Tryz.func111,Tryz.ntmps111
  go_wp2_with fail
  all_goals go_ret
  all_goals exact ⟨rfl,hx⟩
set_option maxRecDepth 100000 in
set_option maxHeartbeats 1000000 in
theorem refHas_lo (a:VSet) (v:Int) (w:World) (h1:1≤v) (h2:v≤64):Calls Tryz.prog 111 #[encS a,.int .i64 v] w fun e w'=>e = .returned (.bool (hasS a v))∧Ext w w':=by
 have hx:=(Ext.refl w).alloc (.cells #[.int .u64 (lo a),.int .u64 (hi a)] 82)
 have d1:decide (v < 1) = false:=decide_eq_false (by omega)
 have d2:decide (v > 128) = false:=decide_eq_false (by omega)
 have e1:(v - 1) / 64 = 0:=by omega
 have e2:(v - 1) % 64 = v - 1:=by omega
 have hb:=Lib.hid (shr_lo a v h1 h2)
 unfold encS
 go_enter Tryz.func111,Tryz.ntmps111
 go_wp2_with fail
 go_ret
 exact ⟨by rw [←hb.out] <;> rfl,hx⟩
set_option maxRecDepth 100000 in
set_option maxHeartbeats 1000000 in
theorem refHas_hi (a:VSet) (v:Int) (w:World) (h1:65≤v) (h2:v≤128):Calls Tryz.prog 111 #[encS a,.int .i64 v] w fun e w'=>e = .returned (.bool (hasS a v))∧Ext w w':=by
 have hx:=(Ext.refl w).alloc (.cells #[.int .u64 (lo a),.int .u64 (hi a)] 82)
 have d1:decide (v < 1) = false:=decide_eq_false (by omega)
 have d2:decide (v > 128) = false:=decide_eq_false (by omega)
 have e1:(v - 1) / 64 = 1:=by omega
 have e2:(v - 1) % 64 = v - 65:=by omega
 have hb:=Lib.hid (shr_hi a v h1 h2)
 unfold encS
 go_enter Tryz.func111,Tryz.ntmps111
 go_wp2_with fail
 go_ret
 exact ⟨by rw [←hb.out] <;> rfl,hx⟩
theorem refHas_any (a:VSet) (v:Int) (w:World):Calls Tryz.prog 111 #[encS a,.int .i64 v] w fun e w'=>e = .returned (.bool (hasS a v))∧Ext w w':=by
 by_cases h:v < 1∨128 < v
 ·have hv:hasS a v = false:=by simp [hasS];omega
  rw [hv];exact refHas_no a v w h
 ·by_cases hs:v≤64
  ·exact refHas_lo a v w (by omega) hs
  ·exact refHas_hi a v w (by omega) (by omega)
def listVK (s:VSet):Nat→List Int
 | 0=>[]
 | k+1=>if hasS s ((k:Int)+1) then listVK s k++[(k:Int)+1] else listVK s k
def listV (s:VSet):List Int:=listVK s 128
theorem listVK_len (s:VSet) (k:Nat):(listVK s k).length≤k:=by
 induction k with
 | zero=>exact Nat.le_refl _
 | succ k ih =>
   rw [listVK]
   split
   ·simp;omega
   ·omega
theorem int_info:(Tryz.prog.info? 3).map (fun i=>(i.zero,i.size,i.bytes)) = some (some (.int .i64 0),1,8):=by kernel_rfl
def encZ (n:Int):Value:=.int .i64 n
theorem owns_slI {w:World} {base:Nat} {v:Value} {l:List Int} (h:w.ownsRow base 3 1 v l.length (l.map encZ)):SlI w v l:=by
 obtain ⟨_,⟨rfl,e⟩ | ⟨g,cap,cur,rfl,hgb,hgh,hn,hm,hcs,ht⟩⟩:=h
 ·have:l = []:=by simpa using e
  subst this
  exact ⟨none,0,rfl,.inl ⟨rfl,rfl,rfl⟩⟩
 ·refine ⟨_,cap,rfl,.inr ⟨g,0,rfl,fun j hj=>?_⟩⟩
  have h1:(l.map encZ)[j]? = some (encZ l[j]):=by rw [List.getElem?_map,List.getElem?_eq_getElem hj];rfl
  rw [←ht,List.getElem?_take] at h1
  split at h1
  ·have h2:cur[j]? = some (encZ l[j]):=by simpa using h1
   simp [World.cell?,hgh,h2,encZ]
  ·simp at h1
theorem own_base {w:World} {B B':Nat} {e:TypeId} {sz:Nat} {v:Value} {n:Nat} {xs:List Value} (h:w.ownsRow B e sz v n xs) (hb:B'≤B):w.ownsRow B' e sz v n xs:=by
 obtain ⟨h1,h2⟩:=h
 refine ⟨h1,h2.imp id ?_⟩
 rintro ⟨g,cap,cur,h3,h4,h5⟩
 exact ⟨g,cap,cur,h3,Nat.le_trans hb h4,h5⟩
theorem own_open {w:World} {B:Nat} {v:Value} {l:List Int} (h:w.ownsRow B 3 1 v l.length (l.map encZ)) (hl:l≠[]) :
  ∃ g cap,v = .slice (some ⟨g,0,none⟩) l.length cap∧B≤g∧∀ j u,(l.map encZ)[j]? = some u→w.cell? (Addr.add ⟨g,0,none⟩ j) = some u:=by
 have hs:=owns_slI h
 obtain ⟨_,⟨rfl,e⟩ | ⟨g,cap,cur,rfl,hgb,_⟩⟩:=h
 ·exact absurd (by simpa using e) hl
 ·refine ⟨g,cap,rfl,hgb,fun j u hj=>?_⟩
  obtain ⟨ba,c,e,h⟩:=hs
  rcases h with ⟨rfl,_⟩ | ⟨b,o,rfl,hc⟩
  ·simp at e
  ·simp only [Value.slice.injEq,Option.some.injEq,Addr.mk.injEq] at e
   obtain ⟨⟨rfl,rfl,_⟩,_⟩:=e
   rw [List.getElem?_map] at hj
   have hjl:j < l.length:=by
    rcases Nat.lt_or_ge j l.length with h | h
    ·exact h
    ·rw [List.getElem?_eq_none h] at hj;cases hj
   rw [List.getElem?_eq_getElem hjl] at hj
   have:=hc j hjl
   have hadd:(⟨g,0,none⟩:Addr).add j = ⟨g,0+j,none⟩:=by unfold Addr.add;split <;> simp_all
   rw [hadd,this]
   exact hj
def ListLoop (s:VSet) (w:World) (k:Nat) (v:Value) (wr:World):Prop :=
 wr.heap[w.heap.size]? = some (.cells #[.int .u64 (lo s),.int .u64 (hi s)] 82 (0,0))∧wr.ownsRow (w.heap.size+1) 3 1 v (listVK s k).length ((listVK s k).map encZ)∧Below w.heap.size w wr∧w.heap.size+1≤wr.heap.size
set_option maxRecDepth 100000 in
set_option maxHeartbeats 2000000 in
theorem refList_any (s:VSet) (w:World):Calls Tryz.prog 102 #[encS s] w fun e w'=>∃ v,e = .returned v∧w'.ownsRow w.heap.size 3 1 v (listV s).length ((listV s).map encZ)∧Below w.heap.size w w':=by
 obtain ⟨i0,hi0,hz0,hz1,hz2⟩:=info_parts int_info
 have hbox:=heap_alloc_new w (.cells #[.int .u64 (lo s),.int .u64 (hi s)] 82)
 have hx1:=(Below.refl w.heap.size w).alloc (Nat.le_refl _) (.cells #[.int .u64 (lo s),.int .u64 (hi s)] 82)
 have h0:Hid (ListLoop s w 0 (.slice none 0 0) (w.alloc (.cells #[.int .u64 (lo s),.int .u64 (hi s)] 82))):=Lib.hid
  ⟨hbox,⟨by simp [listVK],.inl ⟨rfl,by simp [listVK]⟩⟩,hx1,by simp⟩
 clear hbox hx1
 unfold encS
 go_enter Tryz.func102,Tryz.ntmps102
 go_wp2_with fail
 generalize w.alloc (.cells #[.int .u64 (lo s),.int .u64 (hi s)] 82) = w1 at *
 go_loopw [3,4] (fun v i wr=>∃ k:Nat,k≤128∧i = .int .i64 ((k:Int)+1)∧Hid (ListLoop s w k v wr)) (fun _ i _=>129 - (intOf i).toNat)
 case atStart=>exact ⟨0,by omega,rfl,h0⟩
 case round =>
  clear h0
  obtain ⟨k,hk,rfl,hI⟩:=hrel
  obtain ⟨hb,ho,hB,hsz⟩:=hI.out
  clear hI
  obtain ⟨c0,c1⟩:=pbox_cells hb
  by_cases hlt:k < 128
  ·have d0:decide ((k:Int)+1≤128) = true:=decide_eq_true (by omega)
   have hq:=refHas_any s ((k:Int)+1) wr
   unfold encS at hq
   have hl:listVK s (k+1) = if hasS s ((k:Int)+1) then listVK s k++[(k:Int)+1] else listVK s k:=rfl
   have hlen:=listVK_len s k
   replace hb:=Lib.hid hb
   replace ho:=Lib.hid ho
   generalize hasS s ((k:Int)+1) = z at *
   cases z
   ·simp only [Bool.false_eq_true,if_false] at hl
    go_wp2_with fail
    refine hq.mono ?_
    rintro e w2 ⟨rfl,hx2⟩
    have hnext:Hid (ListLoop s w (k+1) u3 w2):=Lib.hid
     ⟨(hx2.below.block _ (by omega)).trans hb.out,by rw [hl];exact ownsRow_same ho.out (fun g hg=>hx2.below.block _ ((own_lt ho.out hg).1)),hB.trans (hx2.below.mono hB.size),by have:=hx2.size;omega⟩
    go_wp2_with fail
    go_roundw
    case rel=>exact ⟨k+1,by omega,by go_num,hnext⟩
    case measure=>simp [intOf];omega
   ·simp only [if_true] at hl
    go_wp2_with fail
    refine hq.mono ?_
    rintro e w2 ⟨rfl,hx2⟩
    have ho2:=ownsRow_same ho.out (fun g hg=>hx2.below.block _ ((own_lt ho.out hg).1))
    have hb2:=(hx2.below.block _ (by omega)).trans hb.out
    have hB2:=hB.trans (hx2.below.mono hB.size)
    have hs2:w.heap.size+1≤w2.heap.size:=by have:=hx2.size;omega
    go_wp2_with (at_builtin;refine wpList_append_own _ rfl _ _ 76 rfl (w.heap.size+1) 3 i0 (.int .i64 0) 1 8 Tryz.underlying76 hi0 hz0 hz1 hz2 rfl (by decide) _ _ _ rfl (ho2.alloc _) ⟨w2.heap.size,0,none⟩ 1 1 [.int .i64 ((k:Int)+1)] rfl rfl (cell_one_at _ _ _ _ rfl) (by simp [Value.oneCell']) (by unfold maxLen;omega) (by omega) (by simp;omega) ?_;intro v3 w3 ho3 hg3 _)
    have hB3:=Below.grown (Below.alloc hB2 (by omega) _) hg3 (by simp;omega) (fun k e=>Nat.le_trans (by omega) (own_ge ho2 e))
    have hb3:w3.heap[w.heap.size]? = _:=(hg3.block _ (by simp;omega) (fun e=>by have:=own_ge ho2 e.symm;omega)).trans ((Below.heap_alloc _ _ _ hs2).trans hb2)
    have hnext:Hid (ListLoop s w (k+1) v3 w3):=Lib.hid
     ⟨hb3,by rw [hl];exact own_cast ho3 (by simp) (by simp [encZ]),hB3,Nat.le_trans hs2 (Nat.le_trans (by simp) hg3.size)⟩
    go_roundw
    case rel=>exact ⟨k+1,by omega,by go_num,hnext⟩
    case measure=>simp [intOf];omega
  ·obtain rfl:k = 128:=by omega
   have d0:decide (((128:Nat):Int)+1≤128) = false:=by decide
   replace hb:=Lib.hid hb
   go_wp2_with fail
   go_ret
   exact ⟨_,rfl,own_base ho (Nat.le_succ _),hB⟩
def setVB (f:Nat→Bool):Nat→VSet
 | 0=>0
 | k+1=>if decide (1≤k) && f k then withS (setVB f k) k else setVB f k
def SetLoop (f:Nat→Bool) (w:World) (k:Nat) (wr:World):Prop :=
 wr.heap[w.heap.size]? = some (.cells #[.int .u64 0,.int .u64 0] 82 (0,0))∧wr.heap[w.heap.size+1]? = some (.cells #[.int .u64 (lo (setVB f k)),.int .u64 (hi (setVB f k))] 82 (0,0))∧Below w.heap.size w wr∧w.heap.size+1 < wr.heap.size
set_option maxRecDepth 100000 in
set_option maxHeartbeats 2000000 in
theorem refSet_any (f:Nat→Bool) (w:World) (g c:Nat) (h:BoolsAt w g 4 129 f):Calls Tryz.prog 113 #[.slice (some ⟨g,0,none⟩) 129 c] w fun e w'=>e = .returned (encS (setVB f 129))∧Below w.heap.size w w':=by
 obtain ⟨cs,hg,hcs,hcf⟩:=h
 have hgl:g < w.heap.size:=(Array.getElem?_eq_some_iff.1 hg).1
 have h0:Hid (SetLoop f w 1 ((w.alloc (.cells #[.int .u64 0,.int .u64 0] 82)).alloc (.cells #[.int .u64 0,.int .u64 0] 82))):=by
  have hr:=(Below.refl w.heap.size w).alloc (Nat.le_refl _) (.cells #[.int .u64 0,.int .u64 0] 82)
  have:=heap_alloc_new (w.alloc (.cells #[.int .u64 0,.int .u64 0] 82)) (.cells #[.int .u64 0,.int .u64 0] 82)
  rw [World.size_alloc] at this
  have e0:setVB f 1 = 0:=rfl
  have e1:lo (0:VSet) = 0:=rfl
  have e2:hi (0:VSet) = 0:=rfl
  exact Lib.hid ⟨(Below.heap_alloc _ _ _ (by simp)).trans (heap_alloc_new w _),by rw [e0,e1,e2];exact this,hr.alloc (by simp) _,by simp⟩
 unfold encS
 go_enter Tryz.func113,Tryz.ntmps113
 go_wp2_with fail
 generalize (w.alloc (.cells #[.int .u64 0,.int .u64 0] 82)).alloc (.cells #[.int .u64 0,.int .u64 0] 82) = w1 at *
 go_loopw [4] (fun i wr=>∃ k:Nat,1≤k∧k≤129∧i = .int .i64 k∧Hid (SetLoop f w k wr)) (fun i _=>129 - (intOf i).toNat)
 case atStart=>exact ⟨1,by omega,by omega,rfl,h0⟩
 case round =>
  clear h0
  obtain ⟨k,hk1,hk,rfl,hI⟩:=hrel
  obtain ⟨hz,hb,hB,hsz⟩:=hI.out
  clear hI
  by_cases hlt:k < 129
  ·have hl:setVB f (k+1) = if f k then withS (setVB f k) k else setVB f k:=by
    show (if decide (1≤k) && f k then withS (setVB f k) k else setVB f k) = _
    simp [hk1]
   have d0:decide ((k:Int) < 129) = true:=decide_eq_true (by omega)
   have d1:decide (0≤(k:Int)) = true:=decide_eq_true (by omega)
   have hx:=hcf k hlt
   have cg:wr.cell? ⟨g,k,none⟩ = some (.bool (f k)):=by
    rw [hB.cell (p:=⟨g,k,none⟩) hgl]
    simp [World.cell?,hg,hx]
   obtain ⟨c0,c1⟩:=pbox_cells hb
   have y0:wr.frozen? ⟨w.heap.size+1,0,none⟩ = false:=by simp [World.frozen?,hb]
   have y1:wr.frozen? ⟨w.heap.size+1,1,none⟩ = false:=by simp [World.frozen?,hb]
   clear hx
   replace hb:=Lib.hid hb
   replace hz:=Lib.hid hz
   replace hg:=Lib.hid hg
   generalize f k = z at *
   cases z
   ·simp only [Bool.false_eq_true,if_false] at hl
    have hnext:Hid (SetLoop f w (k+1) wr):=Lib.hid ⟨hz.out,by rw [hl];exact hb.out,hB,hsz⟩
    go_wp2_with fail
    go_roundw
    case rel=>exact ⟨k+1,by omega,by omega,by go_num,hnext⟩
    case measure=>simp [intOf];omega
   ·simp only [if_true] at hl
    by_cases h64:k≤64
    ·have e1:((k:Int) - 1) / 64 = 0:=by omega
     have e2:((k:Int) - 1) % 64 = k - 1:=by omega
     obtain ⟨q1,q2⟩:=with_lo (setVB f k) k (by omega) (by omega)
     have e3:bitOf (k:Int) = IntKind.u64.wrap (2 ^ (k - 1)):=by
      unfold bitOf;rw [e2];congr 2;omega
     rw [e3] at q1
     have hnext:Hid (SetLoop f w (k+1) (wr.setCell ⟨w.heap.size+1,0,none⟩ (.int .u64 (bits .or .u64 (lo (setVB f k)) (IntKind.u64.wrap (2 ^ (k - 1))))))):=Lib.hid
      ⟨(Below.heap_setCell _ _ _ _ (by simp)).trans hz.out,by rw [hl,q1,q2];exact heap_set hb.out 0 _,hB.setCell (by simp) _,by simpa using hsz⟩
     clear q1 q2
     go_wp2_with fail
     go_roundw
     case rel=>exact ⟨k+1,by omega,by omega,by go_num,hnext⟩
     case measure=>simp [intOf];omega
    ·have e1:((k:Int) - 1) / 64 = 1:=by omega
     have e2:((k:Int) - 1) % 64 = k - 65:=by omega
     obtain ⟨q1,q2⟩:=with_hi (setVB f k) k (by omega) (by omega)
     have e3:bitOf (k:Int) = IntKind.u64.wrap (2 ^ (k - 65)):=by
      unfold bitOf;rw [e2];congr 2;omega
     rw [e3] at q1
     have hnext:Hid (SetLoop f w (k+1) (wr.setCell ⟨w.heap.size+1,1,none⟩ (.int .u64 (bits .or .u64 (hi (setVB f k)) (IntKind.u64.wrap (2 ^ (k - 65))))))):=Lib.hid
      ⟨(Below.heap_setCell _ _ _ _ (by simp)).trans hz.out,by rw [hl,q1,q2];exact heap_set hb.out 1 _,hB.setCell (by simp) _,by simpa using hsz⟩
     clear q1 q2
     go_wp2_with fail
     go_roundw
     case rel=>exact ⟨k+1,by omega,by omega,by go_num,hnext⟩
     case measure=>simp [intOf];omega
  ·obtain rfl:k = 129:=by omega
   have d0:decide (((129:Nat):Int) < 129) = false:=by decide
   obtain ⟨c0,c1⟩:=pbox_cells hb
   have hBo:Below w.heap.size w ((wr.setCell ⟨w.heap.size,0,none⟩ (.int .u64 (lo (setVB f 129)))).setCell ⟨w.heap.size,1,none⟩ (.int .u64 (hi (setVB f 129)))):=(hB.setCell (by simp) _).setCell (by simp) _
   obtain ⟨z0,z1⟩:=pbox_cells hz
   have y0:wr.frozen? ⟨w.heap.size,0,none⟩ = false:=by simp [World.frozen?,hz]
   have y1:wr.frozen? ⟨w.heap.size,1,none⟩ = false:=by simp [World.frozen?,hz]
   have r0:((wr.setCell ⟨w.heap.size,0,none⟩ (.int .u64 (lo (setVB f 129)))).setCell ⟨w.heap.size,1,none⟩ (.int .u64 (hi (setVB f 129)))).cell? ⟨w.heap.size,0,none⟩ = some (.int .u64 (lo (setVB f 129))):=by
    rw [World.cell?,heap_set2 hz];rfl
   have r1:((wr.setCell ⟨w.heap.size,0,none⟩ (.int .u64 (lo (setVB f 129)))).setCell ⟨w.heap.size,1,none⟩ (.int .u64 (hi (setVB f 129)))).cell? ⟨w.heap.size,1,none⟩ = some (.int .u64 (hi (setVB f 129))):=by
    rw [World.cell?,heap_set2 hz];rfl
   replace hb:=Lib.hid hb
   replace hz:=Lib.hid hz
   replace hg:=Lib.hid hg
   generalize hx0:lo (setVB f 129) = x0 at *
   generalize hx1:hi (setVB f 129) = x1 at *
   go_wp2_with fail
   exact bodyPost_ret (v:=.agg #[.int .u64 x0,.int .u64 x1]) (by simp [results,Tryz.results113,go_sem,r0,r1]) rfl ⟨by rw [hx0,hx1],hBo⟩
theorem refNone_any (w:World):Calls Tryz.prog 112 #[] w fun e w'=>e = .returned (.slice (some ⟨w.heap.size,0,none⟩) 129 129)∧w' = w.alloc (.cells (madeCells #[.bool false] 129) 4):=by
 have hmk:(Instr.makeSlice 40 (.int .i64 129) (.int .i64 129)).run Tryz.prog w = .ok (.slice (some ⟨w.heap.size,0,none⟩) 129 129) (w.alloc (.cells (madeCells #[.bool false] 129) 4)) :=
  run_make_row' (P:=Tryz.prog) 40 4 (.bool false) 1 Tryz.underlying40 (by kernel_rfl) rfl .i64 .i64 129 (by omega) (by omega) w
 go_enter Tryz.func112,Tryz.ntmps112
 go_wp2_with fail
 go_ret
 exact ⟨rfl,rfl⟩
def flagsL (l:List Int) (v:Nat):Bool:=decide (1≤v) && decide (v≤128) && l.any fun x=>decide (x = (v:Int))
theorem flags_take (l:List Int) (k:Nat) (hk:k < l.length):flagsL (l.take (k+1)) = if decide (1≤l[k]) && decide (l[k]≤128) then setB (flagsL (l.take k)) l[k].toNat else flagsL (l.take k):=by
 funext v
 simp only [flagsL]
 rw [List.take_succ_eq_append_getElem hk,List.any_append]
 split
 ·rename_i h
  simp only [Bool.and_eq_true,decide_eq_true_eq] at h
  simp only [setB,flagsL]
  by_cases hv:v = l[k].toNat
  ·subst hv
   have e:l[k] = ((l[k].toNat:Nat):Int):=by omega
   simp
   omega
  ·rw [if_neg hv]
   have:¬ l[k] = (v:Int):=by omega
   simp [this]
 ·rename_i h
  simp only [Bool.and_eq_true,decide_eq_true_eq] at h
  simp only [flagsL]
  by_cases hv:1≤v∧v≤128
  ·have:¬ l[k] = (v:Int):=by omega
   simp [this]
  ·have:(decide (1≤v) && decide (v≤128)) = false:=by
    cases h1:(decide (1≤v) && decide (v≤128))
    ·rfl
    ·simp only [Bool.and_eq_true,decide_eq_true_eq] at h1;exact absurd h1 hv
   simp [this]
theorem bit_with (s:VSet) (v:Int) (i:Nat) (hi:i < 128):(withS s v).getLsbD i = (s.getLsbD i || decide (v = (i:Int)+1)):=by
 unfold withS
 split
 ·rw [BitVec.getLsbD_or,BitVec.getLsbD_twoPow]
  congr 1
  rw [Bool.eq_iff_iff]
  simp
  omega
 ·have:¬ v = (i:Int)+1:=by omega
  simp [this]
theorem bit_of (l:List Int) (i:Nat) (hi:i < 128):∀ s:VSet,(l.foldl withS s).getLsbD i = (s.getLsbD i || l.any fun x=>decide (x = (i:Int)+1)):=by
 induction l with
 | nil=>intro s;simp
 | cons x r ih =>
   intro s
   rw [List.foldl_cons,ih,bit_with _ _ _ hi,List.any_cons,Bool.or_assoc]
theorem bit_setV (f:Nat→Bool) (k:Nat) (i:Nat) (hi:i < 128):(setVB f k).getLsbD i = (decide (i+1 < k) && f (i+1)):=by
 induction k with
 | zero=>simp [setVB]
 | succ k ih =>
   rw [setVB]
   split
   ·rename_i h
    simp only [Bool.and_eq_true,decide_eq_true_eq] at h
    rw [bit_with _ _ _ hi,ih]
    by_cases e:k = i+1
    ·subst e
     simp [h.2]
    ·have e1:¬ (k:Int) = (i:Int)+1:=by omega
     have e2:(i+1 < k+1)↔(i+1 < k):=by omega
     simp [e1,e2]
   ·rename_i h
    rw [ih]
    by_cases e:k = i+1
    ·subst e
     simp at h
     simp [h]
    ·have e2:(i+1 < k+1)↔(i+1 < k):=by omega
     simp [e2]
theorem setV_flags (l:List Int):setVB (flagsL l) 129 = ofS l:=by
 apply BitVec.eq_of_getLsbD_eq
 intro i hi
 rw [bit_setV _ _ _ hi,ofS,bit_of _ _ hi]
 have h1:i+1≤128:=by omega
 have h2:i+1 < 129:=by omega
 simp [flagsL,h1,h2]
def OfLoop (l:List Int) (w:World) (k:Nat) (wr:World):Prop :=
 wr.heap[w.heap.size]? = some (.cells #[.int .u64 0,.int .u64 0] 82 (0,0))∧BoolsAt wr (w.heap.size+1) 4 129 (flagsL (l.take k))∧Below w.heap.size w wr∧w.heap.size+1 < wr.heap.size
set_option maxRecDepth 100000 in
set_option maxHeartbeats 2000000 in
theorem refOf_any (l:List Int) (v:Value) (w:World) (hv:SlI w v l) (hl:l.length≤1048576) :
  Calls Tryz.prog 84 #[v] w fun e w'=>e = .returned (encS (ofS l))∧Below w.heap.size w w':=by
 obtain ⟨ba,cp,rfl,hv⟩:=hv
 have hcell:∀ k (hk:k < l.length),∃ b o,ba = some ⟨b,o,none⟩∧w.cell? ⟨b,o+k,none⟩ = some (.int .i64 l[k]):=fun k hk=>by
  rcases hv with ⟨_,rfl,_⟩ | ⟨b,o,h1,h2⟩
  ·simp at hk
  ·exact ⟨b,o,h1,h2 k hk⟩
 clear hv
 replace hcell:=Lib.hid hcell
 unfold encS
 have hbox:=heap_alloc_new w (.cells #[.int .u64 0,.int .u64 0] 82)
 have hb1:=(Below.refl w.heap.size w).alloc (Nat.le_refl _) (.cells #[.int .u64 0,.int .u64 0] 82)
 have hs1:(w.alloc (.cells #[.int .u64 0,.int .u64 0] 82)).heap.size = w.heap.size+1:=by simp
 go_enter Tryz.func84,Tryz.ntmps84
 go_wp2_with fail
 generalize w.alloc (.cells #[.int .u64 0,.int .u64 0] 82) = w1 at *
 refine (refNone_any w1).mono ?_
 rintro e w2 ⟨rfl,rfl⟩
 have h0:Hid (OfLoop l w 0 (w1.alloc (.cells (madeCells #[.bool false] 129) 4))):=Lib.hid
  ⟨(Below.heap_alloc _ _ _ (by omega)).trans hbox,by
    have:=boolsNew w1 _ 4 129 (madeRep 129) (w.heap.size+1) hs1.symm
    have e0:flagsL (l.take 0) = fun _=>false:=by funext v;simp [flagsL]
    rw [e0];exact this,hb1.alloc (by omega) _,by simp;omega⟩
 rw [hs1]
 clear hbox hb1
 go_wp2_with fail
 generalize w1.alloc (.cells (madeCells #[.bool false] 129) 4) = w2 at *
 clear hs1
 go_loopw [4] (fun i wr=>∃ k:Nat,k≤l.length∧i = .int .i64 k∧Hid (OfLoop l w k wr)) (fun i _=>l.length - (intOf i).toNat)
 case atStart=>exact ⟨0,Nat.zero_le _,rfl,h0⟩
 case round =>
  clear h0
  obtain ⟨k,hk,rfl,hI⟩:=hrel
  obtain ⟨hz,hb,hB,hsz⟩:=hI.out
  clear hI
  by_cases hlt:k < l.length
  ·obtain ⟨b,o,rfl,hc⟩:=hcell.out k hlt
   have hft:=flags_take l k hlt
   have cg:=(hB.cell (p:=⟨b,o+k,none⟩) (World.block_lt_of_cell? w _ hc)).trans hc
   clear hc
   generalize l[k] = x at *
   by_cases h1:1≤x
   ·by_cases h2:x≤128
    ·obtain ⟨n,rfl⟩:∃ n:Nat,x = n:=⟨x.toNat,by omega⟩
     have d1:decide ((1:Int)≤n) = true:=decide_eq_true h1
     have d2:decide ((n:Int)≤128) = true:=decide_eq_true h2
     have d3:decide ((n:Int) < 129) = true:=decide_eq_true (by omega)
     have d0:decide (0≤(n:Int)) = true:=decide_eq_true (by omega)
     rw [d1,d2] at hft
     simp only [Bool.and_true,if_true,Int.toNat_natCast] at hft
     have hb2:=hb.set n
     rw [←hft] at hb2
     obtain ⟨r0,r1⟩:=hb.cell (j:=n) (by omega)
     have hnext:Hid (OfLoop l w (k+1) (wr.setCell ⟨w.heap.size+1,n,none⟩ (.bool true))):=Lib.hid
      ⟨(Below.heap_setCell _ _ _ _ (by simp)).trans hz,hb2,hB.setCell (by simp) _,by simpa using hsz⟩
     clear hft hb2
     replace hb:=Lib.hid hb
     replace hz:=Lib.hid hz
     go_wp2_with fail
     go_roundw
     case rel=>exact ⟨k+1,by omega,by go_num,hnext⟩
     case measure=>simp [intOf];omega
    ·have d1:decide (1≤x) = true:=decide_eq_true h1
     have d2:decide (x≤128) = false:=decide_eq_false h2
     rw [d1,d2] at hft
     simp only [Bool.and_false,Bool.false_eq_true,if_false] at hft
     have hnext:Hid (OfLoop l w (k+1) wr):=Lib.hid ⟨hz,by rw [hft];exact hb,hB,hsz⟩
     clear hft
     replace hb:=Lib.hid hb
     replace hz:=Lib.hid hz
     go_wp2_with fail
     go_roundw
     case rel=>exact ⟨k+1,by omega,by go_num,hnext⟩
     case measure=>simp [intOf];omega
   ·have d1:decide (1≤x) = false:=decide_eq_false h1
    rw [d1] at hft
    simp only [Bool.false_and,Bool.false_eq_true,if_false] at hft
    have hnext:Hid (OfLoop l w (k+1) wr):=Lib.hid ⟨hz,by rw [hft];exact hb,hB,hsz⟩
    clear hft
    replace hb:=Lib.hid hb
    replace hz:=Lib.hid hz
    go_wp2_with fail
    go_roundw
    case rel=>exact ⟨k+1,by omega,by go_num,hnext⟩
    case measure=>simp [intOf];omega
  ·obtain rfl:k = l.length:=by omega
   rw [List.take_length] at hb
   have hq:=refSet_any (flagsL l) wr (w.heap.size+1) 129 hb
   rw [setV_flags] at hq
   unfold encS at hq
   replace hb:=Lib.hid hb
   replace hz:=Lib.hid hz
   go_wp2_with fail
   refine hq.mono ?_
   rintro e w3 ⟨rfl,hb3⟩
   have hB3:=hB.trans (hb3.mono hB.size)
   have hz3:=(hb3.block w.heap.size (by omega)).trans hz.out
   have hBo:Below w.heap.size w ((w3.setCell ⟨w.heap.size,0,none⟩ (.int .u64 (lo (ofS l)))).setCell ⟨w.heap.size,1,none⟩ (.int .u64 (hi (ofS l)))):=(hB3.setCell (by simp) _).setCell (by simp) _
   obtain ⟨z0,z1⟩:=pbox_cells hz3
   have y0:w3.frozen? ⟨w.heap.size,0,none⟩ = false:=by simp [World.frozen?,hz3]
   have y1:w3.frozen? ⟨w.heap.size,1,none⟩ = false:=by simp [World.frozen?,hz3]
   have r0:((w3.setCell ⟨w.heap.size,0,none⟩ (.int .u64 (lo (ofS l)))).setCell ⟨w.heap.size,1,none⟩ (.int .u64 (hi (ofS l)))).cell? ⟨w.heap.size,0,none⟩ = some (.int .u64 (lo (ofS l))):=by
    rw [World.cell?,heap_set2 hz3];rfl
   have r1:((w3.setCell ⟨w.heap.size,0,none⟩ (.int .u64 (lo (ofS l)))).setCell ⟨w.heap.size,1,none⟩ (.int .u64 (hi (ofS l)))).cell? ⟨w.heap.size,1,none⟩ = some (.int .u64 (hi (ofS l))):=by
    rw [World.cell?,heap_set2 hz3];rfl
   clear hz3
   generalize hx0:lo (ofS l) = x0 at *
   generalize hx1:hi (ofS l) = x1 at *
   go_wp2_with fail
   exact bodyPost_ret (v:=.agg #[.int .u64 x0,.int .u64 x1]) (by simp [results,Tryz.results84,go_sem,r0,r1]) rfl ⟨by rw [hx0,hx1],hBo⟩
end Go.Proofs.YtemnmcfmabamcaaGreatDoor
namespace Go.Proofs.YtemnmcfmabamcaaGreatDoor
open Go Go.RowKit
def belowR (t:List VN):Nat→Nat→Option (List Int)
 | 0,_=>none
 | f+1,v=>match t[v]? with
   | none=>none
   | some x =>
     if x.left < 0 then some [x.var]
     else match belowR t f x.left.toNat,belowR t f x.right.toNat with
      | some a,some b=>if 0≤x.right∧a≠[]∧b≠[]∧a.length≤128∧b.length≤128∧listV (ofS (a++b))≠[] then some (listV (ofS (a++b))) else none
      | _,_=>none
def RetOwn (l:List Int) (w:World):Ending→World→Prop:=fun e w'=>∃ v,e = .returned v∧w'.ownsRow w.heap.size 3 1 v l.length (l.map encZ)∧Below w.heap.size w w'
theorem own_lift {w w':World} {B n:Nat} {v:Value} {l:List Int} (h:w.ownsRow B 3 1 v n (l.map encZ)) (hb:Below w.heap.size w w'):w'.ownsRow B 3 1 v n (l.map encZ) :=
 ownsRow_same h (fun _ hg=>hb.block _ (own_lt h hg).1)
theorem own_lift' {w w':World} {B n:Nat} {v:Value} {xs:List Value} (h:w.ownsRow B 3 1 v n xs) (hb:Below w.heap.size w w'):w'.ownsRow B 3 1 v n xs :=
 ownsRow_same h (fun _ hg=>hb.block _ (own_lt h hg).1)
theorem news_lift {w w':World} {ad:Addr} {xs:List Value} (h:∀ j u,xs[j]? = some u→w.cell? (ad.add j) = some u) (hb:Below w.heap.size w w'):∀ j u,xs[j]? = some u→w'.cell? (ad.add j) = some u :=
 fun j u hj=>(hb.cell (World.block_lt_of_cell? w _ (h j u hj))).trans (h j u hj)
theorem news_grown {w w':World} {g:Nat} {row:Option Nat} {xs:List Value} (h:∀ j u,xs[j]? = some u→w.cell? (Addr.add ⟨g,0,none⟩ j) = some u) (hg:w.grownBy w' row) (hne:row≠some g):∀ j u,xs[j]? = some u→w'.cell? (Addr.add ⟨g,0,none⟩ j) = some u:=by
 intro j u hj
 have h1:=h j u hj
 have hb:(Addr.add ⟨g,0,none⟩ j).block = g:=by unfold Addr.add;split <;> rfl
 rw [←h1]
 refine hg.cell_far _ (World.block_lt_of_cell? w _ h1) ?_
 rw [hb];exact fun e=>hne e.symm
theorem own_none {w:World} {B:Nat} (hB:B≤w.heap.size):(w.alloc (.cells #[] 3)).ownsRow B 3 1 (.slice (some ⟨w.heap.size,0,none⟩) 0 0) 0 (([]:List Int).map encZ) :=
 ⟨rfl,.inr ⟨w.heap.size,0,#[],rfl,hB,heap_alloc_new w _,by first | omega | decide | simp,by first | omega | decide | simp,by first | omega | decide | simp,by first | rfl | simp⟩⟩
set_option maxRecDepth 100000 in
set_option maxHeartbeats 20000000 in
theorem refBelow_any {t:List VN} (f:Nat):∀ (w:World) (b o cap v:Nat) (l:List Int),TreeAt w b o t→t.length≤1048576→belowR t f v = some l →
  Calls Tryz.prog 72 #[.slice (some ⟨b,o,none⟩) t.length cap,.int .i64 v] w (RetOwn l w):=by
 induction f with
 | zero=>intro w b o cap v l _ _ h;cases h
 | succ f ih =>
   intro w b o cap v l ht htl h
   rw [belowR] at h
   split at h
   ·cases h
   rename_i x hx
   have hv:v < t.length:=(List.getElem?_eq_some_iff.1 hx).1
   have hxe:t[v] = x:=(List.getElem?_eq_some_iff.1 hx).2
   obtain ⟨n0,n1,n2⟩:=ht.node hv
   rw [hxe] at n0 n1 n2
   clear hx hxe
   obtain ⟨xl,xr,xv⟩:=x
   simp only at h n0 n1 n2
   have q0:(0:Int)≤v:=by omega
   have q1:(v:Int) < t.length:=by omega
   have q2:decide ((0:Int)≤v) = true:=decide_eq_true q0
   split at h
   ·rename_i hlf
    have d0:decide (xl < 0) = true:=decide_eq_true hlf
    cases h
    have hfin:RetOwn [xv] w (.returned (.slice (some ⟨w.heap.size,0,none⟩) 1 1)) (w.alloc (.cells #[.int .i64 xv] 3)) :=
     ⟨_,rfl,⟨rfl,.inr ⟨w.heap.size,1,#[.int .i64 xv],rfl,Nat.le_refl _,heap_alloc_new w _,by simp only [List.length_cons,List.length_nil];omega,by decide,rfl,rfl⟩⟩,(Below.refl _ w).alloc (Nat.le_refl _) _⟩
    clear ht ih
    go_enter Tryz.func72,Tryz.ntmps72
    go_wp2_with fail
    go_ret
    exact hfin
   rename_i hlf
   have d0:decide (xl < 0) = false:=decide_eq_false hlf
   obtain ⟨nl,rfl⟩:∃ n:Nat,xl = n:=⟨xl.toNat,by omega⟩
   split at h
   case h_2=>cases h
   rename_i l1 l2 hl1 hl2
   split at h
   case isFalse=>cases h
   rename_i hcond
   obtain ⟨hr,hne1,hne2,hs1,hs2,hne⟩:=hcond
   obtain ⟨nr,rfl⟩:∃ n:Nat,xr = n:=⟨xr.toNat,by omega⟩
   simp only [Int.toNat_natCast] at hl1 hl2
   cases h
   have hc1:∀ W,Below w.heap.size w W→Calls Tryz.prog 72 #[.slice (some ⟨b,o,none⟩) t.length cap,.int .i64 nl] W (RetOwn l1 W):=fun W hW =>
    ih W b o cap nl l1 (fun j u hj=>(hW.cell (World.block_lt_of_cell? w _ (ht j u hj))).trans (ht j u hj)) htl hl1
   have hc2:∀ W,Below w.heap.size w W→Calls Tryz.prog 72 #[.slice (some ⟨b,o,none⟩) t.length cap,.int .i64 nr] W (RetOwn l2 W):=fun W hW =>
    ih W b o cap nr l2 (fun j u hj=>(hW.cell (World.block_lt_of_cell? w _ (ht j u hj))).trans (ht j u hj)) htl hl2
   have F:∀ W,Below w.heap.size w W→W.cell? ⟨b,o+v * 3,none⟩ = some (.int .i64 nl)∧W.cell? ⟨b,o+v * 3+1,none⟩ = some (.int .i64 nr):=fun W hW =>
    ⟨(hW.cell (World.block_lt_of_cell? w _ n0)).trans n0,(hW.cell (World.block_lt_of_cell? w _ n1)).trans n1⟩
   have hb0:Hid (Below w.heap.size w w):=Lib.hid (Below.refl _ w)
   obtain ⟨i0,hi0,hz0,hz1,hz2⟩:=info_parts int_info
   have hlen1:(l1.map encZ).length = l1.length * 1:=by simp
   have hlen2:(l2.map encZ).length = l2.length * 1:=by simp
   have hone:∀ l:List Int,∀ u∈l.map encZ,u.oneCell' = true:=fun l u hu=>by
    obtain ⟨z,_,rfl⟩:=List.mem_map.1 hu;rfl
   have hp1:0 < l1.length:=List.length_pos_iff.2 hne1
   have hp2:0 < l2.length:=List.length_pos_iff.2 hne2
   clear ih ht hl1 hl2 n2
   have hbe:Below w.heap.size w (w.alloc (.cells #[] 3)).drew:=((Below.refl _ w).alloc (Nat.le_refl _) _).drew
   have hC1a:=Lib.hid (hc1 w.drew (Below.refl _ w).drew)
   have hC1b:=Lib.hid (hc1 (w.alloc (.cells #[] 3)).drew hbe)
   have hN:Hid ((w.alloc (.cells #[] 3)).drew.ownsRow w.heap.size 3 1 (.slice (some ⟨w.heap.size,0,none⟩) 0 0) 0 (([]:List Int).map encZ)):=Lib.hid (own_none (Nat.le_refl _))
   have hle:w.heap.size≤(w.alloc (.cells #[] 3)).drew.heap.size:=by simp [World.drew]
   have hbe:=Lib.hid hbe
   have hle:=Lib.hid hle
   replace hc1:=Lib.hid hc1
   replace hc2:=Lib.hid hc2
   replace F:=Lib.hid F
   go_enter Tryz.func72,Tryz.ntmps72
   go_wp2_with fail
   clear n0 n1
   have hM0:True:=trivial
   go_region_held3 (fun W=>W.cell? ⟨b,o+v * 3,none⟩ = some (.int .i64 nl)∧W.cell? ⟨b,o+v * 3+1,none⟩ = some (.int .i64 nr))
    (first | exact F.out _ hb0.out | exact F.out _ hb0.out.drew | exact F.out _ (hb0.out.alloc (Nat.le_refl _) _) | exact F.out _ (hb0.out.alloc (Nat.le_refl _) _).drew | exact F.out _ hB5.out | exact F.out _ hB4.out | exact F.out _ hB3.out | exact F.out _ hB2.out | exact F.out _ (hB2.out.alloc hB2.out.size _) | exact F.out _ hB1.out | exact F.out _ (hB1.out.alloc hB1.out.size _) | go_keep)
    (first
      | (go_at_call 72;clear hM0;refine hC1a.out.mono ?_;rintro e w1 ⟨v1,rfl,ho1,hb1⟩;have hB1:=Lib.hid (hb0.out.drew.trans hb1);obtain ⟨g1,k1,rfl,hg1,hx1⟩:=own_open ho1 hne1;have ho1:=Lib.hid ho1;have hx1:=Lib.hid hx1;clear hb1;have hM1a:True:=trivial)
      | (go_at_call 72;clear hM0;refine hC1b.out.mono ?_;rintro e w1 ⟨v1,rfl,ho1,hb1⟩;have hB1:=Lib.hid (hbe.out.trans (hb1.mono hle.out));have hD1:=Lib.hid (own_lift hN.out hb1);obtain ⟨g1,k1,rfl,hg1,hx1⟩:=own_open ho1 hne1;have ho1:=Lib.hid ho1;have hx1:=Lib.hid hx1;clear hb1;have hM1b:True:=trivial)
      | (go_at_call 72;clear hM3;refine (hc2.out w3 hB3.out).mono ?_;rintro e w4 ⟨v2,rfl,ho2,hb2⟩;have hB4:=Lib.hid (hB3.out.trans (hb2.mono hB3.out.size));have ho4:=Lib.hid (own_lift' ho3.out hb2);obtain ⟨g2,k2,rfl,hg2,hx2⟩:=own_open ho2 hne2;have ho2:=Lib.hid ho2;have hx4:=Lib.hid hx2;clear hb2;have hM4:True:=trivial)
      | (go_at_call 72;clear hM1b;refine (hc2.out w1 hB1.out).mono ?_;rintro e w2 ⟨v2,rfl,ho2,hb2⟩;have hB2:=Lib.hid (hB1.out.trans (hb2.mono hB1.out.size));have hx1:=Lib.hid (news_lift hx1.out hb2);have hD2:=Lib.hid (own_lift hD1.out hb2);have hlt:=Lib.hid (own_lt hD1.out rfl).1;obtain ⟨g2,k2,rfl,hg2,hx2⟩:=own_open ho2 hne2;have ho2:=Lib.hid ho2;have hx2:=Lib.hid hx2;clear hb2;have hM2b:True:=trivial)
      | (go_at_call 72;clear hM1a;refine (hc2.out (w1.alloc (.cells #[] 3)) (hB1.out.alloc hB1.out.size _)).mono ?_;rintro e w2 ⟨v2,rfl,ho2,hb2⟩;have hB2:=Lib.hid ((hB1.out.alloc hB1.out.size _).trans (hb2.mono (hB1.out.alloc hB1.out.size _).size));have hx1:=Lib.hid (news_lift (news_lift hx1.out ((Below.refl _ w1).alloc (Nat.le_refl _) _)) hb2);have hD2:=Lib.hid (own_lift (own_none hB1.out.size) hb2);have hlt:=Lib.hid (own_lt (own_none hB1.out.size) rfl).1;obtain ⟨g2,k2,rfl,hg2,hx2⟩:=own_open ho2 hne2;have ho2:=Lib.hid ho2;have hx2:=Lib.hid hx2;clear hb2;have hM2c:True:=trivial)
      | (go_at_call 72;clear hM1a;refine (hc2.out w1 hB1.out).mono ?_;rintro e w2 ⟨v2,rfl,ho2,hb2⟩;have hB2:=Lib.hid (hB1.out.trans (hb2.mono hB1.out.size));have hx1:=Lib.hid (news_lift hx1.out hb2);obtain ⟨g2,k2,rfl,hg2,hx2⟩:=own_open ho2 hne2;have ho2:=Lib.hid ho2;have hx2:=Lib.hid hx2;clear hb2;have hM2a:True:=trivial)
      | (clear hM1b;refine step_append_lies w1 (by rfl) _ _ 76 (by rfl) w.heap.size 3 i0 (.int .i64 0) 1 8 Tryz.underlying76 hi0 hz0 hz1 hz2 rfl (by decide) (.slice (some ⟨w.heap.size,0,none⟩) 0 0) 0 (([]:List Int).map encZ) (by rfl) hD1.out ⟨g1,0,none⟩ l1.length k1 (l1.map encZ) (by rfl) hlen1 hx1.out (hone l1) (by omega) (by unfold maxLen;omega) (by omega) (by exact hB1.out.size) _ rfl ?_;intro g3 cap3 w3 ho3 hg3 _ _;have hB3:=Lib.hid (Below.grown hB1.out hg3 (by exact hB1.out.size) (fun k e=>own_ge hD1.out e));clear hg3;rw [Nat.zero_add] at ho3;have ho3:Hid (w3.ownsRow w.heap.size 3 1 (.slice (some ⟨g3,0,none⟩) l1.length cap3) l1.length (l1.map encZ)):=Lib.hid ho3;have hM3:True:=trivial)
      | (clear hM1a;refine step_append_lies (w1.alloc (.cells #[] 3)) (by rfl) _ _ 76 (by rfl) w.heap.size 3 i0 (.int .i64 0) 1 8 Tryz.underlying76 hi0 hz0 hz1 hz2 rfl (by decide) (.slice (some ⟨w1.heap.size,0,none⟩) 0 0) 0 (([]:List Int).map encZ) (by rfl) (own_none hB1.out.size) ⟨g1,0,none⟩ l1.length k1 (l1.map encZ) (by rfl) hlen1 (news_lift hx1.out ((Below.refl _ w1).alloc (Nat.le_refl _) _)) (hone l1) (by omega) (by unfold maxLen;omega) (by omega) (by exact (hB1.out.alloc hB1.out.size _).size) _ rfl ?_;intro g3 cap3 w3 ho3 hg3 _ _;have hB3:=Lib.hid (Below.grown (hB1.out.alloc hB1.out.size _) hg3 (by exact (hB1.out.alloc hB1.out.size _).size) (fun k e=>own_ge (own_none hB1.out.size) e));clear hg3;rw [Nat.zero_add] at ho3;have ho3:Hid (w3.ownsRow w.heap.size 3 1 (.slice (some ⟨g3,0,none⟩) l1.length cap3) l1.length (l1.map encZ)):=Lib.hid ho3;have hM3:True:=trivial)
      | (clear hM2b;refine step_append_lies w2 (by rfl) _ _ 76 (by rfl) w.heap.size 3 i0 (.int .i64 0) 1 8 Tryz.underlying76 hi0 hz0 hz1 hz2 rfl (by decide) (.slice (some ⟨w.heap.size,0,none⟩) 0 0) 0 (([]:List Int).map encZ) (by rfl) hD2.out ⟨g1,0,none⟩ l1.length k1 (l1.map encZ) (by rfl) hlen1 hx1.out (hone l1) (by omega) (by unfold maxLen;omega) (by omega) (by exact hB2.out.size) _ rfl ?_;intro g3 cap3 w3 ho3 hg3 _ _;have hB3:=Lib.hid (Below.grown hB2.out hg3 (by exact hB2.out.size) (fun k e=>own_ge hD2.out e));have hx3:=Lib.hid (news_grown hx2.out hg3 (fun e=>by have h1:=hlt.out;have h2:=hg2;simp only [Value.ownBlock,Option.some.injEq] at e;exact absurd (e ▸ h1) (Nat.not_lt.2 h2)));clear hg3;rw [Nat.zero_add] at ho3;have ho3:Hid (w3.ownsRow w.heap.size 3 1 (.slice (some ⟨g3,0,none⟩) l1.length cap3) l1.length (l1.map encZ)):=Lib.hid ho3;have hM5:True:=trivial)
      | (clear hM2c;refine step_append_lies w2 (by rfl) _ _ 76 (by rfl) w.heap.size 3 i0 (.int .i64 0) 1 8 Tryz.underlying76 hi0 hz0 hz1 hz2 rfl (by decide) (.slice (some ⟨w1.heap.size,0,none⟩) 0 0) 0 (([]:List Int).map encZ) (by rfl) hD2.out ⟨g1,0,none⟩ l1.length k1 (l1.map encZ) (by rfl) hlen1 hx1.out (hone l1) (by omega) (by unfold maxLen;omega) (by omega) (by exact hB2.out.size) _ rfl ?_;intro g3 cap3 w3 ho3 hg3 _ _;have hB3:=Lib.hid (Below.grown hB2.out hg3 (by exact hB2.out.size) (fun k e=>own_ge hD2.out e));have hx3:=Lib.hid (news_grown hx2.out hg3 (fun e=>by have h1:=hlt.out;have h2:=hg2;simp only [Value.ownBlock,Option.some.injEq] at e;exact absurd (e ▸ h1) (Nat.not_lt.2 h2)));clear hg3;rw [Nat.zero_add] at ho3;have ho3:Hid (w3.ownsRow w.heap.size 3 1 (.slice (some ⟨g3,0,none⟩) l1.length cap3) l1.length (l1.map encZ)):=Lib.hid ho3;have hM5:True:=trivial)
      | (clear hM2a;refine step_append_lies (w2.alloc (.cells #[] 3)) (by rfl) _ _ 76 (by rfl) w.heap.size 3 i0 (.int .i64 0) 1 8 Tryz.underlying76 hi0 hz0 hz1 hz2 rfl (by decide) (.slice (some ⟨w2.heap.size,0,none⟩) 0 0) 0 (([]:List Int).map encZ) (by rfl) (own_none hB2.out.size) ⟨g1,0,none⟩ l1.length k1 (l1.map encZ) (by rfl) hlen1 (news_lift hx1.out ((Below.refl _ w2).alloc (Nat.le_refl _) _)) (hone l1) (by omega) (by unfold maxLen;omega) (by omega) (by exact (hB2.out.alloc hB2.out.size _).size) _ rfl ?_;intro g3 cap3 w3 ho3 hg3 _ _;have hB3:=Lib.hid (Below.grown (hB2.out.alloc hB2.out.size _) hg3 (by exact (hB2.out.alloc hB2.out.size _).size) (fun k e=>own_ge (own_none hB2.out.size) e));have hx3:=Lib.hid (news_grown (news_lift hx2.out ((Below.refl _ w2).alloc (Nat.le_refl _) _)) hg3 (fun e=>by have h1:=(own_lt ho2.out rfl).1;simp only [Value.ownBlock,Option.some.injEq] at e;exact absurd h1 (e ▸ Nat.lt_irrefl _)));clear hg3;rw [Nat.zero_add] at ho3;have ho3:Hid (w3.ownsRow w.heap.size 3 1 (.slice (some ⟨g3,0,none⟩) l1.length cap3) l1.length (l1.map encZ)):=Lib.hid ho3;have hM5:True:=trivial)
      | (clear hM4;refine step_append_lies w4 (by rfl) _ _ 76 (by rfl) w.heap.size 3 i0 (.int .i64 0) 1 8 Tryz.underlying76 hi0 hz0 hz1 hz2 rfl (by decide) (.slice (some ⟨g3,0,none⟩) l1.length cap3) l1.length (l1.map encZ) (by rfl) ho4.out ⟨g2,0,none⟩ l2.length k2 (l2.map encZ) (by rfl) hlen2 hx4.out (hone l2) (by omega) (by unfold maxLen;omega) (by omega) (by exact hB4.out.size) _ rfl ?_;intro g5 cap5 w5 ho5 hg5 _ _;have hB5:=Lib.hid (Below.grown hB4.out hg5 (by exact hB4.out.size) (fun k e=>own_ge ho4.out e));clear hg5;have ho5:=Lib.hid ho5)
      | (clear hM5;refine step_append_lies w3 (by rfl) _ _ 76 (by rfl) w.heap.size 3 i0 (.int .i64 0) 1 8 Tryz.underlying76 hi0 hz0 hz1 hz2 rfl (by decide) (.slice (some ⟨g3,0,none⟩) l1.length cap3) l1.length (l1.map encZ) (by rfl) ho3.out ⟨g2,0,none⟩ l2.length k2 (l2.map encZ) (by rfl) hlen2 hx3.out (hone l2) (by omega) (by unfold maxLen;omega) (by omega) (by exact hB3.out.size) _ rfl ?_;intro g5 cap5 w5 ho5 hg5 _ _;have hB5:=Lib.hid (Below.grown hB3.out hg5 (by exact hB3.out.size) (fun k e=>own_ge ho3.out e));clear hg5;have ho5:=Lib.hid ho5))
   all_goals
    have hlen:(l1++l2).length = l1.length+l2.length:=by simp
    have hsl:SlI w5 (.slice (some ⟨g5,0,none⟩) (l1.length+l2.length) cap5) (l1++l2):=owns_slI (base:=w.heap.size) (own_cast ho5.out hlen.symm (by simp))
    have hof:=refOf_any (l1++l2) _ w5 hsl (by rw [hlen];omega)
    clear hsl
    go_wp2_with fail
    refine hof.mono ?_
    rintro e w6 ⟨rfl,hb6⟩
    have hB6:=Lib.hid (hB5.out.trans (hb6.mono hB5.out.size))
    clear hb6 hof
    have hli:=refList_any (ofS (l1++l2)) w6
    go_wp2_with fail
    refine hli.mono ?_
    rintro e w7 ⟨v7,rfl,ho7,hb7⟩
    have hfin:RetOwn (listV (ofS (l1++l2))) w (.returned v7) w7:=⟨_,rfl,own_base ho7 hB6.out.size,hB6.out.trans (hb7.mono hB6.out.size)⟩
    clear ho7 hb7 hli
    go_wp2_with fail
    go_ret
    exact hfin
def varsR (t:List VN):Option (List Int):=belowR t (t.length+1) (t.length - 1)
set_option maxRecDepth 100000 in
set_option maxHeartbeats 1000000 in
theorem refVars_any {t:List VN} (w:World) (b o cap:Nat) (l:List Int) (ht:TreeAt w b o t) (h0:0 < t.length) (htl:t.length≤1048576) (h:varsR t = some l) :
  Calls Tryz.prog 36 #[.slice (some ⟨b,o,none⟩) t.length cap] w (RetOwn l w):=by
 have hq:=refBelow_any (t.length+1) w b o cap (t.length - 1) l ht htl h
 have e:((t.length - 1:Nat):Int) = (t.length:Int) - 1:=by omega
 rw [e] at hq
 clear h ht
 go_enter Tryz.func36,Tryz.ntmps36
 go_wp2_with fail
 refine hq.mono ?_
 rintro e w1 ⟨v1,rfl,ho1,hb1⟩
 go_wp2_with fail
 go_ret
 exact ⟨_,rfl,ho1,hb1⟩
end Go.Proofs.YtemnmcfmabamcaaGreatDoor
