import Derived.Test.YtmnjakejhbpkoaaGreatDoorWVars
import Derived.Test.YtmnjakejhbpkoaaGreatDoorWAnd
import Derived.Test.YtmnjakejhbpkoaaGreatDoorWVt
import Derived.Test.YtmnjakejhbpkoaaGreatDoorWBase
import Derived.Deep.RegionHeld3
section
set_option linter.unusedSimpArgs false
set_option linter.unusedVariables false
namespace Go.Proofs.YtmnjakejhbpkoaaGreatDoor
open Go Go.RowKit
theorem shr_bit (x:BitVec 64) (n:Nat):((((x.toNat:Int) / 2 ^ n).tmod 2) == 1) = x.getLsbD n:=by
 have h1:((x.toNat:Int) / 2 ^ n) = ((x.toNat / 2 ^ n:Nat):Int):=by simp
 rw [h1]
 have h2:(((x.toNat / 2 ^ n:Nat):Int)).tmod 2 = ((x.toNat / 2 ^ n % 2:Nat):Int):=by
  rw [Int.tmod_eq_emod_of_nonneg (Int.natCast_nonneg _)];simp
 rw [h2,BitVec.getLsbD,Nat.testBit_eq_decide_div_mod_eq]
 rw [Bool.eq_iff_iff]
 simp
 omega
theorem shr_lo (a:VSet) (v:Int) (h1:1≤v) (h2:v≤64):((lo a / 2 ^ (v.toNat - 1)).tmod 2 == 1) = hasS a v:=by
 rw [lo,shr_bit,BitVec.getLsbD_setWidth]
 have e1:v.toNat - 1 = (v - 1).toNat:=by omega
 rw [e1]
 simp only [hasS,h1,show v≤128 from by omega,show (v-1).toNat < 64 from by omega,decide_true,Bool.true_and]
theorem shr_hi (a:VSet) (v:Int) (h1:65≤v) (h2:v≤128):((hi a / 2 ^ (v - 65).toNat).tmod 2 == 1) = hasS a v:=by
 have e1:64+(v - 65).toNat = (v - 1).toNat:=by omega
 rw [hi,shr_bit,BitVec.getLsbD_setWidth,BitVec.getLsbD_ushiftRight,e1]
 simp only [hasS,h2,show 1≤v from by omega,show (v-65).toNat < 64 from by omega,decide_true,Bool.true_and]
set_option maxRecDepth 100000 in
set_option maxHeartbeats 1000000 in
theorem refHas_no (a:VSet) (v:Int) (w:World) (h:v < 1∨128 < v):Calls Tryz.prog 155 #[encS a,.int .i64 v] w fun e w'=>e = .returned (.bool false)∧Ext w w':=by
 have hx:=(Ext.refl w).alloc (.cells #[.int .u64 (lo a),.int .u64 (hi a)] 41)
 unfold encS
 by_cases h1:v < 1
 ·have d0:decide (v < 1) = true:=decide_eq_true h1
  go_enter Tryz.func155,Tryz.ntmps155
  go_wp2_with fail
  all_goals go_ret
  all_goals exact ⟨rfl,hx⟩
 ·have d0:decide (v < 1) = false:=decide_eq_false h1
  have d1:decide (128 < v) = true:=decide_eq_true (by omega)
  go_enter Tryz.func155,Tryz.ntmps155
  go_wp2_with fail
  all_goals go_ret
  all_goals exact ⟨rfl,hx⟩
set_option maxRecDepth 100000 in
set_option maxHeartbeats 1000000 in
theorem refHas_lo (a:VSet) (v:Int) (w:World) (h1:1≤v) (h2:v≤64):Calls Tryz.prog 155 #[encS a,.int .i64 v] w fun e w'=>e = .returned (.bool (hasS a v))∧Ext w w':=by
 have hx:=(Ext.refl w).alloc (.cells #[.int .u64 (lo a),.int .u64 (hi a)] 41)
 have d1:decide (v < 1) = false:=decide_eq_false (by omega)
 have d2:decide (v > 128) = false:=decide_eq_false (by omega)
 have e1:(v - 1) / 64 = 0:=by omega
 have e2:(v - 1) % 64 = v - 1:=by omega
 have hb:=Lib.hid (shr_lo a v h1 h2)
 unfold encS
 go_enter Tryz.func155,Tryz.ntmps155
 go_wp2_with fail
 go_ret
 exact ⟨by rw [←hb.out] <;> rfl,hx⟩
set_option maxRecDepth 100000 in
set_option maxHeartbeats 1000000 in
theorem refHas_hi (a:VSet) (v:Int) (w:World) (h1:65≤v) (h2:v≤128):Calls Tryz.prog 155 #[encS a,.int .i64 v] w fun e w'=>e = .returned (.bool (hasS a v))∧Ext w w':=by
 have hx:=(Ext.refl w).alloc (.cells #[.int .u64 (lo a),.int .u64 (hi a)] 41)
 have d1:decide (v < 1) = false:=decide_eq_false (by omega)
 have d2:decide (v > 128) = false:=decide_eq_false (by omega)
 have e1:(v - 1) / 64 = 1:=by omega
 have e2:(v - 1) % 64 = v - 65:=by omega
 have hb:=Lib.hid (shr_hi a v h1 h2)
 unfold encS
 go_enter Tryz.func155,Tryz.ntmps155
 go_wp2_with fail
 go_ret
 exact ⟨by rw [←hb.out] <;> rfl,hx⟩
theorem refHas_any (a:VSet) (v:Int) (w:World):Calls Tryz.prog 155 #[encS a,.int .i64 v] w fun e w'=>e = .returned (.bool (hasS a v))∧Ext w w':=by
 by_cases h:v < 1∨128 < v
 ·have hv:hasS a v = false:=by simp [hasS];omega
  rw [hv];exact refHas_no a v w h
 ·by_cases hs:v≤64
  ·exact refHas_lo a v w (by omega) hs
  ·exact refHas_hi a v w (by omega) (by omega)
def listVK (s:VSet):Nat→List Int
 | 0=>[]
 | k+1=>if hasS s ((k:Int)+1) then listVK s k++[(k:Int)+1] else listVK s k
def listV (s:VSet):List Int:=listVK s 128
theorem listVK_len (s:VSet) (k:Nat):(listVK s k).length≤k:=by
 induction k with
 | zero=>exact Nat.le_refl _
 | succ k ih =>
   rw [listVK]
   split
   ·simp;omega
   ·omega
theorem int_info:(Tryz.prog.info? 3).map (fun i=>(i.zero,i.size,i.bytes)) = some (some (.int .i64 0),1,8):=by kernel_rfl
def encZ (n:Int):Value:=.int .i64 n
theorem owns_slI {w:World} {base:Nat} {v:Value} {l:List Int} (h:w.ownsRow base 3 1 v l.length (l.map encZ)):SlI w v l:=by
 obtain ⟨_,⟨rfl,e⟩ | ⟨g,cap,cur,rfl,hgb,hgh,hn,hm,hcs,ht⟩⟩:=h
 ·have:l = []:=by simpa using e
  subst this
  exact ⟨none,0,rfl,.inl ⟨rfl,rfl,rfl⟩⟩
 ·refine ⟨_,cap,rfl,.inr ⟨g,0,rfl,fun j hj=>?_⟩⟩
  have h1:(l.map encZ)[j]? = some (encZ l[j]):=by rw [List.getElem?_map,List.getElem?_eq_getElem hj];rfl
  rw [←ht,List.getElem?_take] at h1
  split at h1
  ·have h2:cur[j]? = some (encZ l[j]):=by simpa using h1
   simp [World.cell?,hgh,h2,encZ]
  ·simp at h1
theorem own_base {w:World} {B B':Nat} {e:TypeId} {sz:Nat} {v:Value} {n:Nat} {xs:List Value} (h:w.ownsRow B e sz v n xs) (hb:B'≤B):w.ownsRow B' e sz v n xs:=by
 obtain ⟨h1,h2⟩:=h
 refine ⟨h1,h2.imp id ?_⟩
 rintro ⟨g,cap,cur,h3,h4,h5⟩
 exact ⟨g,cap,cur,h3,Nat.le_trans hb h4,h5⟩
def ListLoop (s:VSet) (w:World) (k:Nat) (v:Value) (wr:World):Prop :=
 wr.heap[w.heap.size]? = some (.cells #[.int .u64 (lo s),.int .u64 (hi s)] 41 (0,0))∧wr.ownsRow (w.heap.size+1) 3 1 v (listVK s k).length ((listVK s k).map encZ)∧Below w.heap.size w wr∧w.heap.size+1≤wr.heap.size
set_option maxRecDepth 100000 in
set_option maxHeartbeats 2000000 in
theorem refList_any (s:VSet) (w:World):Calls Tryz.prog 95 #[encS s] w fun e w'=>∃ v,e = .returned v∧w'.ownsRow w.heap.size 3 1 v (listV s).length ((listV s).map encZ)∧Below w.heap.size w w':=by
 obtain ⟨i0,hi0,hz0,hz1,hz2⟩:=info_parts int_info
 have hbox:=heap_alloc_new w (.cells #[.int .u64 (lo s),.int .u64 (hi s)] 41)
 have hx1:=(Below.refl w.heap.size w).alloc (Nat.le_refl _) (.cells #[.int .u64 (lo s),.int .u64 (hi s)] 41)
 have h0:Hid (ListLoop s w 0 (.slice none 0 0) (w.alloc (.cells #[.int .u64 (lo s),.int .u64 (hi s)] 41))):=Lib.hid
  ⟨hbox,⟨by simp [listVK],.inl ⟨rfl,by simp [listVK]⟩⟩,hx1,by simp⟩
 clear hbox hx1
 unfold encS
 go_enter Tryz.func95,Tryz.ntmps95
 go_wp2_with fail
 generalize w.alloc (.cells #[.int .u64 (lo s),.int .u64 (hi s)] 41) = w1 at *
 go_loopw [3,4] (fun v i wr=>∃ k:Nat,k≤128∧i = .int .i64 ((k:Int)+1)∧Hid (ListLoop s w k v wr)) (fun _ i _=>129 - (intOf i).toNat)
 case atStart=>exact ⟨0,by omega,rfl,h0⟩
 case round =>
  clear h0
  obtain ⟨k,hk,rfl,hI⟩:=hrel
  obtain ⟨hb,ho,hB,hsz⟩:=hI.out
  clear hI
  obtain ⟨c0,c1⟩:=pbox_cells hb
  by_cases hlt:k < 128
  ·have d0:decide ((k:Int)+1≤128) = true:=decide_eq_true (by omega)
   have hq:=refHas_any s ((k:Int)+1) wr
   unfold encS at hq
   have hl:listVK s (k+1) = if hasS s ((k:Int)+1) then listVK s k++[(k:Int)+1] else listVK s k:=rfl
   have hlen:=listVK_len s k
   replace hb:=Lib.hid hb
   replace ho:=Lib.hid ho
   generalize hasS s ((k:Int)+1) = z at *
   cases z
   ·simp only [Bool.false_eq_true,if_false] at hl
    go_wp2_with fail
    refine hq.mono ?_
    rintro e w2 ⟨rfl,hx2⟩
    have hnext:Hid (ListLoop s w (k+1) u3 w2):=Lib.hid
     ⟨(hx2.below.block _ (by omega)).trans hb.out,by rw [hl];exact ownsRow_same ho.out (fun g hg=>hx2.below.block _ ((own_lt ho.out hg).1)),hB.trans (hx2.below.mono hB.size),by have:=hx2.size;omega⟩
    go_wp2_with fail
    go_roundw
    case rel=>exact ⟨k+1,by omega,by go_num,hnext⟩
    case measure=>simp [intOf];omega
   ·simp only [if_true] at hl
    go_wp2_with fail
    refine hq.mono ?_
    rintro e w2 ⟨rfl,hx2⟩
    have ho2:=ownsRow_same ho.out (fun g hg=>hx2.below.block _ ((own_lt ho.out hg).1))
    have hb2:=(hx2.below.block _ (by omega)).trans hb.out
    have hB2:=hB.trans (hx2.below.mono hB.size)
    have hs2:w.heap.size+1≤w2.heap.size:=by have:=hx2.size;omega
    go_wp2_with (at_builtin;refine wpList_append_own _ rfl _ _ 45 rfl (w.heap.size+1) 3 i0 (.int .i64 0) 1 8 Tryz.underlying45 hi0 hz0 hz1 hz2 rfl (by decide) _ _ _ rfl (ho2.alloc _) ⟨w2.heap.size,0,none⟩ 1 1 [.int .i64 ((k:Int)+1)] rfl rfl (cell_one_at _ _ _ _ rfl) (by simp [Value.oneCell']) (by unfold maxLen;omega) (by omega) (by simp;omega) ?_;intro v3 w3 ho3 hg3 _)
    have hB3:=Below.grown (Below.alloc hB2 (by omega) _) hg3 (by simp;omega) (fun k e=>Nat.le_trans (by omega) (own_ge ho2 e))
    have hb3:w3.heap[w.heap.size]? = _:=(hg3.block _ (by simp;omega) (fun e=>by have:=own_ge ho2 e.symm;omega)).trans ((Below.heap_alloc _ _ _ hs2).trans hb2)
    have hnext:Hid (ListLoop s w (k+1) v3 w3):=Lib.hid
     ⟨hb3,by rw [hl];exact own_cast ho3 (by simp) (by simp [encZ]),hB3,Nat.le_trans hs2 (Nat.le_trans (by simp) hg3.size)⟩
    go_roundw
    case rel=>exact ⟨k+1,by omega,by go_num,hnext⟩
    case measure=>simp [intOf];omega
  ·obtain rfl:k = 128:=by omega
   have d0:decide (((128:Nat):Int)+1≤128) = false:=by decide
   replace hb:=Lib.hid hb
   go_wp2_with fail
   go_ret
   exact ⟨_,rfl,own_base ho (Nat.le_succ _),hB⟩
def setVB (f:Nat→Bool):Nat→VSet
 | 0=>0
 | k+1=>if decide (1≤k) && f k then withS (setVB f k) k else setVB f k
def SetLoop (f:Nat→Bool) (w:World) (k:Nat) (wr:World):Prop :=
 wr.heap[w.heap.size]? = some (.cells #[.int .u64 0,.int .u64 0] 41 (0,0))∧wr.heap[w.heap.size+1]? = some (.cells #[.int .u64 (lo (setVB f k)),.int .u64 (hi (setVB f k))] 41 (0,0))∧Below w.heap.size w wr∧w.heap.size+1 < wr.heap.size
set_option maxRecDepth 100000 in
set_option maxHeartbeats 2000000 in
theorem refSet_any (f:Nat→Bool) (w:World) (g c:Nat) (h:BoolsAt w g 4 129 f):Calls Tryz.prog 157 #[.slice (some ⟨g,0,none⟩) 129 c] w fun e w'=>e = .returned (encS (setVB f 129))∧Below w.heap.size w w':=by
 obtain ⟨cs,hg,hcs,hcf⟩:=h
 have hgl:g < w.heap.size:=(Array.getElem?_eq_some_iff.1 hg).1
 have h0:Hid (SetLoop f w 1 ((w.alloc (.cells #[.int .u64 0,.int .u64 0] 41)).alloc (.cells #[.int .u64 0,.int .u64 0] 41))):=by
  have hr:=(Below.refl w.heap.size w).alloc (Nat.le_refl _) (.cells #[.int .u64 0,.int .u64 0] 41)
  have:=heap_alloc_new (w.alloc (.cells #[.int .u64 0,.int .u64 0] 41)) (.cells #[.int .u64 0,.int .u64 0] 41)
  rw [World.size_alloc] at this
  have e0:setVB f 1 = 0:=rfl
  have e1:lo (0:VSet) = 0:=rfl
  have e2:hi (0:VSet) = 0:=rfl
  exact Lib.hid ⟨(Below.heap_alloc _ _ _ (by simp)).trans (heap_alloc_new w _),by rw [e0,e1,e2];exact this,hr.alloc (by simp) _,by simp⟩
 unfold encS
 go_enter Tryz.func157,Tryz.ntmps157
 go_wp2_with fail
 generalize (w.alloc (.cells #[.int .u64 0,.int .u64 0] 41)).alloc (.cells #[.int .u64 0,.int .u64 0] 41) = w1 at *
 go_loopw [4] (fun i wr=>∃ k:Nat,1≤k∧k≤129∧i = .int .i64 k∧Hid (SetLoop f w k wr)) (fun i _=>129 - (intOf i).toNat)
 case atStart=>exact ⟨1,by omega,by omega,rfl,h0⟩
 case round =>
  clear h0
  obtain ⟨k,hk1,hk,rfl,hI⟩:=hrel
  obtain ⟨hz,hb,hB,hsz⟩:=hI.out
  clear hI
  by_cases hlt:k < 129
  ·have hl:setVB f (k+1) = if f k then withS (setVB f k) k else setVB f k:=by
    show (if decide (1≤k) && f k then withS (setVB f k) k else setVB f k) = _
    simp [hk1]
   have d0:decide ((k:Int) < 129) = true:=decide_eq_true (by omega)
   have d1:decide (0≤(k:Int)) = true:=decide_eq_true (by omega)
   have hx:=hcf k hlt
   have cg:wr.cell? ⟨g,k,none⟩ = some (.bool (f k)):=by
    rw [hB.cell (p:=⟨g,k,none⟩) hgl]
    simp [World.cell?,hg,hx]
   obtain ⟨c0,c1⟩:=pbox_cells hb
   have y0:wr.frozen? ⟨w.heap.size+1,0,none⟩ = false:=by simp [World.frozen?,hb]
   have y1:wr.frozen? ⟨w.heap.size+1,1,none⟩ = false:=by simp [World.frozen?,hb]
   clear hx
   replace hb:=Lib.hid hb
   replace hz:=Lib.hid hz
   replace hg:=Lib.hid hg
   generalize f k = z at *
   cases z
   ·simp only [Bool.false_eq_true,if_false] at hl
    have hnext:Hid (SetLoop f w (k+1) wr):=Lib.hid ⟨hz.out,by rw [hl];exact hb.out,hB,hsz⟩
    go_wp2_with fail
    go_roundw
    case rel=>exact ⟨k+1,by omega,by omega,by go_num,hnext⟩
    case measure=>simp [intOf];omega
   ·simp only [if_true] at hl
    by_cases h64:k≤64
    ·have e1:((k:Int) - 1) / 64 = 0:=by omega
     have e2:((k:Int) - 1) % 64 = k - 1:=by omega
     obtain ⟨q1,q2⟩:=with_lo (setVB f k) k (by omega) (by omega)
     have e3:bitOf (k:Int) = IntKind.u64.wrap (2 ^ (k - 1)):=by
      unfold bitOf;rw [e2];congr 2;omega
     rw [e3] at q1
     have hnext:Hid (SetLoop f w (k+1) (wr.setCell ⟨w.heap.size+1,0,none⟩ (.int .u64 (bits .or .u64 (lo (setVB f k)) (IntKind.u64.wrap (2 ^ (k - 1))))))):=Lib.hid
      ⟨(Below.heap_setCell _ _ _ _ (by simp)).trans hz.out,by rw [hl,q1,q2];exact heap_set hb.out 0 _,hB.setCell (by simp) _,by simpa using hsz⟩
     clear q1 q2
     go_wp2_with fail
     go_roundw
     case rel=>exact ⟨k+1,by omega,by omega,by go_num,hnext⟩
     case measure=>simp [intOf];omega
    ·have e1:((k:Int) - 1) / 64 = 1:=by omega
     have e2:((k:Int) - 1) % 64 = k - 65:=by omega
     obtain ⟨q1,q2⟩:=with_hi (setVB f k) k (by omega) (by omega)
     have e3:bitOf (k:Int) = IntKind.u64.wrap (2 ^ (k - 65)):=by
      unfold bitOf;rw [e2];congr 2;omega
     rw [e3] at q1
     have hnext:Hid (SetLoop f w (k+1) (wr.setCell ⟨w.heap.size+1,1,none⟩ (.int .u64 (bits .or .u64 (hi (setVB f k)) (IntKind.u64.wrap (2 ^ (k - 65))))))):=Lib.hid
      ⟨(Below.heap_setCell _ _ _ _ (by simp)).trans hz.out,by rw [hl,q1,q2];exact heap_set hb.out 1 _,hB.setCell (by simp) _,by simpa using hsz⟩
     clear q1 q2
     go_wp2_with fail
     go_roundw
     case rel=>exact ⟨k+1,by omega,by omega,by go_num,hnext⟩
     case measure=>simp [intOf];omega
  ·obtain rfl:k = 129:=by omega
   have d0:decide (((129:Nat):Int) < 129) = false:=by decide
   obtain ⟨c0,c1⟩:=pbox_cells hb
   have hBo:Below w.heap.size w ((wr.setCell ⟨w.heap.size,0,none⟩ (.int .u64 (lo (setVB f 129)))).setCell ⟨w.heap.size,1,none⟩ (.int .u64 (hi (setVB f 129)))):=(hB.setCell (by simp) _).setCell (by simp) _
   obtain ⟨z0,z1⟩:=pbox_cells hz
   have y0:wr.frozen? ⟨w.heap.size,0,none⟩ = false:=by simp [World.frozen?,hz]
   have y1:wr.frozen? ⟨w.heap.size,1,none⟩ = false:=by simp [World.frozen?,hz]
   have r0:((wr.setCell ⟨w.heap.size,0,none⟩ (.int .u64 (lo (setVB f 129)))).setCell ⟨w.heap.size,1,none⟩ (.int .u64 (hi (setVB f 129)))).cell? ⟨w.heap.size,0,none⟩ = some (.int .u64 (lo (setVB f 129))):=by
    rw [World.cell?,heap_set2 hz];rfl
   have r1:((wr.setCell ⟨w.heap.size,0,none⟩ (.int .u64 (lo (setVB f 129)))).setCell ⟨w.heap.size,1,none⟩ (.int .u64 (hi (setVB f 129)))).cell? ⟨w.heap.size,1,none⟩ = some (.int .u64 (hi (setVB f 129))):=by
    rw [World.cell?,heap_set2 hz];rfl
   replace hb:=Lib.hid hb
   replace hz:=Lib.hid hz
   replace hg:=Lib.hid hg
   generalize hx0:lo (setVB f 129) = x0 at *
   generalize hx1:hi (setVB f 129) = x1 at *
   go_wp2_with fail
   exact bodyPost_ret (v:=.agg #[.int .u64 x0,.int .u64 x1]) (by simp [results,Tryz.results157,go_sem,r0,r1]) rfl ⟨by rw [hx0,hx1],hBo⟩
theorem refNone_any (w:World):Calls Tryz.prog 156 #[] w fun e w'=>e = .returned (.slice (some ⟨w.heap.size,0,none⟩) 129 129)∧w' = w.alloc (.cells (madeCells #[.bool false] 129) 4):=by
 have hmk:(Instr.makeSlice 46 (.int .i64 129) (.int .i64 129)).run Tryz.prog w = .ok (.slice (some ⟨w.heap.size,0,none⟩) 129 129) (w.alloc (.cells (madeCells #[.bool false] 129) 4)) :=
  run_make_row' (P:=Tryz.prog) 46 4 (.bool false) 1 Tryz.underlying46 (by kernel_rfl) rfl .i64 .i64 129 (by omega) (by omega) w
 go_enter Tryz.func156,Tryz.ntmps156
 go_wp2_with fail
 go_ret
 exact ⟨rfl,rfl⟩
def flagsL (l:List Int) (v:Nat):Bool:=decide (1≤v) && decide (v≤128) && l.any fun x=>decide (x = (v:Int))
theorem flags_take (l:List Int) (k:Nat) (hk:k < l.length):flagsL (l.take (k+1)) = if decide (1≤l[k]) && decide (l[k]≤128) then setB (flagsL (l.take k)) l[k].toNat else flagsL (l.take k):=by
 funext v
 simp only [flagsL]
 rw [List.take_succ_eq_append_getElem hk,List.any_append]
 split
 ·rename_i h
  simp only [Bool.and_eq_true,decide_eq_true_eq] at h
  simp only [setB,flagsL]
  by_cases hv:v = l[k].toNat
  ·subst hv
   have e:l[k] = ((l[k].toNat:Nat):Int):=by omega
   simp
   omega
  ·rw [if_neg hv]
   have:¬ l[k] = (v:Int):=by omega
   simp [this]
 ·rename_i h
  simp only [Bool.and_eq_true,decide_eq_true_eq] at h
  simp only [flagsL]
  by_cases hv:1≤v∧v≤128
  ·have:¬ l[k] = (v:Int):=by omega
   simp [this]
  ·have:(decide (1≤v) && decide (v≤128)) = false:=by
    cases h1:(decide (1≤v) && decide (v≤128))
    ·rfl
    ·simp only [Bool.and_eq_true,decide_eq_true_eq] at h1;exact absurd h1 hv
   simp [this]
theorem bit_with (s:VSet) (v:Int) (i:Nat) (hi:i < 128):(withS s v).getLsbD i = (s.getLsbD i || decide (v = (i:Int)+1)):=by
 unfold withS
 split
 ·rw [BitVec.getLsbD_or,BitVec.getLsbD_twoPow]
  congr 1
  rw [Bool.eq_iff_iff]
  simp
  omega
 ·have:¬ v = (i:Int)+1:=by omega
  simp [this]
theorem bit_of (l:List Int) (i:Nat) (hi:i < 128):∀ s:VSet,(l.foldl withS s).getLsbD i = (s.getLsbD i || l.any fun x=>decide (x = (i:Int)+1)):=by
 induction l with
 | nil=>intro s;simp
 | cons x r ih =>
   intro s
   rw [List.foldl_cons,ih,bit_with _ _ _ hi,List.any_cons,Bool.or_assoc]
theorem bit_setV (f:Nat→Bool) (k:Nat) (i:Nat) (hi:i < 128):(setVB f k).getLsbD i = (decide (i+1 < k) && f (i+1)):=by
 induction k with
 | zero=>simp [setVB]
 | succ k ih =>
   rw [setVB]
   split
   ·rename_i h
    simp only [Bool.and_eq_true,decide_eq_true_eq] at h
    rw [bit_with _ _ _ hi,ih]
    by_cases e:k = i+1
    ·subst e
     simp [h.2]
    ·have e1:¬ (k:Int) = (i:Int)+1:=by omega
     have e2:(i+1 < k+1)↔(i+1 < k):=by omega
     simp [e1,e2]
   ·rename_i h
    rw [ih]
    by_cases e:k = i+1
    ·subst e
     simp at h
     simp [h]
    ·have e2:(i+1 < k+1)↔(i+1 < k):=by omega
     simp [e2]
theorem setV_flags (l:List Int):setVB (flagsL l) 129 = ofS l:=by
 apply BitVec.eq_of_getLsbD_eq
 intro i hi
 rw [bit_setV _ _ _ hi,ofS,bit_of _ _ hi]
 have h1:i+1≤128:=by omega
 have h2:i+1 < 129:=by omega
 simp [flagsL,h1,h2]
def OfLoop (l:List Int) (w:World) (k:Nat) (wr:World):Prop :=
 wr.heap[w.heap.size]? = some (.cells #[.int .u64 0,.int .u64 0] 41 (0,0))∧BoolsAt wr (w.heap.size+1) 4 129 (flagsL (l.take k))∧Below w.heap.size w wr∧w.heap.size+1 < wr.heap.size
set_option maxRecDepth 100000 in
set_option maxHeartbeats 2000000 in
theorem refOf_any (l:List Int) (v:Value) (w:World) (hv:SlI w v l) (hl:l.length≤1048576) :
  Calls Tryz.prog 84 #[v] w fun e w'=>e = .returned (encS (ofS l))∧Below w.heap.size w w':=by
 obtain ⟨ba,cp,rfl,hv⟩:=hv
 have hcell:∀ k (hk:k < l.length),∃ b o,ba = some ⟨b,o,none⟩∧w.cell? ⟨b,o+k,none⟩ = some (.int .i64 l[k]):=fun k hk=>by
  rcases hv with ⟨_,rfl,_⟩ | ⟨b,o,h1,h2⟩
  ·simp at hk
  ·exact ⟨b,o,h1,h2 k hk⟩
 clear hv
 replace hcell:=Lib.hid hcell
 unfold encS
 have hbox:=heap_alloc_new w (.cells #[.int .u64 0,.int .u64 0] 41)
 have hb1:=(Below.refl w.heap.size w).alloc (Nat.le_refl _) (.cells #[.int .u64 0,.int .u64 0] 41)
 have hs1:(w.alloc (.cells #[.int .u64 0,.int .u64 0] 41)).heap.size = w.heap.size+1:=by simp
 go_enter Tryz.func84,Tryz.ntmps84
 go_wp2_with fail
 generalize w.alloc (.cells #[.int .u64 0,.int .u64 0] 41) = w1 at *
 refine (refNone_any w1).mono ?_
 rintro e w2 ⟨rfl,rfl⟩
 have h0:Hid (OfLoop l w 0 (w1.alloc (.cells (madeCells #[.bool false] 129) 4))):=Lib.hid
  ⟨(Below.heap_alloc _ _ _ (by omega)).trans hbox,by
    have:=boolsNew w1 _ 4 129 (madeRep 129) (w.heap.size+1) hs1.symm
    have e0:flagsL (l.take 0) = fun _=>false:=by funext v;simp [flagsL]
    rw [e0];exact this,hb1.alloc (by omega) _,by simp;omega⟩
 rw [hs1]
 clear hbox hb1
 go_wp2_with fail
 generalize w1.alloc (.cells (madeCells #[.bool false] 129) 4) = w2 at *
 clear hs1
 go_loopw [4] (fun i wr=>∃ k:Nat,k≤l.length∧i = .int .i64 k∧Hid (OfLoop l w k wr)) (fun i _=>l.length - (intOf i).toNat)
 case atStart=>exact ⟨0,Nat.zero_le _,rfl,h0⟩
 case round =>
  clear h0
  obtain ⟨k,hk,rfl,hI⟩:=hrel
  obtain ⟨hz,hb,hB,hsz⟩:=hI.out
  clear hI
  by_cases hlt:k < l.length
  ·obtain ⟨b,o,rfl,hc⟩:=hcell.out k hlt
   have hft:=flags_take l k hlt
   have cg:=(hB.cell (p:=⟨b,o+k,none⟩) (World.block_lt_of_cell? w _ hc)).trans hc
   clear hc
   generalize l[k] = x at *
   by_cases h1:1≤x
   ·by_cases h2:x≤128
    ·obtain ⟨n,rfl⟩:∃ n:Nat,x = n:=⟨x.toNat,by omega⟩
     have d1:decide ((1:Int)≤n) = true:=decide_eq_true h1
     have d2:decide ((n:Int)≤128) = true:=decide_eq_true h2
     have d3:decide ((n:Int) < 129) = true:=decide_eq_true (by omega)
     have d0:decide (0≤(n:Int)) = true:=decide_eq_true (by omega)
     rw [d1,d2] at hft
     simp only [Bool.and_true,if_true,Int.toNat_natCast] at hft
     have hb2:=hb.set n
     rw [←hft] at hb2
     obtain ⟨r0,r1⟩:=hb.cell (j:=n) (by omega)
     have hnext:Hid (OfLoop l w (k+1) (wr.setCell ⟨w.heap.size+1,n,none⟩ (.bool true))):=Lib.hid
      ⟨(Below.heap_setCell _ _ _ _ (by simp)).trans hz,hb2,hB.setCell (by simp) _,by simpa using hsz⟩
     clear hft hb2
     replace hb:=Lib.hid hb
     replace hz:=Lib.hid hz
     go_wp2_with fail
     go_roundw
     case rel=>exact ⟨k+1,by omega,by go_num,hnext⟩
     case measure=>simp [intOf];omega
    ·have d1:decide (1≤x) = true:=decide_eq_true h1
     have d2:decide (x≤128) = false:=decide_eq_false h2
     rw [d1,d2] at hft
     simp only [Bool.and_false,Bool.false_eq_true,if_false] at hft
     have hnext:Hid (OfLoop l w (k+1) wr):=Lib.hid ⟨hz,by rw [hft];exact hb,hB,hsz⟩
     clear hft
     replace hb:=Lib.hid hb
     replace hz:=Lib.hid hz
     go_wp2_with fail
     go_roundw
     case rel=>exact ⟨k+1,by omega,by go_num,hnext⟩
     case measure=>simp [intOf];omega
   ·have d1:decide (1≤x) = false:=decide_eq_false h1
    rw [d1] at hft
    simp only [Bool.false_and,Bool.false_eq_true,if_false] at hft
    have hnext:Hid (OfLoop l w (k+1) wr):=Lib.hid ⟨hz,by rw [hft];exact hb,hB,hsz⟩
    clear hft
    replace hb:=Lib.hid hb
    replace hz:=Lib.hid hz
    go_wp2_with fail
    go_roundw
    case rel=>exact ⟨k+1,by omega,by go_num,hnext⟩
    case measure=>simp [intOf];omega
  ·obtain rfl:k = l.length:=by omega
   rw [List.take_length] at hb
   have hq:=refSet_any (flagsL l) wr (w.heap.size+1) 129 hb
   rw [setV_flags] at hq
   unfold encS at hq
   replace hb:=Lib.hid hb
   replace hz:=Lib.hid hz
   go_wp2_with fail
   refine hq.mono ?_
   rintro e w3 ⟨rfl,hb3⟩
   have hB3:=hB.trans (hb3.mono hB.size)
   have hz3:=(hb3.block w.heap.size (by omega)).trans hz.out
   have hBo:Below w.heap.size w ((w3.setCell ⟨w.heap.size,0,none⟩ (.int .u64 (lo (ofS l)))).setCell ⟨w.heap.size,1,none⟩ (.int .u64 (hi (ofS l)))):=(hB3.setCell (by simp) _).setCell (by simp) _
   obtain ⟨z0,z1⟩:=pbox_cells hz3
   have y0:w3.frozen? ⟨w.heap.size,0,none⟩ = false:=by simp [World.frozen?,hz3]
   have y1:w3.frozen? ⟨w.heap.size,1,none⟩ = false:=by simp [World.frozen?,hz3]
   have r0:((w3.setCell ⟨w.heap.size,0,none⟩ (.int .u64 (lo (ofS l)))).setCell ⟨w.heap.size,1,none⟩ (.int .u64 (hi (ofS l)))).cell? ⟨w.heap.size,0,none⟩ = some (.int .u64 (lo (ofS l))):=by
    rw [World.cell?,heap_set2 hz3];rfl
   have r1:((w3.setCell ⟨w.heap.size,0,none⟩ (.int .u64 (lo (ofS l)))).setCell ⟨w.heap.size,1,none⟩ (.int .u64 (hi (ofS l)))).cell? ⟨w.heap.size,1,none⟩ = some (.int .u64 (hi (ofS l))):=by
    rw [World.cell?,heap_set2 hz3];rfl
   clear hz3
   generalize hx0:lo (ofS l) = x0 at *
   generalize hx1:hi (ofS l) = x1 at *
   go_wp2_with fail
   exact bodyPost_ret (v:=.agg #[.int .u64 x0,.int .u64 x1]) (by simp [results,Tryz.results84,go_sem,r0,r1]) rfl ⟨by rw [hx0,hx1],hBo⟩
end Go.Proofs.YtmnjakejhbpkoaaGreatDoor
end
section
set_option linter.unusedSimpArgs false
set_option linter.unusedVariables false
namespace Go.Proofs.YtmnjakejhbpkoaaGreatDoor
open Go Go.RowKit
theorem takeL {P:Program} {l:List Oper} {md:Region.Mode} {Q:Exit→Act→World→Prop} {S:World→Prop} {i:Nat} {oi:Oper} {v:Value} {fuel:Nat} {listed:Array Bool} {a:Act} {w:World} (hi:l[i]? = some oi)
  (hs:Region.noSelect l.toArray = true) (hf:Region.free md l.toArray listed i = true) (hr:(Region.ready md l.toArray listed).contains i = true)
  (hQ:∀ c a w,Q (.panic c) (a.put oi.dst v) w→Q (.panic c) a w) (hy:YieldsIf P l.toArray S oi v a) (hS:S w)
  (h:wpAnyH P md l.toArray Q S fuel (listed.setIfInBounds i true) (a.put oi.dst v) w):wpAnyH P md l.toArray Q S (fuel+1) listed a w :=
 wpAnyH_take (by simpa using hi) hs hf hr hQ hy hS h
theorem consL {P:Program} {l:List Oper} {md:Region.Mode} {Q:Exit→Act→World→Prop} {S:World→Prop} {fuel:Nat} {listed:Array Bool} {a:Act} {w:World} {i:Nat} {o:Oper} (ho:l[i]? = some o)
  (h:∀ K':Act→World→Prop,Shut (∀ a w,S w→(S w→wpAnyH P md l.toArray Q S fuel (listed.setIfInBounds i true) a w)→K' a w)→if Region.wanted o (yielded l.toArray a.tmps) = true then Oper.wp P o a w K' Q else K' (a.put o.dst undef) w)
  : AllReadyH P md l.toArray Q S fuel listed a w [i]:=AllReadyH.cons (by simpa using ho) h AllReadyH.nil
theorem consL2 {P:Program} {l:List Oper} {md:Region.Mode} {Q:Exit→Act→World→Prop} {S:World→Prop} {fuel:Nat} {listed:Array Bool} {a:Act} {w:World} {i j:Nat} {o p:Oper} (ho:l[i]? = some o) (hp:l[j]? = some p)
  (h:∀ K':Act→World→Prop,Shut (∀ a w,S w→(S w→wpAnyH P md l.toArray Q S fuel (listed.setIfInBounds i true) a w)→K' a w)→if Region.wanted o (yielded l.toArray a.tmps) = true then Oper.wp P o a w K' Q else K' (a.put o.dst undef) w)
  (h':∀ K':Act→World→Prop,Shut (∀ a w,S w→(S w→wpAnyH P md l.toArray Q S fuel (listed.setIfInBounds j true) a w)→K' a w)→if Region.wanted p (yielded l.toArray a.tmps) = true then Oper.wp P p a w K' Q else K' (a.put p.dst undef) w) :
  AllReadyH P md l.toArray Q S fuel listed a w [i,j]:=AllReadyH.cons (by simpa using ho) h (AllReadyH.cons (by simpa using hp) h' AllReadyH.nil)
end Go.Proofs.YtmnjakejhbpkoaaGreatDoor
end
