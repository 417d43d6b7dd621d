import Derived.Test.YteikmmfjhabijaaGreatDoorRRef3
import Derived.Test.YteikmmfjhabijaaGreatDoorRText
import Derived.Test.YteikmmfjhabijaaGreatDoorRFree
set_option linter.unusedSimpArgs false
set_option linter.unusedVariables false
namespace Go.Proofs.YteikmmfjhabijaaGreatDoor
open Go Go.RowKit Go.Shelf
def SlB (w:World) (v:Value) (l:List Bool):Prop:=∃ b o c,v = .slice (some ⟨b,o,none⟩) l.length c∧b < w.heap.size∧∀ j (hj:j < l.length),w.cell? ⟨b,o+j,none⟩ = some (.bool l[j])
theorem SlB.below {w w':World} {v:Value} {l:List Bool} (h:SlB w v l) (hb:Below w.heap.size w w'):SlB w' v l:=by
 obtain ⟨b,o,c,rfl,hl,hc⟩:=h
 exact ⟨b,o,c,rfl,Nat.lt_of_lt_of_le hl hb.size,fun j hj=>(hb.cell hl).trans (hc j hj)⟩
def RetTab (l:List Bool) (w:World) (e:Ending) (w':World):Prop:=∃ (g c:Nat) (cs:Array Value),e = .returned (.slice (some ⟨g,0,none⟩) l.length c)∧w.heap.size≤g∧w'.heap[g]? = some (.cells cs 4 (0,0))∧(∀ j (hj:j < l.length),cs[j]? = some (.bool l[j]))∧Below w.heap.size w w'
theorem tab_slB {l:List Bool} {w':World} {g c:Nat} {cs:Array Value} (h:w'.heap[g]? = some (.cells cs 4 (0,0))) (hc:∀ j (hj:j < l.length),cs[j]? = some (.bool l[j])):SlB w' (.slice (some ⟨g,0,none⟩) l.length c) l :=
 ⟨g,0,c,rfl,(Array.getElem?_eq_some_iff.1 h).1,fun j hj=>by rw [Nat.zero_add];simp [World.cell?,h,hc j hj]⟩
def TabAt (w:World) (v:Value) (f:List Bool):Prop:=∃ (g c:Nat) (cs:Array Value),v = .slice (some ⟨g,0,none⟩) f.length c∧w.heap[g]? = some (.cells cs 4 (0,0))∧∀ j (hj:j < f.length),cs[j]? = some (.bool f[j])
theorem TabAt.slB {w:World} {v:Value} {f:List Bool} (h:TabAt w v f):SlB w v f:=by
 obtain ⟨g,c,cs,rfl,hg,hc⟩:=h
 exact tab_slB hg hc
def FillB (w:World) (q N:Nat) (g:Nat→Bool) (k:Nat) (wr:World):Prop:=w.heap.size≤q∧Below w.heap.size w wr∧∃ cs:Array Value,wr.heap[q]? = some (.cells cs 4 (0,0))∧N≤cs.size∧∀ j,j < N→j < k→cs[j]? = some (.bool (g j))
theorem FillB.init (w:World) (N:Nat) (g:Nat→Bool):FillB w w.heap.size N g 0 (w.alloc (.cells (madeCells #[.bool false] N) 4)) :=
 ⟨Nat.le_refl _,(Below.refl _ _).alloc (Nat.le_refl _) _,_,heap_alloc_new _ _,by simp [madeCells],fun j _ h=>by omega⟩
theorem FillB.cell {w wr:World} {q N:Nat} {g:Nat→Bool} {k:Nat} (h:FillB w q N g k wr) (hk:k < N):(∃ u,wr.cell? ⟨q,k,none⟩ = some u)∧wr.frozen? ⟨q,k,none⟩ = false:=by
 obtain ⟨_,_,cs,h1,h2,_⟩:=h
 exact ⟨⟨cs[k]'(by omega),by simp [World.cell?,h1]⟩,by simp [World.frozen?,h1]⟩
theorem FillB.set {w wr:World} {q N:Nat} {g:Nat→Bool} {k:Nat} (h:FillB w q N g k wr) (hk:k < N):FillB w q N g (k+1) (wr.setCell ⟨q,k,none⟩ (.bool (g k))):=by
 obtain ⟨hq,h0,cs,h1,h2,h3⟩:=h
 refine ⟨hq,h0.setCell hq _,_,heap_set h1 _ _,by simpa using h2,fun j hj hjk=>?_⟩
 rw [Array.getElem?_setIfInBounds]
 by_cases e:k = j
 ·subst e;rw [if_pos rfl,if_pos (by omega)]
 ·rw [if_neg e];exact h3 j hj (by omega)
def tabN (N:Nat) (g:Nat→Bool):List Bool:=(List.range N).map g
theorem tabN_len (N:Nat) (g:Nat→Bool):(tabN N g).length = N:=by simp [tabN]
theorem tabN_get (N:Nat) (g:Nat→Bool) (j:Nat) (hj:j < (tabN N g).length):(tabN N g)[j] = g j:=by simp [tabN]
theorem FillB.done {w wr:World} {q N:Nat} {g:Nat→Bool} (h:FillB w q N g N wr) (c:Nat):RetTab (tabN N g) w (.returned (.slice (some ⟨q,0,none⟩) N c)) wr:=by
 obtain ⟨hq,h0,cs,h1,h2,h3⟩:=h
 refine ⟨q,c,cs,by rw [tabN_len],hq,h1,fun j hj=>?_,h0⟩
 have hj':j < N:=by rw [tabN_len] at hj;exact hj
 rw [tabN_get]
 exact h3 j hj' hj'
theorem bool_mk (N:Nat) (hN:N≤65536) (w:World):(Instr.makeSlice 43 (.int .i64 (N:Int)) (.int .i64 (N:Int))).run Tryz.prog w = .ok (.slice (some ⟨w.heap.size,0,none⟩) N N) (w.alloc (.cells (madeCells #[.bool false] N) 4)) :=
 run_make_row' (P:=Tryz.prog) 43 4 (.bool false) 1 Tryz.underlying43 info_bool rfl .i64 .i64 N (by omega) (by omega) w
theorem pow_wrap (n:Nat) (hn:n≤30):IntKind.i64.wrap ((2:Int) ^ n) = ((2 ^ n:Nat):Int):=by
 have h1:2 ^ n≤1073741824:=Nat.le_trans (Nat.pow_le_pow_right (by omega) hn) (by decide)
 rw [show ((2:Int) ^ n) = ((2 ^ n:Nat):Int) by simp]
 generalize 2 ^ n = m at *
 rw [IntWalk.i64_in _ (by omega)]
theorem pow_le64 {n:Nat} (hn:n≤6):2 ^ n≤64:=Nat.le_trans (Nat.pow_le_pow_right (by omega) hn) (by decide)
set_option maxRecDepth 100000 in
set_option maxHeartbeats 1000000 in
theorem bit_any (n k:Nat) (hk:k < n) (hn:n≤30) (w:World):Calls Tryz.prog 59 #[.int .i64 n,.int .i64 k] w fun e w'=>e = .returned (.int .i64 ((2 ^ (n - 1 - k):Nat):Int))∧w = w':=by
 have hw:=pow_wrap (n - 1 - k) (by omega)
 have e1:(n:Int) - 1 - (k:Int) = ((n - 1 - k:Nat):Int):=by omega
 generalize hm:2 ^ (n - 1 - k) = M at *
 go_enter Tryz.func59,Tryz.ntmps59
 go_wp2_with fail
 go_ret
 first
  | exact ⟨rfl,rfl⟩
  | exact ⟨by rw [e1];simp [hw],rfl⟩
set_option maxRecDepth 100000 in
set_option maxHeartbeats 1000000 in
theorem const_any (n:Nat) (hn:n≤6) (b:Bool) (w:World):Calls Tryz.prog 51 #[.int .i64 n,.bool b] w (RetTab (tabN (2 ^ n) fun _=>b) w):=by
 have hw:=pow_wrap n (by omega)
 have hN:=pow_le64 hn
 have hmk:=bool_mk (2 ^ n) (by omega)
 have h0:Hid (FillB w w.heap.size (2 ^ n) (fun _=>b) 0 (w.alloc (.cells (madeCells #[.bool false] (2 ^ n)) 4))):=Lib.hid (FillB.init _ _ _)
 generalize hNN:2 ^ n = N at *
 replace hNN:=Lib.hid hNN
 go_enter Tryz.func51,Tryz.ntmps51
 go_wp2_with fail
 generalize w.alloc (.cells (madeCells #[.bool false] N) 4) = w1 at *
 go_loopw [6] (fun iv wr=>∃ i:Nat,i≤N∧iv = .int .i64 i∧Hid (FillB w w.heap.size N (fun _=>b) i wr)) (fun iv _=>N - (intOf iv).toNat)
 case atStart=>exact ⟨0,Nat.zero_le _,rfl,h0⟩
 case round =>
  clear h0
  obtain ⟨i,hi,rfl,hI⟩:=hrel
  by_cases hlt:i < N
  ·obtain ⟨⟨u,y1⟩,y2⟩:=hI.out.cell hlt
   have hnext:Hid (FillB w w.heap.size N (fun _=>b) (i+1) (wr.setCell ⟨w.heap.size,i,none⟩ (.bool b))):=Lib.hid (hI.out.set hlt)
   go_wp2_with fail
   go_roundw
   case rel=>exact ⟨i+1,by omega,by go_num,hnext⟩
   case measure=>simp [intOf];omega
  ·obtain rfl:i = N:=by omega
   have hend:=hI.out.done i
   replace hend:=Lib.hid hend
   go_wp2_with fail
   go_ret
   exact hend.out
theorem getD_get {l:List Bool} {i:Nat} (h:i < l.length):l.getD i false = l[i]:=by rw [List.getD_eq_getElem?_getD,List.getElem?_eq_getElem h];rfl
theorem tab_and (l m:List Bool) (hm:m.length = l.length):(tabN l.length fun i=>l.getD i false && m.getD i false) = List.zipWith (fun a b=>a && b) l m:=by
 apply List.ext_getElem (by rw [tabN_len,List.length_zipWith];omega)
 intro i h1 h2
 rw [List.length_zipWith] at h2
 rw [tabN_get,List.getElem_zipWith,getD_get (by omega),getD_get (by omega)]
set_option maxRecDepth 100000 in
set_option maxHeartbeats 1000000 in
theorem tand_any {w:World} {v u:Value} {l m:List Bool} (h:SlB w v l) (k:SlB w u m) (hm:m.length = l.length) (hl:l.length≤65536):Calls Tryz.prog 54 #[v,u] w (RetTab (List.zipWith (fun a b=>a && b) l m) w):=by
 rw [←tab_and l m hm]
 obtain ⟨b,o,c,rfl,hb,hc⟩:=h
 obtain ⟨b2,o2,c2,rfl,hb2,hc2⟩:=k
 rw [hm]
 have hmk:=bool_mk l.length hl
 have h0:Hid (FillB w w.heap.size l.length (fun i=>l.getD i false && m.getD i false) 0 (w.alloc (.cells (madeCells #[.bool false] l.length) 4))):=Lib.hid (FillB.init _ _ _)
 replace hc:=Lib.hid hc
 replace hc2:=Lib.hid hc2
 replace hm:=Lib.hid hm
 go_enter Tryz.func54,Tryz.ntmps54
 go_wp2_with fail
 generalize w.alloc (.cells (madeCells #[.bool false] l.length) 4) = w1 at *
 go_loopw [6] (fun iv wr=>∃ i:Nat,i≤l.length∧iv = .int .i64 i∧Hid (FillB w w.heap.size l.length (fun i=>l.getD i false && m.getD i false) i wr)) (fun iv _=>l.length - (intOf iv).toNat)
 case atStart=>exact ⟨0,Nat.zero_le _,rfl,h0⟩
 case round =>
  clear h0
  obtain ⟨i,hi,rfl,hI⟩:=hrel
  by_cases hlt:i < l.length
  ·obtain ⟨⟨u,y1⟩,y2⟩:=hI.out.cell hlt
   have hltm:i < m.length:=by have:=hm.out;omega
   have z:=(hI.out.2.1.cell (p:=⟨b,o+i,none⟩) hb).trans (hc.out i hlt)
   have z2:=(hI.out.2.1.cell (p:=⟨b2,o2+i,none⟩) hb2).trans (hc2.out i hltm)
   have eg:l.getD i false = l[i]:=by rw [List.getD_eq_getElem?_getD,List.getElem?_eq_getElem hlt];rfl
   have eg2:m.getD i false = m[i]:=by rw [List.getD_eq_getElem?_getD,List.getElem?_eq_getElem hltm];rfl
   have hnext:Hid (FillB w w.heap.size l.length (fun i=>l.getD i false && m.getD i false) (i+1) (wr.setCell ⟨w.heap.size,i,none⟩ (.bool (l[i] && m[i])))):=Lib.hid (by have:=hI.out.set hlt;rwa [eg,eg2] at this)
   clear eg eg2
   generalize l[i] = x at *
   generalize m[i] = y at *
   cases x
   ·go_wp2_with fail
    go_roundw
    case rel=>exact ⟨i+1,by omega,by go_num,hnext⟩
    case measure=>simp [intOf];omega
   ·go_wp2_with fail
    go_roundw
    case rel=>exact ⟨i+1,by omega,by go_num,hnext⟩
    case measure=>simp [intOf];omega
  ·obtain rfl:i = l.length:=by omega
   have hend:=hI.out.done l.length
   replace hend:=Lib.hid hend
   go_wp2_with fail
   go_ret
   exact hend.out
theorem tabN_congr {N:Nat} {f g:Nat→Bool} (h:∀ i,i < N→f i = g i):tabN N f = tabN N g:=by
 unfold tabN
 exact List.map_congr_left fun i hi=>h i (List.mem_range.1 hi)
theorem tabN_getD {N:Nat} {f:Nat→Bool} {i:Nat} (hi:i < N):(tabN N f).getD i false = f i:=by
 rw [List.getD_eq_getElem?_getD,List.getElem?_eq_getElem (by rw [tabN_len];exact hi),Option.getD_some,tabN_get]
set_option maxRecDepth 100000 in
set_option maxHeartbeats 1000000 in
theorem tsame_any {w:World} {v u:Value} {l m:List Bool} (h:SlB w v l) (k:SlB w u m) (hm:m.length = l.length) (hl:l.length≤65536):Calls Tryz.prog 30 #[v,u] w fun e w'=>e = .returned (.bool (decide (l = m)))∧Below w.heap.size w w':=by
 obtain ⟨b,o,c,rfl,hb,hc⟩:=h
 obtain ⟨b2,o2,c2,rfl,hb2,hc2⟩:=k
 rw [hm]
 replace hc:=Lib.hid hc
 replace hc2:=Lib.hid hc2
 replace hm:=Lib.hid hm
 go_enter Tryz.func30,Tryz.ntmps30
 go_wp2_with fail
 go_loopw [5] (fun iv wr=>∃ i:Nat,i≤l.length∧iv = .int .i64 i∧Hid (Below w.heap.size w wr)∧Hid (∀ j,j < i→l[j]? = m[j]?)) (fun iv _=>l.length - (intOf iv).toNat)
 case atStart=>exact ⟨0,Nat.zero_le _,rfl,Lib.hid (Below.refl _ _),Lib.hid fun j hj=>by omega⟩
 case round =>
  obtain ⟨i,hi,rfl,hB,hE⟩:=hrel
  by_cases hlt:i < l.length
  ·have hltm:i < m.length:=by have:=hm.out;omega
   have F:Hid (∀ wq,Ext wr wq→wq.cell? ⟨b,o+i,none⟩ = some (.bool l[i])∧wq.cell? ⟨b2,o2+i,none⟩ = some (.bool m[i])):=Lib.hid fun wq hq =>
    ⟨(World.cell?_of_block (a:=⟨b,o+i,none⟩) (hq.below.block b (Nat.lt_of_lt_of_le hb hB.out.size))).trans ((hB.out.cell (p:=⟨b,o+i,none⟩) hb).trans (hc.out i hlt)),
      (World.cell?_of_block (a:=⟨b2,o2+i,none⟩) (hq.below.block b2 (Nat.lt_of_lt_of_le hb2 hB.out.size))).trans ((hB.out.cell (p:=⟨b2,o2+i,none⟩) hb2).trans (hc2.out i hltm))⟩
   have gl:(0:Int)≤i:=by omega
   have gl2:(i:Int) < l.length:=by omega
   by_cases e:l[i] = m[i]
   ·have hnext:Hid (∀ j,j < i+1→l[j]? = m[j]?):=Lib.hid fun j hj=>by
     rcases Nat.lt_or_ge j i with h1 | h1
     ·exact hE.out j h1
     ·obtain rfl:j = i:=by omega
      rw [List.getElem?_eq_getElem hlt,List.getElem?_eq_getElem hltm,e]
    generalize l[i] = x at *
    generalize m[i] = y at *
    subst e
    cases x
    ·go_wp2_with fail
     (refine wp_region_below (by kernel_rfl) (by kernel_rfl) ?_
      repeat (refine wpQuiet_step (fun K hK=>?_)
              go_simp
              first
               | (refine hK _ ?_;clear hK K)
               | (replace hK:=Lib.hid hK
                  apply Exists.intro
                  refine ⟨fun wq hq=>?_,hK.out _ ?_⟩
                  ·(obtain ⟨f1,f2⟩:=F.out wq hq)
                   go_simp
                   first
                    | done
                    | rfl
                    | exact ⟨rfl,rfl⟩
                    | fail
                  clear hK K))
      refine wpQuiet_nil ?_)
     intro w5 hx5
     go_wp2_with fail
     go_roundw
     case rel=>exact ⟨i+1,by omega,by go_num,Lib.hid (hB.out.trans (hx5.below.mono hB.out.size)),hnext⟩
     case measure=>simp [intOf];omega
    ·go_wp2_with fail
     (refine wp_region_below (by kernel_rfl) (by kernel_rfl) ?_
      repeat (refine wpQuiet_step (fun K hK=>?_)
              go_simp
              first
               | (refine hK _ ?_;clear hK K)
               | (replace hK:=Lib.hid hK
                  apply Exists.intro
                  refine ⟨fun wq hq=>?_,hK.out _ ?_⟩
                  ·(obtain ⟨f1,f2⟩:=F.out wq hq)
                   go_simp
                   first
                    | done
                    | rfl
                    | exact ⟨rfl,rfl⟩
                    | fail
                  clear hK K))
      refine wpQuiet_nil ?_)
     intro w5 hx5
     go_wp2_with fail
     go_roundw
     case rel=>exact ⟨i+1,by omega,by go_num,Lib.hid (hB.out.trans (hx5.below.mono hB.out.size)),hnext⟩
     case measure=>simp [intOf];omega
   ·have hne:Hid (decide (l = m) = false):=Lib.hid (decide_eq_false fun h=>e (by subst h;rfl))
    generalize l[i] = x at *
    generalize m[i] = y at *
    cases x
    ·cases y
     ·exact absurd rfl e
     ·clear e
      go_wp2_with fail
      (refine wp_region_below (by kernel_rfl) (by kernel_rfl) ?_
       repeat (refine wpQuiet_step (fun K hK=>?_)
               go_simp
               first
                | (refine hK _ ?_;clear hK K)
                | (replace hK:=Lib.hid hK
                   apply Exists.intro
                   refine ⟨fun wq hq=>?_,hK.out _ ?_⟩
                   ·(obtain ⟨f1,f2⟩:=F.out wq hq)
                    go_simp
                    first
                     | done
                     | rfl
                     | exact ⟨rfl,rfl⟩
                     | fail
                   clear hK K))
       refine wpQuiet_nil ?_)
      intro w5 hx5
      go_wp2_with fail
      go_ret
      exact ⟨by rw [hne.out];rfl,hB.out.trans (hx5.below.mono hB.out.size)⟩
    ·cases y
     ·clear e
      go_wp2_with fail
      (refine wp_region_below (by kernel_rfl) (by kernel_rfl) ?_
       repeat (refine wpQuiet_step (fun K hK=>?_)
               go_simp
               first
                | (refine hK _ ?_;clear hK K)
                | (replace hK:=Lib.hid hK
                   apply Exists.intro
                   refine ⟨fun wq hq=>?_,hK.out _ ?_⟩
                   ·(obtain ⟨f1,f2⟩:=F.out wq hq)
                    go_simp
                    first
                     | done
                     | rfl
                     | exact ⟨rfl,rfl⟩
                     | fail
                   clear hK K))
       refine wpQuiet_nil ?_)
      intro w5 hx5
      go_wp2_with fail
      go_ret
      exact ⟨by rw [hne.out];rfl,hB.out.trans (hx5.below.mono hB.out.size)⟩
     ·exact absurd rfl e
  ·obtain rfl:i = l.length:=by omega
   have hm':=hm.out
   have hyes:Hid (decide (l = m) = true):=Lib.hid (decide_eq_true (List.ext_getElem? fun j=>by
    by_cases hj:j < l.length
    ·exact hE.out j hj
    ·rw [List.getElem?_eq_none (by omega),List.getElem?_eq_none (by omega)]))
   clear hm'
   go_wp2_with fail
   go_ret
   exact ⟨by rw [hyes.out];rfl,hB.out⟩
theorem bits_andN (y z:Nat) (hy:y < 9223372036854775808) (hz:z < 9223372036854775808):bits BinOp.and IntKind.i64 (y:Int) (z:Int) = ((y &&& z:Nat):Int):=by
 have hlt:y &&& z < 9223372036854775808:=Nat.lt_of_le_of_lt Nat.and_le_left hy
 show IntKind.i64.wrap (((BitVec.ofInt 64 (y:Int) &&& BitVec.ofInt 64 (z:Int):BitVec 64).toNat:Nat):Int) = _
 rw [show ((BitVec.ofInt 64 (y:Int) &&& BitVec.ofInt 64 (z:Int)).toNat) = y &&& z from by
  rw [BitVec.toNat_and,BitVec.ofInt_natCast,BitVec.ofInt_natCast,BitVec.toNat_ofNat,BitVec.toNat_ofNat,Nat.mod_eq_of_lt (by omega),Nat.mod_eq_of_lt (by omega)]]
 rw [IntWalk.i64_in _ (by omega)]
end Go.Proofs.YteikmmfjhabijaaGreatDoor
namespace Go.Proofs.YteikmmfjhabijaaGreatDoor
open Go Go.RowKit Go.Shelf
def idxK (l:List Int) (x:L.Asg):Nat→Nat
 | 0=>0
 | k+1=>idxK l x k+(if x (l.getD k 0) = true then 2 ^ (l.length - 1 - k) else 0)
def idxF (l:List Int) (x:L.Asg):Nat:=idxK l x l.length
theorem idxK_ok (l:List Int) (x:L.Asg):∀ k,k≤l.length→∃ m,idxK l x k = 2 ^ (l.length - k) * m∧m < 2 ^ k∧∀ j,j < k→m.testBit (k - 1 - j) = x (l.getD j 0)
 | 0,_=>⟨0,by simp [idxK],by simp,fun j h=>by omega⟩
 | k+1,h=>by
   obtain ⟨m,e,hm,hb⟩:=idxK_ok l x k (by omega)
   have hp:2 ^ (l.length - k) = 2 ^ (l.length - (k+1)) * 2:=by
    rw [←Nat.pow_succ];congr 1;omega
   have hq:l.length - 1 - k = l.length - (k+1):=by omega
   refine ⟨2 * m+(x (l.getD k 0)).toNat,?_,?_,fun j hj=>?_⟩
   ·rw [idxK,e,hp,hq,Nat.mul_add,Nat.mul_assoc]
    cases x (l.getD k 0) <;> simp
   ·have:(x (l.getD k 0)).toNat≤1:=by cases x (l.getD k 0) <;> simp
    rw [Nat.pow_succ];omega
   ·rcases Nat.lt_or_eq_of_le (Nat.le_of_lt_succ hj) with hj | rfl
    ·rw [show k+1 - 1 - j = (k - 1 - j)+1 by omega,Nat.testBit_succ,show (2 * m+(x (l.getD k 0)).toNat) / 2 = m from by
      have:(x (l.getD k 0)).toNat≤1:=by cases x (l.getD k 0) <;> simp
      omega]
     exact hb j hj
    ·rw [show j+1 - 1 - j = 0 by omega,Nat.testBit_zero]
     cases x (l.getD j 0)
     ·simp
     ·simp
theorem idxF_lt (l:List Int) (x:L.Asg):idxF l x < 2 ^ l.length:=by
 obtain ⟨m,e,hm,_⟩:=idxK_ok l x l.length (Nat.le_refl _)
 rw [idxF,e,Nat.sub_self,Nat.pow_zero,Nat.one_mul];exact hm
theorem idxF_bit (l:List Int) (x:L.Asg) {j:Nat} (hj:j < l.length):(idxF l x).testBit (l.length - 1 - j) = x l[j]:=by
 obtain ⟨m,e,_,hb⟩:=idxK_ok l x l.length (Nat.le_refl _)
 rw [idxF,e,Nat.sub_self,Nat.pow_zero,Nat.one_mul,hb j hj,List.getD_eq_getElem?_getD,List.getElem?_eq_getElem hj];rfl
theorem idxK_le (l:List Int) (x:L.Asg) (k:Nat) (hk:k≤l.length):idxK l x k < 2 ^ l.length:=by
 obtain ⟨m,e,hm,_⟩:=idxK_ok l x k hk
 rw [e]
 calc 2 ^ (l.length - k) * m < 2 ^ (l.length - k) * 2 ^ k:=Nat.mul_lt_mul_of_pos_left hm (Nat.pos_of_ne_zero (by simp))
  _ = 2 ^ l.length:=by rw [←Nat.pow_add];congr 1;omega
structure IsTab (l:List Int) (φ:L.Asg→Bool) (f:List Bool):Prop where
 len:f.length = 2 ^ l.length
 says:∀ x,f.getD (idxF l x) false = φ x
set_option maxRecDepth 100000 in
set_option maxHeartbeats 1000000 in
theorem index_any {w:World} {vl:Value} {l:List Int} (hv:SlI w vl l) (hlt:∃ n,n = l.length∧n≤6) (x:VSet) :
  Calls Tryz.prog 19 #[vl,encS x] w fun e w'=>e = .returned (.int .i64 ((idxF l (L.asg x):Nat):Int))∧Below w.heap.size w w':=by
 obtain ⟨n,hn,hn6⟩:=hlt
 obtain ⟨ba,c,rfl,hc⟩:=hv
 rw [←hn]
 have hcell:Hid (∀ k,k < n→∃ b o,ba = some ⟨b,o,none⟩∧b < w.heap.size∧w.cell? ⟨b,o+k,none⟩ = some (.int .i64 (l.getD k 0))):=Lib.hid fun k hk=>by
  rcases hc with ⟨_,rfl,_⟩ | ⟨b,o,e,h⟩
  ·simp at hn;omega
  ·refine ⟨b,o,e,?_,?_⟩
   ·exact World.block_lt_of_cell? w _ (h k (by omega))
   ·rw [List.getD_eq_getElem?_getD,List.getElem?_eq_getElem (by omega)];exact h k (by omega)
 clear hc
 replace hn:=Lib.hid hn
 have hbox:=heap_alloc_new w (.cells #[.int .u64 (lo x),.int .u64 (hi x)] 29)
 have hx1:=(Below.refl w.heap.size w).alloc (Nat.le_refl _) (.cells #[.int .u64 (lo x),.int .u64 (hi x)] 29)
 have h0:Hid ((w.alloc (.cells #[.int .u64 (lo x),.int .u64 (hi x)] 29)).heap[w.heap.size]? = some (.cells #[.int .u64 (lo x),.int .u64 (hi x)] 29 (0,0))∧Below w.heap.size w (w.alloc (.cells #[.int .u64 (lo x),.int .u64 (hi x)] 29))∧w.heap.size < (w.alloc (.cells #[.int .u64 (lo x),.int .u64 (hi x)] 29)).heap.size):=Lib.hid ⟨hbox,hx1,by simp⟩
 clear hbox hx1
 unfold encS
 go_enter Tryz.func19,Tryz.ntmps19
 go_wp2_with fail
 generalize w.alloc (.cells #[.int .u64 (lo x),.int .u64 (hi x)] 29) = w1 at *
 go_loopw [5,6] (fun v i wr=>∃ k:Nat,k≤n∧i = .int .i64 (k:Int)∧v = .int .i64 ((idxK l (L.asg x) k:Nat):Int)∧Hid (wr.heap[w.heap.size]? = some (.cells #[.int .u64 (lo x),.int .u64 (hi x)] 29 (0,0))∧Below w.heap.size w wr∧w.heap.size < wr.heap.size)) (fun _ i _=>n - (intOf i).toNat)
 case atStart=>exact ⟨0,by omega,rfl,rfl,h0⟩
 case round =>
  clear h0
  obtain ⟨k,hk,rfl,rfl,hI⟩:=hrel
  obtain ⟨hb,hB,hsz⟩:=hI.out
  clear hI
  by_cases hlt:k < n
  ·have dlt:decide ((k:Int) < (n:Int)) = true:=decide_eq_true (by omega)
   obtain ⟨b,o,rfl,hbl,hz⟩:=hcell.out k hlt
   have hzr:=(hB.cell hbl).trans hz
   have F1:∀ w',Ext wr w'→w'.cell? ⟨w.heap.size,0,none⟩ = some (.int .u64 (lo x))∧w'.cell? ⟨w.heap.size,1,none⟩ = some (.int .u64 (hi x))∧w'.cell? ⟨b,o+k,none⟩ = some (.int .i64 (l.getD k 0)) :=
    fun w' hw'=>⟨hw'.cell (pbox_cells hb).1,hw'.cell (pbox_cells hb).2,hw'.cell hzr⟩
   have hhas:Hid (∀ w',Calls Tryz.prog 58 #[.agg #[.int .u64 (lo x),.int .u64 (hi x)],.int .i64 (l.getD k 0)] w' fun e w''=>e = .returned (.bool (L.asg x (l.getD k 0)))∧Ext w' w''):=Lib.hid fun w'=>refHas_any x (l.getD k 0) w'
   have hnx:idxK l (L.asg x) (k+1) = idxK l (L.asg x) k+(if L.asg x (l.getD k 0) = true then 2 ^ (n - 1 - k) else 0):=by rw [hn.out];rfl
   have hle:idxK l (L.asg x) k < 2 ^ n:=by rw [hn.out];exact idxK_le l (L.asg x) k (by rw [←hn.out];omega)
   have hle2:idxK l (L.asg x) (k+1) < 2 ^ n:=by rw [hn.out];exact idxK_le l (L.asg x) (k+1) (by rw [←hn.out];omega)
   have hp6:=pow_le64 hn6
   have hbit:=fun w'=>bit_any n k hlt (by omega) w'
   generalize hgx:idxK l (L.asg x) (k+1) = nx at *
   replace hgx:=Lib.hid hgx
   generalize idxK l (L.asg x) k = ix at *
   generalize 2 ^ n = pn at *
   generalize 2 ^ (n - 1 - k) = pk at *
   replace F1:=Lib.hid F1
   replace hbit:=Lib.hid hbit
   replace hnx:=Lib.hid hnx
   replace hb:=Lib.hid hb
   clear hzr hz
   generalize l.getD k 0 = z at *
   generalize L.asg x z = φz at *
   go_wp2_with fail
   (refine wp_region_below (by kernel_rfl) (by kernel_rfl) ?_
    repeat (refine wpQuiet_step (fun K hK=>?_)
            go_simp
            first
             | (refine hK _ ?_;clear hK K)
             | (replace hK:=Lib.hid hK
                apply Exists.intro
                refine ⟨fun wq hq=>?_,hK.out _ ?_⟩
                ·(obtain ⟨f1,f2,f3⟩:=F1.out wq hq)
                 go_simp
                 first
                  | done
                  | rfl
                  | exact ⟨rfl,rfl⟩
                  | (refine (hhas.out _).mono ?_;rintro e w' ⟨rfl,hb⟩;exact ⟨rfl,hq.trans hb⟩)
                clear hK K))
    refine wpQuiet_nil ?_)
   intro w2 hw2
   clear F1 hhas
   have h2:Hid (w2.heap[w.heap.size]? = some (.cells #[.int .u64 (lo x),.int .u64 (hi x)] 29 (0,0))∧Below w.heap.size w w2∧w.heap.size < w2.heap.size):=Lib.hid ⟨(hw2.below.block _ (by omega)).trans hb.out,hB.trans (hw2.below.mono (by omega)),by have:=hw2.size;omega⟩
   cases φz
   ·have hnx2:=hnx.out
    simp only [Bool.false_eq_true,if_false,Nat.add_zero] at hnx2
    go_wp2_with fail
    go_roundw
    case rel=>exact ⟨k+1,by omega,by go_num,by rw [hgx.out,hnx2],h2⟩
    case measure=>simp [intOf];omega
   ·have hnx2:=hnx.out
    simp only [if_true] at hnx2
    go_wp2_with fail
    refine (hbit.out _).mono ?_
    rintro e w3 ⟨rfl,rfl⟩
    go_wp2_with fail
    go_roundw
    case rel=>exact ⟨k+1,by omega,by go_num,by rw [hgx.out,hnx2];go_num,h2⟩
    case measure=>simp [intOf];omega
  ·obtain rfl:k = n:=by omega
   clear hk hlt
   have he:Hid (idxF l (L.asg x) = idxK l (L.asg x) k):=Lib.hid (by rw [idxF,←hn.out])
   replace hb:=Lib.hid hb
   go_wp2_with fail
   go_ret
   exact ⟨by rw [he.out];rfl,hB⟩
end Go.Proofs.YteikmmfjhabijaaGreatDoor
