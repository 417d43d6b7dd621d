import Derived.Test.YtckhohpbokojdaaGreatDoorMN13
import Derived.Shelf.SlSortCmp.Insertion
section
set_option linter.unusedSimpArgs false
set_option linter.unusedVariables false
namespace Go.Proofs.YtckhohpbokojdaaGreatDoor
open Go Go.RowKit Go.Shelf
def cmpL (a b:Int):Int:=if varF a = varF b then a - b else varF a - varF b
set_option maxRecDepth 100000 in
theorem cmpL_any {a b:Int} (ha:-128≤a∧a≤128) (hb:-128≤b∧b≤128) (w:World):Calls Tryz.prog 83 #[.int .i64 a,.int .i64 b] w fun e w'=>e = .returned (.int .i64 (cmpL a b))∧w = w':=by
 have q1:=var_any a w
 have q2:=var_any b w
 have h1:0≤varF a∧varF a≤128:=by unfold varF;repeat' split;all_goals omega
 have h2:0≤varF b∧varF b≤128:=by unfold varF;repeat' split;all_goals omega
 have hc:cmpL a b = if varF a = varF b then a - b else varF a - varF b:=rfl
 have hw1:IntKind.i64.wrap (a - b) = a - b:=IntWalk.i64_in _ (by omega)
 have hw2:IntKind.i64.wrap (varF a - varF b) = varF a - varF b:=IntWalk.i64_in _ (by omega)
 rw [hc]
 generalize varF a = x at *
 generalize varF b = y at *
 by_cases hxy:x = y
 ·rw [if_pos hxy]
  subst hxy
  clear hc hw2
  go_enter Tryz.func83,Tryz.ntmps83
  go_wp2_with fail
  refine q1.mono ?_
  rintro e w2 ⟨rfl,rfl⟩
  clear q1
  go_wp2_with fail
  refine q2.mono ?_
  rintro e w3 ⟨rfl,rfl⟩
  clear q2
  go_wp2_with fail
  go_ret
  exact ⟨rfl,rfl⟩
 ·rw [if_neg hxy]
  have e1:(x == y) = false:=beq_eq_false_iff_ne.2 hxy
  have e2:(x != y) = true:=by simp [hxy]
  clear hc hw1
  replace hxy:=Lib.hid hxy
  go_enter Tryz.func83,Tryz.ntmps83
  go_wp2_with fail
  refine q1.mono ?_
  rintro e w2 ⟨rfl,rfl⟩
  clear q1
  go_wp2_with fail
  refine q2.mono ?_
  rintro e w3 ⟨rfl,rfl⟩
  clear q2
  go_wp2_with fail
  go_ret
  exact ⟨rfl,rfl⟩
theorem order1_any {a b:Int} (ha:-128≤a∧a≤128) (hb:-128≤b∧b≤128) (w:World):Calls Tryz.prog 82 #[.int .i64 a,.int .i64 b] w fun e w'=>e = .returned (.int .i64 (cmpL a b))∧w = w':=by
 have q:=cmpL_any ha hb w
 generalize cmpL a b = z at *
 go_enter Tryz.func82,Tryz.ntmps82
 go_wp2_with fail
 refine q.mono ?_
 rintro e w2 ⟨rfl,rfl⟩
 clear q
 go_wp2_with fail
 go_ret
 exact ⟨rfl,rfl⟩
end Go.Proofs.YtckhohpbokojdaaGreatDoor
end
section
set_option linter.unusedSimpArgs false
set_option linter.unusedVariables false
namespace Go.Proofs.YtckhohpbokojdaaGreatDoor
open Go Go.RowKit Go.Shelf Go.Sort
abbrev LitB:={z:Int // -128≤z∧z≤128}
instance:Inhabited LitB:=⟨⟨0,by omega,by omega⟩⟩
def encLB (x:LitB):Value:=.int .i64 x.1
def cmpB (x y:LitB):Int:=cmpL x.1 y.1
theorem varF_abs {z:Int} (h:-128≤z∧z≤128):varF z = (z.natAbs:Int):=by
 unfold varF
 repeat' split
 all_goals omega
theorem cmpB_lt (x y:LitB):ltOf cmpB x y = true↔x.1.natAbs < y.1.natAbs∨(x.1.natAbs = y.1.natAbs∧x.1 < y.1):=by
 unfold ltOf cmpB cmpL
 rw [varF_abs x.2,varF_abs y.2,decide_eq_true_eq]
 split <;> omega
theorem cmpB_nlt (x y:LitB):ltOf cmpB x y = false↔¬ (x.1.natAbs < y.1.natAbs∨(x.1.natAbs = y.1.natAbs∧x.1 < y.1)):=by
 rw [←cmpB_lt];simp
theorem cmpB_swo:SWO (ltOf cmpB) where
 irrefl x:=by rw [cmpB_nlt];omega
 trans x y z h1 h2:=by rw [cmpB_lt] at *;omega
 ntrans x y z h1 h2:=by rw [cmpB_nlt] at *;omega
theorem cmpB_total (x y:LitB) (h1:ltOf cmpB x y = false) (h2:ltOf cmpB y x = false):x = y:=by
 rw [cmpB_nlt] at *
 exact Subtype.ext (by omega)
def LeL (a b:Int):Prop:=a.natAbs < b.natAbs∨(a.natAbs = b.natAbs∧a≤b)
theorem opp_of {l:List Int} (hs:l.Pairwise fun a b=>LeL a b∧a≠b) (hz:∀ z∈l,z≠0):OppL l↔∃ z∈l,-z∈l:=by
 constructor
 ·rintro ⟨k,h,e⟩
  exact ⟨l[k],List.getElem_mem (by omega),by rw [←e];exact List.getElem_mem h⟩
 ·rintro ⟨z,h1,h2⟩
  -- the negative one stands first
  have key:∀ a∈l,a < 0→-a∈l→OppL l:=fun a ha hneg hb=>by
   obtain ⟨i,hi,rfl⟩:=List.getElem_of_mem ha
   obtain ⟨j,hj,ej⟩:=List.getElem_of_mem hb
   have hp:=fun i j (h:i < j) (hj:j < l.length)=>List.pairwise_iff_getElem.1 hs i j (by omega) hj h
   have hij:i < j:=by
    rcases Nat.lt_trichotomy i j with h | h | h
    ·exact h
    ·subst h;omega
    ·have:=(hp j i h hi).1
     rw [ej] at this
     unfold LeL at this
     omega
   have hj1:j = i+1:=by
    by_cases e:j = i+1
    ·exact e
    ·exfalso
     have a1:=hp i (i+1) (by omega) (by omega)
     have a2:=hp (i+1) j (by omega) hj
     rw [ej] at a2
     unfold LeL at a1 a2
     omega
   subst hj1
   exact ⟨i,hj,ej⟩
  have hz1:=hz z h1
  by_cases hneg:z < 0
  ·exact key z h1 hneg h2
  ·exact key (-z) h2 (by omega) (by rw [Int.neg_neg];exact h1)
end Go.Proofs.YtckhohpbokojdaaGreatDoor
end
