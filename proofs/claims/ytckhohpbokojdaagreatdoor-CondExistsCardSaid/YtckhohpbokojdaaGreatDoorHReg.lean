import Derived.Test.YtckhohpbokojdaaGreatDoorHRef3
import Derived.Test.YtckhohpbokojdaaGreatDoorHBase
import Derived.Deep.RegionHeld3
section
set_option linter.unusedSimpArgs false
set_option linter.unusedVariables false
namespace Go.Proofs.YtckhohpbokojdaaGreatDoor.L
inductive Reach (ns:List SNode) (a:Nat):Nat→Prop
 | refl:Reach ns a a
 | prime {b:Nat} {n:SNode} {p:Nat × Nat}:Reach ns a b→ns[b]? = some n→p∈n.el→Reach ns a p.1
 | sub {b:Nat} {n:SNode} {p:Nat × Nat}:Reach ns a b→ns[b]? = some n→p∈n.el→Reach ns a p.2
def Shut (ns:List SNode) (o:List Nat) (b:Nat):Prop:=∀ n,ns[b]? = some n→∀ p∈n.el,p.1∈o∧p.2∈o
end Go.Proofs.YtckhohpbokojdaaGreatDoor.L
namespace Go.Proofs.YtckhohpbokojdaaGreatDoor.L
theorem listVK_mem (s:VSet):∀ (k:Nat) (x:Int),x∈listVK s k↔1≤x∧x≤k∧hasS s x = true
 | 0,x=>⟨(fun h=>by cases h),fun h=>by omega⟩
 | k+1,x=>by
   rw [listVK]
   split
   ·rename_i h
    rw [List.mem_append,listVK_mem s k,List.mem_singleton]
    constructor
    ·rintro (⟨h1,h2,h3⟩ | rfl)
     ·exact ⟨h1,by omega,h3⟩
     ·exact ⟨by omega,by omega,h⟩
    ·rintro ⟨h1,h2,h3⟩
     by_cases e:x = (k:Int)+1
     ·exact .inr e
     ·exact .inl ⟨h1,by omega,h3⟩
   ·rename_i h
    rw [listVK_mem s k]
    constructor
    ·rintro ⟨h1,h2,h3⟩;exact ⟨h1,by omega,h3⟩
    ·rintro ⟨h1,h2,h3⟩
     refine ⟨h1,?_,h3⟩
     apply Classical.byContradiction
     intro hn
     have:x = (k:Int)+1:=by omega
     rw [this] at h3;exact h h3
theorem listVK_sorted (s:VSet):∀ (k:Nat),(listVK s k).Pairwise (· < ·)
 | 0=>.nil
 | k+1=>by
   rw [listVK]
   split
   ·rw [List.pairwise_append]
    refine ⟨listVK_sorted s k,List.pairwise_singleton _ _,fun a ha b hb=>?_⟩
    rw [List.mem_singleton] at hb
    have:=(listVK_mem s k a).1 ha
    omega
   ·exact listVK_sorted s k
theorem listV_mem (s:VSet) (x:Int):x∈listV s↔hasS s x = true:=by
 unfold listV
 rw [listVK_mem]
 exact ⟨fun h=>h.2.2,fun h=>⟨(hasS_range h).1,(hasS_range h).2,h⟩⟩
end Go.Proofs.YtckhohpbokojdaaGreatDoor.L
end
section
set_option linter.unusedSimpArgs false
set_option linter.unusedVariables false
namespace Go.Proofs.YtckhohpbokojdaaGreatDoor.L
def upd (x:Asg) (v:Int) (b:Bool):Asg:=fun u=>if u = v then b else x u
end Go.Proofs.YtckhohpbokojdaaGreatDoor.L
namespace Go.Proofs.YtckhohpbokojdaaGreatDoor.L
def cl (n:Nat):Nat:=if n≤4 then 0 else if n = 5 then 2 else 62
end Go.Proofs.YtckhohpbokojdaaGreatDoor.L
namespace Go.Proofs.YtckhohpbokojdaaGreatDoor.L
theorem hasS_zero (v:Int):hasS 0 v = false:=by
 unfold hasS
 rw [show (0:VSet).getLsbD (v - 1).toNat = false from BitVec.getLsbD_zero,Bool.and_false]
theorem hasS_with (s:VSet) (u v:Int):hasS (withS s u) v = (hasS s v || (decide (u = v) && decide (1≤v) && decide (v≤128))):=by
 unfold withS
 split
 ·rename_i h
  unfold hasS
  rw [BitVec.getLsbD_or,BitVec.getLsbD_twoPow]
  by_cases h1:1≤v
  ·by_cases h2:v≤128
   ·by_cases e:u = v
    ·subst e
     simp only [decide_eq_true h1,decide_eq_true h2,Bool.true_and,decide_true,Bool.and_true]
     rw [decide_eq_true (show (u - 1).toNat < 128 by omega)]
    ·have:¬ (u - 1).toNat = (v - 1).toNat:=by omega
     rw [decide_eq_false this,decide_eq_false e]
     simp
   ·simp [h2]
  ·simp [h1]
 ·rename_i h
  by_cases e:u = v
  ·subst e
   by_cases h1:1≤u
   ·have:¬ u≤128:=fun h2=>h ⟨h1,h2⟩
    simp [this]
   ·simp [h1]
  ·simp [e]
end Go.Proofs.YtckhohpbokojdaaGreatDoor.L
namespace Go.Proofs.YtckhohpbokojdaaGreatDoor.L
def validB (n l:Int):Bool:=decide (l≠0) && (decide (-n≤l) && decide (l≤n))
theorem validB_range {n l:Int} (hn:n≤128) (h:validB n l = true):1≤(l.natAbs:Int)∧(l.natAbs:Int)≤n∧(l.natAbs:Int)≤128:=by
 unfold validB at h
 simp only [Bool.and_eq_true,decide_eq_true_eq] at h
 omega
def liφ (l:Int):Asg→Bool:=fun x=>x (l.natAbs:Int) == decide (0 < l)
end Go.Proofs.YtckhohpbokojdaaGreatDoor.L
end
section
set_option linter.unusedSimpArgs false
set_option linter.unusedVariables false
namespace Go.Proofs.YtckhohpbokojdaaGreatDoor
open Go Go.RowKit Go.Shelf
def t3:List VN:=[⟨-1,-1,1⟩,⟨-1,-1,2⟩,⟨0,1,0⟩]
end Go.Proofs.YtckhohpbokojdaaGreatDoor
end
section
set_option linter.unusedSimpArgs false
set_option linter.unusedVariables false
namespace Go.Proofs.YtckhohpbokojdaaGreatDoor
open Go Go.RowKit Go.Shelf
def TabAt (w:World) (v:Value) (f:List Bool):Prop:=∃ (g c:Nat) (cs:Array Value),v = .slice (some ⟨g,0,none⟩) f.length c∧w.heap[g]? = some (.cells cs 4 (0,0))∧∀ j (hj:j < f.length),cs[j]? = some (.bool f[j])
theorem pow_wrap (n:Nat) (hn:n≤30):IntKind.i64.wrap ((2:Int) ^ n) = ((2 ^ n:Nat):Int):=by
 have h1:2 ^ n≤1073741824:=Nat.le_trans (Nat.pow_le_pow_right (by omega) hn) (by decide)
 rw [show ((2:Int) ^ n) = ((2 ^ n:Nat):Int) by simp]
 generalize 2 ^ n = m at *
 rw [IntWalk.i64_in _ (by omega)]
end Go.Proofs.YtckhohpbokojdaaGreatDoor
end
section
set_option linter.unusedSimpArgs false
set_option linter.unusedVariables false
namespace Go.Proofs.YtckhohpbokojdaaGreatDoor
open Go Go.RowKit
theorem takeL {P:Program} {l:List Oper} {md:Region.Mode} {Q:Exit→Act→World→Prop} {S:World→Prop} {i:Nat} {oi:Oper} {v:Value} {fuel:Nat} {listed:Array Bool} {a:Act} {w:World} (hi:l[i]? = some oi)
  (hs:Region.noSelect l.toArray = true) (hf:Region.free md l.toArray listed i = true) (hr:(Region.ready md l.toArray listed).contains i = true)
  (hQ:∀ c a w,Q (.panic c) (a.put oi.dst v) w→Q (.panic c) a w) (hy:YieldsIf P l.toArray S oi v a) (hS:S w)
  (h:wpAnyH P md l.toArray Q S fuel (listed.setIfInBounds i true) (a.put oi.dst v) w):wpAnyH P md l.toArray Q S (fuel+1) listed a w :=
 wpAnyH_take (by simpa using hi) hs hf hr hQ hy hS h
theorem consL {P:Program} {l:List Oper} {md:Region.Mode} {Q:Exit→Act→World→Prop} {S:World→Prop} {fuel:Nat} {listed:Array Bool} {a:Act} {w:World} {i:Nat} {o:Oper} (ho:l[i]? = some o)
  (h:∀ K':Act→World→Prop,Shut (∀ a w,S w→(S w→wpAnyH P md l.toArray Q S fuel (listed.setIfInBounds i true) a w)→K' a w)→if Region.wanted o (yielded l.toArray a.tmps) = true then Oper.wp P o a w K' Q else K' (a.put o.dst undef) w)
  : AllReadyH P md l.toArray Q S fuel listed a w [i]:=AllReadyH.cons (by simpa using ho) h AllReadyH.nil
theorem consL2 {P:Program} {l:List Oper} {md:Region.Mode} {Q:Exit→Act→World→Prop} {S:World→Prop} {fuel:Nat} {listed:Array Bool} {a:Act} {w:World} {i j:Nat} {o p:Oper} (ho:l[i]? = some o) (hp:l[j]? = some p)
  (h:∀ K':Act→World→Prop,Shut (∀ a w,S w→(S w→wpAnyH P md l.toArray Q S fuel (listed.setIfInBounds i true) a w)→K' a w)→if Region.wanted o (yielded l.toArray a.tmps) = true then Oper.wp P o a w K' Q else K' (a.put o.dst undef) w)
  (h':∀ K':Act→World→Prop,Shut (∀ a w,S w→(S w→wpAnyH P md l.toArray Q S fuel (listed.setIfInBounds j true) a w)→K' a w)→if Region.wanted p (yielded l.toArray a.tmps) = true then Oper.wp P p a w K' Q else K' (a.put p.dst undef) w) :
  AllReadyH P md l.toArray Q S fuel listed a w [i,j]:=AllReadyH.cons (by simpa using ho) h (AllReadyH.cons (by simpa using hp) h' AllReadyH.nil)
end Go.Proofs.YtckhohpbokojdaaGreatDoor
end
