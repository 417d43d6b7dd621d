import Derived.Test.YtckhohpbokojdaaGreatDoorMRef3
section
set_option linter.unusedSimpArgs false
set_option linter.unusedVariables false
namespace Go.Proofs.YtckhohpbokojdaaGreatDoor.L
def joinT (g:Nat→List UInt8):List (Nat × Nat)→List UInt8
 | []=>[]
 | p :: r=>(g p.1++[32]++g p.2)++(r.flatMap fun q=>[59,32]++(g q.1++[32]++g q.2))
def txF:Nat→List SNode→Nat→List UInt8
 | 0,_,_=>[]
 | f+1,ns,a=>match ns[a]? with
   | none=>[]
   | some n=>if n.el = [] then (if n.lit≠0 then Lib.itoa n.lit else if a = 1 then [84] else [70]) else [40]++joinT (txF f ns) n.el++[41]
def tx (ns:List SNode) (a:Nat):List UInt8:=txF (a+1) ns a
end Go.Proofs.YtckhohpbokojdaaGreatDoor.L
namespace Go.Proofs.YtckhohpbokojdaaGreatDoor.L
inductive Reach (ns:List SNode) (a:Nat):Nat→Prop
 | refl:Reach ns a a
 | prime {b:Nat} {n:SNode} {p:Nat × Nat}:Reach ns a b→ns[b]? = some n→p∈n.el→Reach ns a p.1
 | sub {b:Nat} {n:SNode} {p:Nat × Nat}:Reach ns a b→ns[b]? = some n→p∈n.el→Reach ns a p.2
def Shut (ns:List SNode) (o:List Nat) (b:Nat):Prop:=∀ n,ns[b]? = some n→∀ p∈n.el,p.1∈o∧p.2∈o
end Go.Proofs.YtckhohpbokojdaaGreatDoor.L
namespace Go.Proofs.YtckhohpbokojdaaGreatDoor.L
theorem listVK_mem (s:VSet):∀ (k:Nat) (x:Int),x∈listVK s k↔1≤x∧x≤k∧hasS s x = true
 | 0,x=>⟨(fun h=>by cases h),fun h=>by omega⟩
 | k+1,x=>by
   rw [listVK]
   split
   ·rename_i h
    rw [List.mem_append,listVK_mem s k,List.mem_singleton]
    constructor
    ·rintro (⟨h1,h2,h3⟩ | rfl)
     ·exact ⟨h1,by omega,h3⟩
     ·exact ⟨by omega,by omega,h⟩
    ·rintro ⟨h1,h2,h3⟩
     by_cases e:x = (k:Int)+1
     ·exact .inr e
     ·exact .inl ⟨h1,by omega,h3⟩
   ·rename_i h
    rw [listVK_mem s k]
    constructor
    ·rintro ⟨h1,h2,h3⟩;exact ⟨h1,by omega,h3⟩
    ·rintro ⟨h1,h2,h3⟩
     refine ⟨h1,?_,h3⟩
     apply Classical.byContradiction
     intro hn
     have:x = (k:Int)+1:=by omega
     rw [this] at h3;exact h h3
theorem listVK_sorted (s:VSet):∀ (k:Nat),(listVK s k).Pairwise (· < ·)
 | 0=>.nil
 | k+1=>by
   rw [listVK]
   split
   ·rw [List.pairwise_append]
    refine ⟨listVK_sorted s k,List.pairwise_singleton _ _,fun a ha b hb=>?_⟩
    rw [List.mem_singleton] at hb
    have:=(listVK_mem s k a).1 ha
    omega
   ·exact listVK_sorted s k
theorem listV_mem (s:VSet) (x:Int):x∈listV s↔hasS s x = true:=by
 unfold listV
 rw [listVK_mem]
 exact ⟨fun h=>h.2.2,fun h=>⟨(hasS_range h).1,(hasS_range h).2,h⟩⟩
end Go.Proofs.YtckhohpbokojdaaGreatDoor.L
end
section
set_option linter.unusedSimpArgs false
set_option linter.unusedVariables false
namespace Go.Proofs.YtckhohpbokojdaaGreatDoor.L
def upd (x:Asg) (v:Int) (b:Bool):Asg:=fun u=>if u = v then b else x u
end Go.Proofs.YtckhohpbokojdaaGreatDoor.L
namespace Go.Proofs.YtckhohpbokojdaaGreatDoor.L
def cl (n:Nat):Nat:=if n≤4 then 0 else if n = 5 then 2 else 62
end Go.Proofs.YtckhohpbokojdaaGreatDoor.L
namespace Go.Proofs.YtckhohpbokojdaaGreatDoor.L
theorem hasS_zero (v:Int):hasS 0 v = false:=by
 unfold hasS
 rw [show (0:VSet).getLsbD (v - 1).toNat = false from BitVec.getLsbD_zero,Bool.and_false]
theorem hasS_with (s:VSet) (u v:Int):hasS (withS s u) v = (hasS s v || (decide (u = v) && decide (1≤v) && decide (v≤128))):=by
 unfold withS
 split
 ·rename_i h
  unfold hasS
  rw [BitVec.getLsbD_or,BitVec.getLsbD_twoPow]
  by_cases h1:1≤v
  ·by_cases h2:v≤128
   ·by_cases e:u = v
    ·subst e
     simp only [decide_eq_true h1,decide_eq_true h2,Bool.true_and,decide_true,Bool.and_true]
     rw [decide_eq_true (show (u - 1).toNat < 128 by omega)]
    ·have:¬ (u - 1).toNat = (v - 1).toNat:=by omega
     rw [decide_eq_false this,decide_eq_false e]
     simp
   ·simp [h2]
  ·simp [h1]
 ·rename_i h
  by_cases e:u = v
  ·subst e
   by_cases h1:1≤u
   ·have:¬ u≤128:=fun h2=>h ⟨h1,h2⟩
    simp [this]
   ·simp [h1]
  ·simp [e]
end Go.Proofs.YtckhohpbokojdaaGreatDoor.L
namespace Go.Proofs.YtckhohpbokojdaaGreatDoor.L
def validB (n l:Int):Bool:=decide (l≠0) && (decide (-n≤l) && decide (l≤n))
theorem validB_range {n l:Int} (hn:n≤128) (h:validB n l = true):1≤(l.natAbs:Int)∧(l.natAbs:Int)≤n∧(l.natAbs:Int)≤128:=by
 unfold validB at h
 simp only [Bool.and_eq_true,decide_eq_true_eq] at h
 omega
end Go.Proofs.YtckhohpbokojdaaGreatDoor.L
end
