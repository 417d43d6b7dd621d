import Derived.Test.YtgphkbnoflfneaaDoorSddL
namespace Go.Proofs.YtgphkbnoflfneaaDoor
open Go Go.RowKit

/-! The functions of package sdd on data; none: the store is full, or an index is out of range. -/
def smallN (n : SNode) : Prop := -1 ≤ n.pl ∧ n.pl ≤ 1048576 ∧ -1048576 ≤ n.lit ∧ n.lit ≤ 1048576 ∧ n.el.length ≤ 1048576 ∧ ∀ p ∈ n.el, p.1 ≤ 1048576 ∧ p.2 ≤ 1048576
instance (n : SNode) : Decidable (smallN n) := by unfold smallN; infer_instance

def addF (s : St) (n : SNode) : Option (Nat × St) :=
  if smallN n then
    match asc s.uniq (n.pl, n.lit, n.el) with
    | some i => some (i, s)
    | none => if s.nodes.length < 1048576 then
        some (s.nodes.length, { s with nodes := s.nodes ++ [n], uniq := ((n.pl, n.lit, n.el), s.nodes.length) :: s.uniq })
      else none
  else none

def litN (l pl : Int) : SNode := { pl := pl, lit := l, el := [], le := if 0 < l then ofS [l] else 0 }
def literalF (s : St) (l pl : Int) : Option (Nat × St) := addF s (litN l pl)

/-- the least model of a node -/
def leOf (ns : List SNode) (i : Nat) : VSet := match ns[i]? with
  | some n => n.le
  | none => 0
def lessP (ns : List SNode) (p q : Nat × Nat) : Bool := lessS (leOf ns p.1) (leOf ns q.1)
def insF {α : Type} (lt : α → α → Bool) (p : α) : List α → List α
  | [] => [p]
  | q :: r => if lt p q then p :: q :: r else q :: insF lt p r
def sortF {α : Type} (lt : α → α → Bool) : List α → List α
  | [] => []
  | p :: r => insF lt p (sortF lt r)
/-- any two are one before the other -/
def aparts {α : Type} (lt : α → α → Bool) : List α → Bool
  | [] => true
  | p :: r => (r.all fun q => lt p q || lt q p) && aparts lt r
def leastStep (ns : List SNode) (a : Bool × VSet) (p : Nat × Nat) : Bool × VSet :=
  if p.2 = 0 then a else
    let x := leOf ns p.1 ||| leOf ns p.2
    if a.1 || lessS x a.2 then (false, x) else a
def leastF (ns : List SNode) (l : List (Nat × Nat)) : Bool × VSet := l.foldl (leastStep ns) (true, 0)
def decideF (s : St) (pl : Int) (l : List (Nat × Nat)) : Option (Nat × St) :=
  if l ≠ [] ∧ (l.all fun p => decide (p.1 < s.nodes.length) && decide (p.2 < s.nodes.length)) = true ∧ aparts (lessP s.nodes) l = true then
    let l' := sortF (lessP s.nodes) l
    addF s { pl := pl, lit := 0, el := l', le := (leastF s.nodes l').2 }
  else none
end Go.Proofs.YtgphkbnoflfneaaDoor

namespace Go.Proofs.YtgphkbnoflfneaaDoor
open Go Go.RowKit

/-- the subs of elements, turned one after the other -/
def mapSubs (g : St → Nat → Option (Nat × St)) : St → List (Nat × Nat) → Option (List (Nat × Nat) × St)
  | s, [] => some ([], s)
  | s, p :: r =>
    match g s p.2 with
    | none => none
    | some (q, s1) =>
      match mapSubs g s1 r with
      | none => none
      | some (l, s2) => some ((p.1, q) :: l, s2)

def putNots (a : Nat) : Option (Nat × St) → Option (Nat × St)
  | none => none
  | some (b, s) => some (b, { s with nots := (b, a) :: (a, b) :: s.nots })
/-- the negation, newly made -/
def notNew (g : St → Nat → Option (Nat × St)) (s : St) (n : SNode) : Option (Nat × St) :=
  if n.lit = 0 then
    match mapSubs g s n.el with
    | none => none
    | some (l, s1) => decideF s1 n.pl l
  else literalF s (-n.lit) n.pl
def notF : Nat → St → Nat → Option (Nat × St)
  | 0, _, _ => none
  | f + 1, s, a =>
    if a < 2 then some (1 - a, s) else
      match asc s.nots a with
      | some b => some (b, s)
      | none =>
        match s.nodes[a]? with
        | none => none
        | some n => putNots a (notNew (notF f) s n)
end Go.Proofs.YtgphkbnoflfneaaDoor

