import Derived.Test.YtgphkbnoflfneaaDoorSddF
import Derived.Test.YtgphkbnoflfneaaDoorVtM
namespace Go.Proofs.YtgphkbnoflfneaaDoor
open Go Go.RowKit

def meetS (s : St) (a b : Int) : Option Nat := if checkF s.tree = 0 ∧ 0 ≤ a ∧ a < s.tree.length ∧ 0 ≤ b ∧ b < s.tree.length then some (meetT s.tree a.toNat b.toNat) else none
def spreadF (g : St → Nat → Option (Nat × St)) (s : St) (a pl : Nat) : Option (List (Nat × Nat) × St) :=
  match s.nodes[a]? with
  | none => none
  | some n => if n.pl = pl then some (n.el, s) else
    match s.tree[pl]? with
    | none => none
    | some x => match meetS s n.pl x.left with
      | none => none
      | some m => if (m : Int) = x.left then
          match g s a with
          | none => none
          | some (b, s1) => some ([(a, 1), (b, 0)], s1)
        else some ([(1, a)], s)
end Go.Proofs.YtgphkbnoflfneaaDoor

namespace Go.Proofs.YtgphkbnoflfneaaDoor
open Go Go.RowKit

def orF (nf : St → Nat → Option (Nat × St)) (af : St → Nat → Nat → Option (Nat × St)) (s : St) (a b : Nat) : Option (Nat × St) :=
  match nf s a with
  | none => none
  | some (x, s1) => match nf s1 b with
    | none => none
    | some (y, s2) => match af s2 x y with
      | none => none
      | some (z, s3) => nf s3 z

/-- make's first loop: the primes of each sub, the subs in the order in which they come up -/
def mkStep (of : St → Nat → Nat → Option (Nat × St)) : List (Nat × Nat) → St → List (Nat × Nat) → List Nat → Option (St × List (Nat × Nat) × List Nat)
  | [], s, m, u => some (s, m, u)
  | p :: r, s, m, u => match asc m p.2 with
    | some q => match of s q p.1 with
      | none => none
      | some (z, s1) => mkStep of r s1 ((p.2, z) :: m) u
    | none => mkStep of r s ((p.2, p.1) :: m) (u ++ [p.2])
def ascD (m : List (Nat × Nat)) (a : Nat) : Nat := match asc m a with
  | some v => v
  | none => 0
def makeF (of : St → Nat → Nat → Option (Nat × St)) (s : St) (pl : Nat) (l : List (Nat × Nat)) : Option (Nat × St) :=
  match (if l.length ≤ 1048576 then mkStep of l s [] [] else none) with
  | none => none
  | some (s1, m, u) =>
    match u with
    | [x] => some (x, s1)
    | [x, y] => if x < 2 ∧ y < 2 then some (ascD m 1, s1) else decideF s1 pl [(ascD m x, x), (ascD m y, y)]
    | u => decideF s1 pl (u.map fun x => (ascD m x, x))
end Go.Proofs.YtgphkbnoflfneaaDoor

namespace Go.Proofs.YtgphkbnoflfneaaDoor
open Go Go.RowKit

/-- the inner loop of 'and': one element of the one against all of the other's -/
def andRow (af : St → Nat → Nat → Option (Nat × St)) (p : Nat × Nat) : List (Nat × Nat) → St → List (Nat × Nat) → Option (List (Nat × Nat) × St)
  | [], s, out => some (out, s)
  | q :: r, s, out => match af s p.1 q.1 with
    | none => none
    | some (pr, s1) => if pr = 0 then andRow af p r s1 out else
      match af s1 p.2 q.2 with
      | none => none
      | some (su, s2) => andRow af p r s2 (out ++ [(pr, su)])
def andAll (af : St → Nat → Nat → Option (Nat × St)) (right : List (Nat × Nat)) : List (Nat × Nat) → St → List (Nat × Nat) → Option (List (Nat × Nat) × St)
  | [], s, out => some (out, s)
  | p :: r, s, out => match andRow af p right s out with
    | none => none
    | some (out', s1) => andAll af right r s1 out'
def plOf (s : St) (a : Nat) : Int := match s.nodes[a]? with
  | some n => n.pl
  | none => -1
/-- 'and' behind its look-up -/
def andNew (nf : St → Nat → Option (Nat × St)) (af : St → Nat → Nat → Option (Nat × St)) (s : St) (a b : Nat) : Option (Nat × St) :=
  match meetS s (plOf s a) (plOf s b) with
  | none => none
  | some pl => match spreadF nf s b pl with
    | none => none
    | some (right, s1) => match spreadF nf s1 a pl with
      | none => none
      | some (left, s2) => match andAll af right left s2 [] with
        | none => none
        | some (l, s3) => match makeF (orF nf af) s3 pl l with
          | none => none
          | some (c, s4) => some (c, { s4 with ands := ((a, b), c) :: s4.ands })
/-- 'and' of two numbers in order -/
def andOrd (nf : St → Nat → Option (Nat × St)) (af : St → Nat → Nat → Option (Nat × St)) (s : St) (a b : Nat) : Option (Nat × St) :=
  if a = 0 ∨ a = b then some (a, s) else if a = 1 then some (b, s) else
    match nf s a with
    | none => none
    | some (na, s1) => if na = b then some (0, s1) else
      match asc s1.ands (a, b) with
      | some c => some (c, s1)
      | none => andNew nf af s1 a b
def andF : Nat → St → Nat → Nat → Option (Nat × St)
  | 0, _, _, _ => none
  | f + 1, s, a, b => if b < a then andOrd (notF f) (andF f) s b a else andOrd (notF f) (andF f) s a b
end Go.Proofs.YtgphkbnoflfneaaDoor

