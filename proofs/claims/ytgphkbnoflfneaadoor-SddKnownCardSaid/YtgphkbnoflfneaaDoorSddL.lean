import Derived.Test.YtgphkbnoflfneaaDoorBase
import Derived.Lib.ItoaNum
namespace Go.Proofs.YtgphkbnoflfneaaDoor
open Go Go.RowKit

/-- a node of a vtree -/
structure VN where
  left : Int
  right : Int
  var : Int
  deriving DecidableEq, Inhabited

/-- a node of a store: its place (-1: a constant), its literal, its elements, its least model -/
structure SNode where
  pl : Int
  lit : Int
  el : List (Nat × Nat)
  le : VSet
  deriving DecidableEq, Inhabited

/-- the key of a node -/
def keyB (pl lit : Int) (el : List (Nat × Nat)) : List UInt8 :=
  Lib.itoa pl ++ [32] ++ Lib.itoa lit ++ el.flatMap fun p => [32] ++ Lib.itoa p.1 ++ [32] ++ Lib.itoa p.2
def SNode.key (n : SNode) : List UInt8 := keyB n.pl n.lit n.el
/-- a node's key, with the parts apart -/
abbrev Key := Int × Int × List (Nat × Nat)
/-- the first association of a key -/
def asc {α β : Type} [DecidableEq α] (l : List (α × β)) (a : α) : Option β := match l with
  | [] => none
  | p :: r => if a = p.1 then some p.2 else asc r a
/-- a store of sentential diagrams, as data -/
structure St where
  tree : List VN
  nodes : List SNode
  uniq : List (Key × Nat)
  ands : List ((Nat × Nat) × Nat)
  nots : List (Nat × Nat)

def leafAt (t : List VN) (v : Nat) : Option Nat := t.findIdx? fun x => decide (x.left < 0) && decide (x.var = (v : Int))

end Go.Proofs.YtgphkbnoflfneaaDoor
