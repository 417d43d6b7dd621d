import Derived.Test.YteikmmfjhabijaaGreatDoorNot
set_option linter.unusedSimpArgs false
set_option linter.unusedVariables false
namespace Go.Proofs.YteikmmfjhabijaaGreatDoor
open Go Go.RowKit Go.Shelf

/-- a row of pairs, new from n on -/
def NewP (n : Nat) (w : World) (ba : Option Addr) (l : List (Nat × Nat)) : Prop := l = [] ∨ ∃ g cs, ba = some ⟨g, 0, none⟩ ∧ n ≤ g ∧ w.heap[g]? = some (.cells cs tPair (0, 0)) ∧ ∀ j u, (flatP l)[j]? = some u → cs[0 + j]? = some u
theorem clone_pairs_nil (w : World) : Calls Tryz.prog 72 #[.slice none 0 0] w fun e w' => e = .returned (.slice none 0 0) ∧ w = w' := by
  refine (AnyE.slices_Clone_nil Tryz.clonePair 0 0 w).mono ?_
  rintro e w' ⟨rfl, rfl⟩
  exact ⟨rfl, rfl⟩
end Go.Proofs.YteikmmfjhabijaaGreatDoor
