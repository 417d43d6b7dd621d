import Derived.Test.YteikmmfjhabijaaGreatDoorCardKit
import Derived.Test.YteikmmfjhabijaaGreatDoorCanon
set_option linter.unusedSimpArgs false
set_option linter.unusedVariables false
namespace Go.Proofs.YteikmmfjhabijaaGreatDoor
open Go Go.ChangeShapes Go.WideShapes Go.ChangeAt Go.RowKit Go.Deep

/-- a list of uint16 that came in -/
theorem open_u16s {H : Type} {enc : TypeId × Value → H} {W : World} {spare : Nat → Bool} {held : Bool} {fuel : Nat} {v : Value} {x : DataW H × List MemPlace} (h : DataW.trod enc Tryz.prog W 0 spare held fuel 45 [v] = some x) :
    ∃ (ba : Option Addr) (cap : Nat) (ps : List Nat), v = .slice ba ps.length cap ∧ InU W ba cap ps := by
  rcases open_slice1 Tryz.underlying45 (by kernel_rfl) h with ⟨hcs, _⟩ | ⟨a, len, cap, m, n, V, D, Pl, hcs, _, hl, _, hm, _, hf⟩
  · simp only [List.cons.injEq, and_true] at hcs
    exact ⟨none, 0, [], hcs, ⟨(fun _ h => by cases h), .inl rfl⟩⟩
  · simp only [List.cons.injEq, and_true] at hcs
    have hlm : len ≤ m := by rw [hm]; split <;> omega
    have hcell : ∀ i, i < len → ∃ p : Nat, W.cell? (a.add i) = some (encU p) ∧ p < 65536 := fun i hi => by
      obtain ⟨c0, t0⟩ := hf i (by omega)
      obtain ⟨k0, e0, _, hwf⟩ := DataW.trod_int Tryz.underlying74 t0
      simp only [List.cons.injEq, and_true] at e0
      rw [e0] at c0
      have hr : 0 ≤ k0 ∧ k0 < 65536 := by
        simp [Lit.wf, IntKind.min, IntKind.max, IntKind.bits, IntKind.signed] at hwf
        omega
      obtain ⟨p, rfl⟩ : ∃ p : Nat, k0 = p := ⟨k0.toNat, by omega⟩
      exact ⟨p, c0, by omega⟩
    by_cases h0 : len = 0
    · subst h0
      exact ⟨some a, cap, [], hcs, ⟨(fun _ h => by cases h), .inl rfl⟩⟩
    · have hspot : ∃ b o, a = ⟨b, o, none⟩ := by
        obtain ⟨_, c0, _⟩ := hcell 0 (by omega)
        obtain ⟨b, o, spot⟩ := a
        have : spot = none := by simpa [Addr.add] using World.cell?_spot c0
        subst this
        exact ⟨b, o, rfl⟩
      obtain ⟨b, o, rfl⟩ := hspot
      obtain ⟨ps, hps, hq⟩ := list_choose len hcell
      subst hps
      refine ⟨some ⟨b, o, none⟩, cap, ps, hcs, ⟨fun p hp => ?_, .inr ⟨hl, b, o, rfl, fun j hj => ?_⟩⟩⟩
      · obtain ⟨j, hj, rfl⟩ := List.getElem_of_mem hp
        exact (hq j hj).2
      · have := (hq j hj).1
        rw [Go.WideShapes.add_plain] at this
        exact this
end Go.Proofs.YteikmmfjhabijaaGreatDoor
