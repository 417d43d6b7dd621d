import Derived.Test.YteikmmfjhabijaaGreatDoorCardKit
import Derived.OpenShut
import Derived.Test.YteikmmfjhabijaaGreatDoorCanon
set_option linter.unusedSimpArgs false
set_option linter.unusedVariables false
namespace Go.Proofs.YteikmmfjhabijaaGreatDoor
open Go Go.ChangeShapes Go.WideShapes Go.ChangeAt Go.RowKit Go.Deep

/-- a list of uint16 that came in -/
theorem open_u16s {H : Type} {enc : TypeId × Value → H} {W : World} {spare : Nat → Bool} {held : Bool} {fuel : Nat} {v : Value} {x : DataW H × List MemPlace} (h : DataW.trod enc Tryz.prog W 0 spare held fuel 45 [v] = some x) :
    ∃ (ba : Option Addr) (cap : Nat) (ps : List Nat), v = .slice ba ps.length cap ∧ InU W ba cap ps := by
  rcases open_slice1 Tryz.underlying45 (by kernel_rfl) h with ⟨hcs, _⟩ | ⟨a, len, cap, m, n, V, D, Pl, hcs, _, hl, _, hm, _, hf⟩
  · simp only [List.cons.injEq, and_true] at hcs
    exact ⟨none, 0, [], hcs, ⟨(fun _ h => by cases h), .inl rfl⟩⟩
  · simp only [List.cons.injEq, and_true] at hcs
    have hlm : len ≤ m := by rw [hm]; split <;> omega
    have hcell : ∀ i, i < len → ∃ p : Nat, W.cell? (a.add i) = some (encU p) ∧ p < 65536 := fun i hi => by
      obtain ⟨c0, t0⟩ := hf i (by omega)
      obtain ⟨k0, e0, _, hwf⟩ := DataW.trod_int Tryz.underlying74 t0
      simp only [List.cons.injEq, and_true] at e0
      rw [e0] at c0
      have hr : 0 ≤ k0 ∧ k0 < 65536 := by
        simp [Lit.wf, IntKind.min, IntKind.max, IntKind.bits, IntKind.signed] at hwf
        omega
      obtain ⟨p, rfl⟩ : ∃ p : Nat, k0 = p := ⟨k0.toNat, by omega⟩
      exact ⟨p, c0, by omega⟩
    by_cases h0 : len = 0
    · subst h0
      exact ⟨some a, cap, [], hcs, ⟨(fun _ h => by cases h), .inl rfl⟩⟩
    · have hspot : ∃ b o, a = ⟨b, o, none⟩ := by
        obtain ⟨_, c0, _⟩ := hcell 0 (by omega)
        obtain ⟨b, o, spot⟩ := a
        have : spot = none := by simpa [Addr.add] using World.cell?_spot c0
        subst this
        exact ⟨b, o, rfl⟩
      obtain ⟨b, o, rfl⟩ := hspot
      obtain ⟨ps, hps, hq⟩ := list_choose len hcell
      subst hps
      refine ⟨some ⟨b, o, none⟩, cap, ps, hcs, ⟨fun p hp => ?_, .inr ⟨hl, b, o, rfl, fun j hj => ?_⟩⟩⟩
      · obtain ⟨j, hj, rfl⟩ := List.getElem_of_mem hp
        exact (hq j hj).2
      · have := (hq j hj).1
        rw [Go.WideShapes.add_plain] at this
        exact this

theorem open_i64 {H : Type} {enc : TypeId × Value → H} {W : World} {spare : Nat → Bool} {held : Bool} {fuel : Nat} {v : Value} {x : DataW H × List MemPlace} (h : DataW.trod enc Tryz.prog W 0 spare held fuel 3 [v] = some x) :
    ∃ n : Int, v = .int .i64 n ∧ (-9223372036854775808 ≤ n ∧ n ≤ 9223372036854775807) := by
  obtain ⟨k0, e0, _, hwf⟩ := DataW.trod_int Tryz.underlying3 h
  simp only [List.cons.injEq, and_true] at e0
  exact ⟨k0, e0, bounds_i64 hwf⟩

theorem okWide_array {P : Program} {w : World} {r : Reach} {base : Nat} {t : TypeId} {v : Value} {n : Nat} {e : TypeId} (ht : P.underlying t = some (.array n e)) (h : Value.okWide P w r base t v) : ∃ cs, v = .agg cs ∧ cs.size = P.cellsOf t := by
  simp only [Value.okWide, ht] at h
  obtain ⟨cs, h1, h2, _⟩ := h
  exact ⟨cs, h1, h2⟩

set_option maxRecDepth 100000 in
theorem open_set {H : Type} {enc : TypeId × Value → H} {W : World} {spare : Nat → Bool} {held : Bool} {fuel : Nat} {cs : Array Value} {x : DataW H × List MemPlace} (hz : cs.size = Tryz.prog.cellsOf 29) (h : DataW.trod enc Tryz.prog W 0 spare held fuel 29 (Value.agg cs).cells.toList = some x) :
    ∃ x0 x1 : Int, Value.agg cs = .agg #[.int .u64 x0, .int .u64 x1] ∧ ((0 ≤ x0 ∧ x0 ≤ 18446744073709551615) ∧ (0 ≤ x1 ∧ x1 ≤ 18446744073709551615)) := by
  have hsz : Tryz.prog.cellsOf 29 = 2 := by kernel_rfl
  have hz2 : cs.size = 2 := by rw [hz]; exact hsz
  obtain ⟨cs⟩ := cs
  obtain ⟨xs, m, _, _, _, hl, hf⟩ := DataW.trod_array Tryz.underlying29 h
  have hc : Tryz.prog.cellsOf 27 = 1 := by kernel_rfl
  obtain ⟨c0, c1, rfl⟩ : ∃ c0 c1, cs = [c0, c1] := by
    match cs, hz2 with
    | [c0, c1], _ => exact ⟨c0, c1, rfl⟩
  · clear hz hz2
    have h0 : DataW.trod enc Tryz.prog W 0 spare held m 27 [c0] = xs[0]? := by simpa [hc, Value.cells] using hf 0 (by omega)
    have h1 : DataW.trod enc Tryz.prog W 0 spare held m 27 [c1] = xs[1]? := by simpa [hc, Value.cells] using hf 1 (by omega)
    rw [List.getElem?_eq_getElem (by omega)] at h0 h1
    obtain ⟨k0, e0, _, w0⟩ := DataW.trod_int Tryz.underlying27 h0
    obtain ⟨k1, e1, _, w1⟩ := DataW.trod_int Tryz.underlying27 h1
    simp only [List.cons.injEq, and_true] at e0 e1
    subst e0 e1
    exact ⟨k0, k1, rfl, bounds_u64 w0, bounds_u64 w1⟩
end Go.Proofs.YteikmmfjhabijaaGreatDoor
