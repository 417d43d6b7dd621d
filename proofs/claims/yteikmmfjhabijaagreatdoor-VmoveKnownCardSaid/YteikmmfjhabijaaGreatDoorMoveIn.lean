import Derived.Test.YteikmmfjhabijaaGreatDoorCardIn
set_option linter.unusedSimpArgs false
set_option linter.unusedVariables false
namespace Go.Proofs.YteikmmfjhabijaaGreatDoor
open Go Go.ChangeShapes Go.WideShapes Go.ChangeAt Go.RowKit Go.Deep

/-! What comes in at vmove's laws; the laid variables of their rows. -/
theorem open_bits {H : Type} {enc : TypeId × Value → H} {W : World} {spare : Nat → Bool} {held : Bool} {fuel : Nat} {v : Value} {x : DataW H × List MemPlace} (h : DataW.trod enc Tryz.prog W 0 spare held fuel 74 [v] = some x) :
    ∃ n : Nat, v = .int .u16 (n : Nat) ∧ n < 65536 := by
  obtain ⟨k0, e0, _, hwf⟩ := DataW.trod_int Tryz.underlying74 h
  simp only [List.cons.injEq, and_true] at e0
  have hr : 0 ≤ k0 ∧ k0 < 65536 := by
    simp [Lit.wf, IntKind.min, IntKind.max, IntKind.bits, IntKind.signed] at hwf
    omega
  obtain ⟨p, rfl⟩ : ∃ p : Nat, k0 = p := ⟨k0.toNat, by omega⟩
  exact ⟨p, e0, by omega⟩
/-- a list of pairs of uint8 that came in -/
def U8In (w : World) (bo : Option Addr) (ps : List (Nat × Nat)) : Prop := (∀ p ∈ ps, p.1 ≤ 255 ∧ p.2 ≤ 255) ∧ (ps = [] ∨ ∃ b o, bo = some ⟨b, o, none⟩ ∧ ∀ j (hj : j < ps.length), w.cell? ⟨b, o + j * 2, none⟩ = some (.int .u8 (ps[j].1 : Nat)) ∧ w.cell? ⟨b, o + j * 2 + 1, none⟩ = some (.int .u8 (ps[j].2 : Nat)))
set_option maxRecDepth 100000 in
/-- a list of pairs of uint8 that came in -/
theorem open_moves {H : Type} {enc : TypeId × Value → H} {W : World} {spare : Nat → Bool} {held : Bool} {fuel : Nat} {v : Value} {x : DataW H × List MemPlace} (h : DataW.trod enc Tryz.prog W 0 spare held fuel 91 [v] = some x) :
    ∃ (bo : Option Addr) (co : Nat) (ps : List (Nat × Nat)), v = .slice bo ps.length co ∧ U8In W bo ps := by
  rcases open_slice Tryz.underlying91 h with ⟨hcs, _⟩ | ⟨a, len, cap, m, n, D, Pl, hcs, _, hl, _, hm, _, hf⟩
  · simp only [List.cons.injEq, and_true] at hcs
    exact ⟨none, 0, [], hcs, ⟨(fun p hp => by cases hp), .inl rfl⟩⟩
  · simp only [List.cons.injEq, and_true] at hcs
    have hlm : len ≤ m := by rw [hm]; split <;> omega
    have k2 : Tryz.prog.cellsOf 92 = 2 := by kernel_rfl
    have k1 : Tryz.prog.cellsOf 5 = 1 := by kernel_rfl
    have hcell : ∀ i, i < len → ∃ p : Nat × Nat, (W.cell? (a.add (i * 2 + 0)) = some (.int .u8 (p.1 : Nat)) ∧ W.cell? (a.add (i * 2 + 1)) = some (.int .u8 (p.2 : Nat))) ∧ p.1 ≤ 255 ∧ p.2 ≤ 255 := fun i hi => by
      obtain ⟨cs', hc, ht'⟩ := hf i (by omega)
      rw [k2] at hc
      obtain ⟨_, hcl, hat⟩ := World.cells?_some hc
      obtain ⟨xs, m', _, _, _, hxl, hg⟩ := DataW.trod_array Tryz.underlying92 ht'
      obtain ⟨c0, c1, rfl⟩ : ∃ c0 c1, cs' = [c0, c1] := by
        match cs', hcl with
        | [c0, c1], _ => exact ⟨c0, c1, rfl⟩
      have h0 : DataW.trod enc Tryz.prog W 0 spare held m' 5 [c0] = xs[0]? := by simpa [k1] using hg 0 (by omega)
      have h1 : DataW.trod enc Tryz.prog W 0 spare held m' 5 [c1] = xs[1]? := by simpa [k1] using hg 1 (by omega)
      rw [List.getElem?_eq_getElem (by omega)] at h0 h1
      obtain ⟨z0, e0, _, w0⟩ := DataW.trod_int Tryz.underlying5 h0
      obtain ⟨z1, e1, _, w1⟩ := DataW.trod_int Tryz.underlying5 h1
      simp only [List.cons.injEq, and_true] at e0 e1
      subst e0 e1
      have r0 : 0 ≤ z0 ∧ z0 ≤ 255 := by
        simp [Lit.wf, IntKind.min, IntKind.max, IntKind.bits, IntKind.signed] at w0
        omega
      have r1 : 0 ≤ z1 ∧ z1 ≤ 255 := by
        simp [Lit.wf, IntKind.min, IntKind.max, IntKind.bits, IntKind.signed] at w1
        omega
      have a0 := hat 0 (by omega)
      have a1 := hat 1 (by omega)
      rw [Go.Deep.add_add] at a0 a1
      refine ⟨(z0.toNat, z1.toNat), ⟨?_, ?_⟩, by show z0.toNat ≤ 255; omega, by show z1.toNat ≤ 255; omega⟩
      · rw [a0]; simp; omega
      · rw [a1]; simp; omega
    by_cases h0 : len = 0
    · subst h0
      exact ⟨some a, cap, [], hcs, ⟨(fun p hp => by cases hp), .inl rfl⟩⟩
    · have hspot : ∃ b o, a = ⟨b, o, none⟩ := by
        obtain ⟨_, ⟨c0, _⟩, _⟩ := hcell 0 (by omega)
        obtain ⟨b, o, spot⟩ := a
        have : spot = none := by simpa [Addr.add] using World.cell?_spot c0
        subst this
        exact ⟨b, o, rfl⟩
      obtain ⟨b, o, rfl⟩ := hspot
      obtain ⟨ps, hps, hq⟩ := list_choose len hcell
      subst hps
      refine ⟨some ⟨b, o, none⟩, cap, ps, hcs, ⟨fun p hp => ?_, .inr ⟨b, o, rfl, fun j hj => ?_⟩⟩⟩
      · obtain ⟨j, hj, rfl⟩ := List.getElem_of_mem hp
        exact (hq j hj).2
      · obtain ⟨⟨c0, c1⟩, _⟩ := hq j hj
        rw [Go.WideShapes.add_plain] at c0 c1
        exact ⟨c0, by rw [← Nat.add_assoc] at c1; exact c1⟩
/-- the listed tables lie where they lie -/
theorem laid_tabs5 {W : World} {l : List (String × DataW Unit)} (hl : l = [("math/bits.deBruijn32tab", Rows.laid_math_bits_deBruijn32tab), ("math/bits.deBruijn64tab", Rows.laid_math_bits_deBruijn64tab), ("internal/strconv.uint64pow10", Rows.laid_internal_strconv_uint64pow10), ("strconv.ErrRange", Rows.laid_strconv_ErrRange), ("strconv.ErrSyntax", Rows.laid_strconv_ErrSyntax)]) (h : laidMetH Tryz.prog l W) : TzTab W ∧ PowTab W := by
  subst hl
  exact laid_tabs rfl (laidMetH.filter (fun x => x.1 != "strconv.ErrRange" && x.1 != "strconv.ErrSyntax") h)
noncomputable def low : Nat := (World.holding Tryz.prog default ⟨#[], #[], []⟩).heap.size
/-- a world for the witness: the tables, and two errors -/
noncomputable def laidWorld5 (os : Os) : World :=
  let w0 := World.holding Tryz.prog os ⟨#[.cells #[.string { data := #[118, 97, 108, 117, 101, 32, 111, 117, 116, 32, 111, 102, 32, 114, 97, 110, 103, 101] }] 236, .cells #[.string { data := #[105, 110, 118, 97, 108, 105, 100, 32, 115, 121, 110, 116, 97, 120] }] 236], #[], []⟩
  { w0 with heap := ((((w0.heap.modify 2 (setT (Lib.pow10Tab.map fun z : Int => Value.int .u64 z).toArray)).modify 3 (setT (Lib.deBruijn64tab.map fun n : Nat => Value.int .u8 (n : Int)).toArray)).modify 4 (setT (([0, 1, 28, 2, 29, 14, 24, 3, 30, 22, 20, 15, 25, 17, 4, 8, 31, 27, 13, 23, 21, 19, 16, 7, 26, 12, 18, 6, 11, 5, 10, 9] : List Int).map fun n : Int => Value.int .u8 n).toArray)).modify 1 (setT #[.iface 234 (.pointer (some ⟨low, 0, none⟩))])).modify 0 (setT #[.iface 234 (.pointer (some ⟨low + 1, 0, none⟩))]) }
theorem vset_of {a b : Int} (ha : 0 ≤ a ∧ a ≤ 18446744073709551615) (hb : 0 ≤ b ∧ b ≤ 18446744073709551615) : ∃ x : VSet, lo x = a ∧ hi x = b := by
  refine ⟨BitVec.ofNat 128 (b.toNat * 18446744073709551616 + a.toNat), ?_, ?_⟩
  · simp only [lo, BitVec.toNat_setWidth, BitVec.toNat_ofNat]; omega
  · simp only [hi, BitVec.toNat_setWidth, BitVec.toNat_ofNat, BitVec.toNat_ushiftRight, Nat.shiftRight_eq_div_pow]; omega
end Go.Proofs.YteikmmfjhabijaaGreatDoor
