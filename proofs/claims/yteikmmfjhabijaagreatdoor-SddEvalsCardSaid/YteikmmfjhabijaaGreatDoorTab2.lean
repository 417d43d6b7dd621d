import Derived.Test.YteikmmfjhabijaaGreatDoorTab
import Derived.Test.YteikmmfjhabijaaGreatDoorSem
set_option linter.unusedSimpArgs false
set_option linter.unusedVariables false
namespace Go.Proofs.YteikmmfjhabijaaGreatDoor
open Go Go.RowKit Go.Shelf

/-! The reference's tables: which function a table says. -/
/-- the index of an assignment, the first k variables looked at -/
def idxK (l : List Int) (x : L.Asg) : Nat → Nat
  | 0 => 0
  | k + 1 => idxK l x k + (if x (l.getD k 0) = true then 2 ^ (l.length - 1 - k) else 0)
def idxF (l : List Int) (x : L.Asg) : Nat := idxK l x l.length
theorem idxK_ok (l : List Int) (x : L.Asg) : ∀ k, k ≤ l.length → ∃ m, idxK l x k = 2 ^ (l.length - k) * m ∧ m < 2 ^ k ∧ ∀ j, j < k → m.testBit (k - 1 - j) = x (l.getD j 0)
  | 0, _ => ⟨0, by simp [idxK], by simp, fun j h => by omega⟩
  | k + 1, h => by
    obtain ⟨m, e, hm, hb⟩ := idxK_ok l x k (by omega)
    have hp : 2 ^ (l.length - k) = 2 ^ (l.length - (k + 1)) * 2 := by
      rw [← Nat.pow_succ]; congr 1; omega
    have hq : l.length - 1 - k = l.length - (k + 1) := by omega
    refine ⟨2 * m + (x (l.getD k 0)).toNat, ?_, ?_, fun j hj => ?_⟩
    · rw [idxK, e, hp, hq, Nat.mul_add, Nat.mul_assoc]
      cases x (l.getD k 0) <;> simp
    · have : (x (l.getD k 0)).toNat ≤ 1 := by cases x (l.getD k 0) <;> simp
      rw [Nat.pow_succ]; omega
    · rcases Nat.lt_or_eq_of_le (Nat.le_of_lt_succ hj) with hj | rfl
      · rw [show k + 1 - 1 - j = (k - 1 - j) + 1 by omega, Nat.testBit_succ, show (2 * m + (x (l.getD k 0)).toNat) / 2 = m from by
          have : (x (l.getD k 0)).toNat ≤ 1 := by cases x (l.getD k 0) <;> simp
          omega]
        exact hb j hj
      · rw [show j + 1 - 1 - j = 0 by omega, Nat.testBit_zero]
        cases x (l.getD j 0)
        · simp
        · simp
theorem idxF_lt (l : List Int) (x : L.Asg) : idxF l x < 2 ^ l.length := by
  obtain ⟨m, e, hm, _⟩ := idxK_ok l x l.length (Nat.le_refl _)
  rw [idxF, e, Nat.sub_self, Nat.pow_zero, Nat.one_mul]; exact hm
theorem idxF_bit (l : List Int) (x : L.Asg) {j : Nat} (hj : j < l.length) : (idxF l x).testBit (l.length - 1 - j) = x l[j] := by
  obtain ⟨m, e, _, hb⟩ := idxK_ok l x l.length (Nat.le_refl _)
  rw [idxF, e, Nat.sub_self, Nat.pow_zero, Nat.one_mul, hb j hj, List.getD_eq_getElem?_getD, List.getElem?_eq_getElem hj]; rfl
theorem idxK_le (l : List Int) (x : L.Asg) (k : Nat) (hk : k ≤ l.length) : idxK l x k < 2 ^ l.length := by
  obtain ⟨m, e, hm, _⟩ := idxK_ok l x k hk
  rw [e]
  calc 2 ^ (l.length - k) * m < 2 ^ (l.length - k) * 2 ^ k := Nat.mul_lt_mul_of_pos_left hm (Nat.pos_of_ne_zero (by simp))
    _ = 2 ^ l.length := by rw [← Nat.pow_add]; congr 1; omega
/-- the table says the function -/
structure IsTab (l : List Int) (φ : L.Asg → Bool) (f : List Bool) : Prop where
  len : f.length = 2 ^ l.length
  says : ∀ x, f.getD (idxF l x) false = φ x
theorem IsTab.const (l : List Int) (b : Bool) : IsTab l (fun _ => b) (tabN (2 ^ l.length) fun _ => b) :=
  ⟨tabN_len _ _, fun x => tabN_getD (idxF_lt l x)⟩
theorem IsTab.not {l : List Int} {φ : L.Asg → Bool} {f : List Bool} (h : IsTab l φ f) : IsTab l (fun x => !φ x) (f.map fun b => !b) := by
  refine ⟨by rw [List.length_map]; exact h.len, fun x => ?_⟩
  have hx := idxF_lt l x
  have hl := h.len
  rw [← h.says x, getD_get (by rw [List.length_map]; omega), getD_get (by omega), List.getElem_map]
theorem IsTab.and {l : List Int} {φ ψ : L.Asg → Bool} {f g : List Bool} (h : IsTab l φ f) (k : IsTab l ψ g) : IsTab l (fun x => φ x && ψ x) (List.zipWith (fun a b => a && b) f g) := by
  have hl := h.len
  have kl := k.len
  refine ⟨by rw [List.length_zipWith]; omega, fun x => ?_⟩
  have hx := idxF_lt l x
  rw [← h.says x, ← k.says x, getD_get (by rw [List.length_zipWith]; omega), getD_get (by omega), getD_get (by omega), List.getElem_zipWith]
theorem IsTab.or {l : List Int} {φ ψ : L.Asg → Bool} {f g : List Bool} (h : IsTab l φ f) (k : IsTab l ψ g) : IsTab l (fun x => φ x || ψ x) (List.zipWith (fun a b => a || b) f g) := by
  have hl := h.len
  have kl := k.len
  refine ⟨by rw [List.length_zipWith]; omega, fun x => ?_⟩
  have hx := idxF_lt l x
  rw [← h.says x, ← k.says x, getD_get (by rw [List.length_zipWith]; omega), getD_get (by omega), getD_get (by omega), List.getElem_zipWith]
theorem IsTab.lit {l : List Int} {k : Nat} {z : Int} (hk : k < l.length) (hz : l[k] = (z.natAbs : Int)) : IsTab l (litφ z) (litTab l.length k (decide (0 < z))) := by
  refine ⟨tabN_len _ _, fun x => ?_⟩
  rw [litTab, tabN_getD (idxF_lt l x), idxF_bit l x hk, hz, litφ]
theorem IsTab.congr {l : List Int} {φ ψ : L.Asg → Bool} {f : List Bool} (h : IsTab l φ f) (e : ∀ x, φ x = ψ x) : IsTab l ψ f := ⟨h.len, fun x => by rw [h.says, e]⟩

set_option maxRecDepth 100000 in
set_option maxHeartbeats 1000000 in
theorem index_any {w : World} {vl : Value} {l : List Int} (hv : SlI w vl l) (hlt : ∃ n, n = l.length ∧ n ≤ 6) (x : VSet) :
    Calls Tryz.prog 19 #[vl, encS x] w fun e w' => e = .returned (.int .i64 ((idxF l (L.asg x) : Nat) : Int)) ∧ Below w.heap.size w w' := by
  obtain ⟨n, hn, hn6⟩ := hlt
  obtain ⟨ba, c, rfl, hc⟩ := hv
  rw [← hn]
  have hcell : Hid (∀ k, k < n → ∃ b o, ba = some ⟨b, o, none⟩ ∧ b < w.heap.size ∧ w.cell? ⟨b, o + k, none⟩ = some (.int .i64 (l.getD k 0))) := Lib.hid fun k hk => by
    rcases hc with ⟨_, rfl, _⟩ | ⟨b, o, e, h⟩
    · simp at hn; omega
    · refine ⟨b, o, e, ?_, ?_⟩
      · exact World.block_lt_of_cell? w _ (h k (by omega))
      · rw [List.getD_eq_getElem?_getD, List.getElem?_eq_getElem (by omega)]; exact h k (by omega)
  clear hc
  replace hn := Lib.hid hn
  have hbox := heap_alloc_new w (.cells #[.int .u64 (lo x), .int .u64 (hi x)] 29)
  have hx1 := (Below.refl w.heap.size w).alloc (Nat.le_refl _) (.cells #[.int .u64 (lo x), .int .u64 (hi x)] 29)
  have h0 : Hid ((w.alloc (.cells #[.int .u64 (lo x), .int .u64 (hi x)] 29)).heap[w.heap.size]? = some (.cells #[.int .u64 (lo x), .int .u64 (hi x)] 29 (0, 0)) ∧ Below w.heap.size w (w.alloc (.cells #[.int .u64 (lo x), .int .u64 (hi x)] 29)) ∧ w.heap.size < (w.alloc (.cells #[.int .u64 (lo x), .int .u64 (hi x)] 29)).heap.size) := Lib.hid ⟨hbox, hx1, by simp⟩
  clear hbox hx1
  unfold encS
  go_enter Tryz.func19, Tryz.ntmps19
  go_wp2_with fail
  generalize w.alloc (.cells #[.int .u64 (lo x), .int .u64 (hi x)] 29) = w1 at *
  go_loopw [5, 6] (fun v i wr => ∃ k : Nat, k ≤ n ∧ i = .int .i64 (k : Int) ∧ v = .int .i64 ((idxK l (L.asg x) k : Nat) : Int) ∧ Hid (wr.heap[w.heap.size]? = some (.cells #[.int .u64 (lo x), .int .u64 (hi x)] 29 (0, 0)) ∧ Below w.heap.size w wr ∧ w.heap.size < wr.heap.size)) (fun _ i _ => n - (intOf i).toNat)
  case atStart => exact ⟨0, by omega, rfl, rfl, h0⟩
  case round =>
    clear h0
    obtain ⟨k, hk, rfl, rfl, hI⟩ := hrel
    obtain ⟨hb, hB, hsz⟩ := hI.out
    clear hI
    by_cases hlt : k < n
    · have dlt : decide ((k : Int) < (n : Int)) = true := decide_eq_true (by omega)
      obtain ⟨b, o, rfl, hbl, hz⟩ := hcell.out k hlt
      have hzr := (hB.cell hbl).trans hz
      have F1 : ∀ w', Ext wr w' → w'.cell? ⟨w.heap.size, 0, none⟩ = some (.int .u64 (lo x)) ∧ w'.cell? ⟨w.heap.size, 1, none⟩ = some (.int .u64 (hi x)) ∧ w'.cell? ⟨b, o + k, none⟩ = some (.int .i64 (l.getD k 0)) :=
        fun w' hw' => ⟨hw'.cell (pbox_cells hb).1, hw'.cell (pbox_cells hb).2, hw'.cell hzr⟩
      have hhas : Hid (∀ w', Calls Tryz.prog 58 #[.agg #[.int .u64 (lo x), .int .u64 (hi x)], .int .i64 (l.getD k 0)] w' fun e w'' => e = .returned (.bool (L.asg x (l.getD k 0))) ∧ Ext w' w'') := Lib.hid fun w' => refHas_any x (l.getD k 0) w'
      have hnx : idxK l (L.asg x) (k + 1) = idxK l (L.asg x) k + (if L.asg x (l.getD k 0) = true then 2 ^ (n - 1 - k) else 0) := by rw [hn.out]; rfl
      have hle : idxK l (L.asg x) k < 2 ^ n := by rw [hn.out]; exact idxK_le l (L.asg x) k (by rw [← hn.out]; omega)
      have hle2 : idxK l (L.asg x) (k + 1) < 2 ^ n := by rw [hn.out]; exact idxK_le l (L.asg x) (k + 1) (by rw [← hn.out]; omega)
      have hp6 := pow_le64 hn6
      have hbit := fun w' => bit_any n k hlt (by omega) w'
      generalize hgx : idxK l (L.asg x) (k + 1) = nx at *
      replace hgx := Lib.hid hgx
      generalize idxK l (L.asg x) k = ix at *
      generalize 2 ^ n = pn at *
      generalize 2 ^ (n - 1 - k) = pk at *
      replace F1 := Lib.hid F1
      replace hbit := Lib.hid hbit
      replace hnx := Lib.hid hnx
      replace hb := Lib.hid hb
      clear hzr hz
      generalize l.getD k 0 = z at *
      generalize L.asg x z = φz at *
      go_wp2_with fail
      (refine wp_region_below (by kernel_rfl) (by kernel_rfl) ?_
       repeat (refine wpQuiet_step (fun K hK => ?_)
               go_simp
               first
                 | (refine hK _ ?_; clear hK K)
                 | (replace hK := Lib.hid hK
                    apply Exists.intro
                    refine ⟨fun wq hq => ?_, hK.out _ ?_⟩
                    · (obtain ⟨f1, f2, f3⟩ := F1.out wq hq)
                      go_simp
                      first
                        | done
                        | rfl
                        | exact ⟨rfl, rfl⟩
                        | (refine (hhas.out _).mono ?_; rintro e w' ⟨rfl, hb⟩; exact ⟨rfl, hq.trans hb⟩)
                    clear hK K))
       refine wpQuiet_nil ?_)
      intro w2 hw2
      clear F1 hhas
      have h2 : Hid (w2.heap[w.heap.size]? = some (.cells #[.int .u64 (lo x), .int .u64 (hi x)] 29 (0, 0)) ∧ Below w.heap.size w w2 ∧ w.heap.size < w2.heap.size) := Lib.hid ⟨(hw2.below.block _ (by omega)).trans hb.out, hB.trans (hw2.below.mono (by omega)), by have := hw2.size; omega⟩
      cases φz
      · have hnx2 := hnx.out
        simp only [Bool.false_eq_true, if_false, Nat.add_zero] at hnx2
        go_wp2_with fail
        go_roundw
        case rel => exact ⟨k + 1, by omega, by go_num, by rw [hgx.out, hnx2], h2⟩
        case measure => simp [intOf]; omega
      · have hnx2 := hnx.out
        simp only [if_true] at hnx2
        go_wp2_with fail
        refine (hbit.out _).mono ?_
        rintro e w3 ⟨rfl, rfl⟩
        go_wp2_with fail
        go_roundw
        case rel => exact ⟨k + 1, by omega, by go_num, by rw [hgx.out, hnx2]; go_num, h2⟩
        case measure => simp [intOf]; omega
    · obtain rfl : k = n := by omega
      clear hk hlt
      have he : Hid (idxF l (L.asg x) = idxK l (L.asg x) k) := Lib.hid (by rw [idxF, ← hn.out])
      replace hb := Lib.hid hb
      go_wp2_with fail
      go_ret
      exact ⟨by rw [he.out]; rfl, hB⟩
end Go.Proofs.YteikmmfjhabijaaGreatDoor
