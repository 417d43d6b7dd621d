import Derived.Test.YtgphkbnoflfneaaDoorBase
import Derived.Test.YtgphkbnoflfneaaDoorFirst
namespace Go.Proofs.YtgphkbnoflfneaaDoor
open Go Go.RowKit

set_option maxHeartbeats 400000 in
theorem union_any (a b : VSet) (w : World) :
    Calls Tryd.prog 65 #[encS a, encS b] w fun e w' => e = .returned (encS (a ||| b)) ∧ Ext w w' := by
  unfold encS
  go_enter Tryd.func65, Tryd.ntmps65
  go_wp2
  go_returns
  exact ⟨by simp [or_lo, or_hi], ⟨by go_grown, Nat.le_refl _⟩⟩

set_option maxHeartbeats 400000 in
theorem minus_any (a b : VSet) (w : World) :
    Calls Tryd.prog 76 #[encS a, encS b] w fun e w' => e = .returned (encS (a &&& ~~~b)) ∧ Ext w w' := by
  unfold encS
  go_enter Tryd.func76, Tryd.ntmps76
  go_wp2
  go_returns
  exact ⟨by simp [andNot_lo, andNot_hi], ⟨by go_grown, Nat.le_refl _⟩⟩

set_option maxHeartbeats 400000 in
theorem place_no (v : Int) (w : World) (h : v < 1 ∨ 128 < v) :
    Calls Tryd.prog 59 #[.int .i64 v] w fun e w' => e = .returned (.tuple #[.int .i64 0, .int .u64 0, .bool false]) ∧ w = w' := by
  have hb : (decide (v < 1) || decide (128 < v)) = true := by simpa using h
  go_enter Tryd.func59, Tryd.ntmps59
  go_wp2
  all_goals go_returns
  all_goals exact ⟨rfl, rfl⟩

/-- the bit of a variable in its word -/
def bitOf (v : Int) : Int := IntKind.u64.wrap (2 ^ ((v - 1) % 64).toNat)
set_option maxHeartbeats 400000 in
theorem place_yes (v : Int) (w : World) (h1 : 1 ≤ v) (h2 : v ≤ 128) :
    Calls Tryd.prog 59 #[.int .i64 v] w fun e w' => e = .returned (.tuple #[.int .i64 ((v - 1) / 64), .int .u64 (bitOf v), .bool true]) ∧ w = w' := by
  go_enter Tryd.func59, Tryd.ntmps59
  go_wp2
  all_goals go_returns
  all_goals exact ⟨rfl, rfl⟩
theorem place_lo (v : Int) (w : World) (h1 : 1 ≤ v) (h2 : v ≤ 64) :
    Calls Tryd.prog 59 #[.int .i64 v] w fun e w' => e = .returned (.tuple #[.int .i64 0, .int .u64 (bitOf v), .bool true]) ∧ w = w' := by
  have := place_yes v w h1 (by omega)
  rwa [show (v - 1) / 64 = 0 from by omega] at this
theorem place_hi (v : Int) (w : World) (h1 : 65 ≤ v) (h2 : v ≤ 128) :
    Calls Tryd.prog 59 #[.int .i64 v] w fun e w' => e = .returned (.tuple #[.int .i64 1, .int .u64 (bitOf v), .bool true]) ∧ w = w' := by
  have := place_yes v w (by omega) (by omega)
  rwa [show (v - 1) / 64 = 1 from by omega] at this

theorem bitOf_eq (v : Int) (h1 : 1 ≤ v) : bitOf v = ((BitVec.twoPow 64 ((v - 1) % 64).toNat).toNat : Int) := by
  have hb : ((v - 1) % 64).toNat < 64 := by omega
  unfold bitOf
  rw [IntKind.wrap_u64, BitVec.toNat_twoPow]
  have : (2 : Nat) ^ ((v - 1) % 64).toNat < 2 ^ 64 := Nat.pow_lt_pow_right (by omega) hb
  rw [Nat.mod_eq_of_lt this]
  have h3 : ((2 : Int) ^ ((v - 1) % 64).toNat) = (((2 : Nat) ^ ((v - 1) % 64).toNat : Nat) : Int) := by simp
  rw [h3]
  generalize 2 ^ ((v - 1) % 64).toNat = m at *
  omega
theorem and_bit (x : BitVec 64) (n : Nat) (hn : n < 64) : (bits .and .u64 (x.toNat : Int) ((BitVec.twoPow 64 n).toNat : Int) != 0) = x.getLsbD n := by
  rw [bits_and_bv, BitVec.and_twoPow]
  cases x.getLsbD n
  · simp
  · have : (BitVec.twoPow 64 n).toNat ≠ 0 := by
      rw [BitVec.toNat_twoPow, Nat.mod_eq_of_lt (Nat.pow_lt_pow_right (by omega) hn)]
      exact Nat.pos_iff_ne_zero.1 (Nat.two_pow_pos n)
    simp only [if_true, bne_iff_ne, ne_eq, Int.natCast_eq_zero]; exact this
theorem has_lo (a : VSet) (v : Int) (h1 : 1 ≤ v) (h2 : v ≤ 64) : (bits .and .u64 (lo a) (bitOf v) != 0) = hasS a v := by
  rw [bitOf_eq v h1, lo, and_bit _ _ (by omega)]
  have e1 : ((v - 1) % 64).toNat = (v - 1).toNat := by omega
  rw [e1, BitVec.getLsbD_setWidth]
  simp only [hasS, h1, show v ≤ 128 from by omega, show (v-1).toNat < 64 from by omega, decide_true, Bool.true_and]
theorem has_hi (a : VSet) (v : Int) (h1 : 65 ≤ v) (h2 : v ≤ 128) : (bits .and .u64 (hi a) (bitOf v) != 0) = hasS a v := by
  rw [bitOf_eq v (by omega), hi, and_bit _ _ (by omega)]
  have e1 : 64 + ((v - 1) % 64).toNat = (v - 1).toNat := by omega
  rw [BitVec.getLsbD_setWidth, BitVec.getLsbD_ushiftRight, e1]
  simp only [hasS, h2, show 1 ≤ v from by omega, show ((v - 1) % 64).toNat < 64 from by omega, decide_true, Bool.true_and]

set_option maxHeartbeats 400000 in
theorem has_any (a : VSet) (v : Int) (w : World) (h1 : -9223372036854775808 ≤ v) (h2 : v ≤ 9223372036854775807) :
    Calls Tryd.prog 44 #[encS a, .int .i64 v] w fun e w' => e = .returned (.bool (hasS a v)) ∧ Ext w w' := by
  unfold encS
  by_cases h : v < 1 ∨ 128 < v
  · have hv : hasS a v = false := by simp [hasS]; omega
    rw [hv]; clear hv
    go_enter Tryd.func44, Tryd.ntmps44
    go_wp2_with (go_at_call 59; refine (place_no _ _ h).mono ?_; rintro e w' ⟨rfl, rfl⟩)
    go_returns
    exact ⟨rfl, ⟨by go_grown, Nat.le_refl _⟩⟩
  · by_cases hs : v ≤ 64
    · rw [← has_lo a v (by omega) hs]
      go_enter Tryd.func44, Tryd.ntmps44
      go_wp2_with (go_at_call 59; refine (place_lo _ _ (by omega) hs).mono ?_; rintro e w' ⟨rfl, rfl⟩)
      go_returns
      exact ⟨rfl, ⟨by go_grown, Nat.le_refl _⟩⟩
    · rw [← has_hi a v (by omega) (by omega)]
      go_enter Tryd.func44, Tryd.ntmps44
      go_wp2_with (go_at_call 59; refine (place_hi _ _ (by omega) (by omega)).mono ?_; rintro e w' ⟨rfl, rfl⟩)
      go_returns
      exact ⟨rfl, ⟨by go_grown, Nat.le_refl _⟩⟩

set_option maxHeartbeats 800000 in
theorem less_any (a b : VSet) (w : World) (hT : TzTab w) :
    Calls Tryd.prog 64 #[encS a, encS b] w fun e w' => e = .returned (.bool (lessS a b)) ∧ Ext w w' := by
  unfold encS
  go_enter Tryd.func64, Tryd.ntmps64
  go_wp2_with fail
  have F1 : ∀ w' : World, Ext ((w.alloc (Obj.cells #[Value.int IntKind.u64 (lo a), Value.int IntKind.u64 (hi a)] 54)).alloc (Obj.cells #[Value.int IntKind.u64 (lo b), Value.int IntKind.u64 (hi b)] 54)) w' →
     w'.cell? ⟨w.heap.size, 0, none⟩ = some (.int .u64 (lo a)) ∧ w'.cell? ⟨w.heap.size, 1, none⟩ = some (.int .u64 (hi a)) ∧ w'.cell? ⟨w.heap.size + 1, 0, none⟩ = some (.int .u64 (lo b)) ∧ w'.cell? ⟨w.heap.size + 1, 1, none⟩ = some (.int .u64 (hi b)) :=
    fun w' h => ⟨h.cell (by go_simp), h.cell (by go_simp), h.cell (by go_simp), h.cell (by go_simp)⟩
  (refine wp_region_below (by kernel_rfl) (by kernel_rfl) ?_
   repeat (refine wpQuiet_step (fun K hK => ?_)
           go_simp
           first
             | (refine hK _ ?_; clear hK K)
             | (replace hK := Lib.hid hK
                apply Exists.intro
                refine ⟨fun wq hq => ?_, hK.out _ ?_⟩
                · (obtain ⟨f1, f2, f3, f4⟩ := F1 wq hq)
                  go_simp
                  first
                    | done
                    | rfl
                    | exact ⟨rfl, rfl⟩
                    | (refine (minus_any _ _ _).mono ?_; rintro e w' ⟨rfl, hb⟩; exact ⟨rfl, hq.trans hb⟩) | (refine (union_any _ _ _).mono ?_; rintro e w' ⟨rfl, hb⟩; exact ⟨rfl, hq.trans hb⟩) | (refine (first_any _ _ (hT.ext (((Ext.refl w).alloc _).alloc _) |>.ext hq)).mono ?_; rintro e w' ⟨rfl, hb⟩; exact ⟨rfl, hq.trans hb⟩)
                clear hK K))
   refine wpQuiet_nil ?_)
  intro w1 hw1
  obtain ⟨f1, f2, f3, f4⟩ := F1 w1 hw1
  have hB : Ext w w1 := (((Ext.refl w).alloc _).alloc _).trans hw1
  have hle := firstS_le (a &&& ~~~b ||| b &&& ~~~a)
  clear hw1 F1
  have hl := Lib.hid (show lessS a b = (decide (0 < firstS (a &&& ~~~b ||| b &&& ~~~a)) && !hasS a (firstS (a &&& ~~~b ||| b &&& ~~~a))) from rfl)
  generalize firstS (a &&& ~~~b ||| b &&& ~~~a) = o at *
  by_cases ho : 0 < o
  · go_wp2_with (go_at_call 44; refine (has_any a _ _ (by omega) (by omega)).mono ?_; rintro e w' ⟨rfl, hb⟩)
    go_returns
    exact ⟨by rw [hl.out]; simp [ho], hB.trans hb⟩
  · go_wp2_with fail
    go_returns
    exact ⟨by rw [hl.out]; simp [ho], hB⟩

theorem with_lo (a : VSet) (v : Int) (h1 : 1 ≤ v) (h2 : v ≤ 64) : bits .or .u64 (lo a) (bitOf v) = lo (withS a v) ∧ hi (withS a v) = hi a := by
  rw [bitOf_eq v h1]
  unfold lo hi withS
  rw [if_pos ⟨h1, by omega⟩, bits_or_bv]
  have e : ((v - 1) % 64).toNat = (v - 1).toNat := by omega
  rw [e]
  constructor
  · congr 2
    apply BitVec.eq_of_getLsbD_eq
    intro i hi
    simp only [BitVec.getLsbD_or, BitVec.getLsbD_setWidth, BitVec.getLsbD_twoPow, hi, decide_true, Bool.true_and]
    rw [show decide ((v - 1).toNat < 64) = true from by simp; omega, show decide ((v - 1).toNat < 128) = true from by simp; omega]
  · congr 2
    apply BitVec.eq_of_getLsbD_eq
    intro i hi
    simp only [BitVec.getLsbD_or, BitVec.getLsbD_setWidth, BitVec.getLsbD_ushiftRight, BitVec.getLsbD_twoPow, hi, decide_true, Bool.true_and]
    rw [show decide ((v - 1).toNat = 64 + i) = false from by simp; omega]
    simp
theorem with_hi (a : VSet) (v : Int) (h1 : 65 ≤ v) (h2 : v ≤ 128) : bits .or .u64 (hi a) (bitOf v) = hi (withS a v) ∧ lo (withS a v) = lo a := by
  rw [bitOf_eq v (by omega)]
  unfold lo hi withS
  rw [if_pos ⟨by omega, by omega⟩, bits_or_bv]
  have e : 64 + ((v - 1) % 64).toNat = (v - 1).toNat := by omega
  constructor
  · congr 2
    apply BitVec.eq_of_getLsbD_eq
    intro i hi
    simp only [BitVec.getLsbD_or, BitVec.getLsbD_setWidth, BitVec.getLsbD_ushiftRight, BitVec.getLsbD_twoPow, hi, decide_true, Bool.true_and]
    congr 1
    rw [← e]
    have : ((v - 1) % 64).toNat < 64 := by omega
    by_cases hh : ((v - 1) % 64).toNat = i <;> simp [hh, this] <;> omega
  · congr 2
    apply BitVec.eq_of_getLsbD_eq
    intro i hi
    simp only [BitVec.getLsbD_or, BitVec.getLsbD_setWidth, BitVec.getLsbD_twoPow, hi, decide_true, Bool.true_and]
    rw [show decide ((v - 1).toNat = i) = false from by simp; omega]
    simp

set_option maxHeartbeats 400000 in
theorem with_any (a : VSet) (v : Int) (w : World) :
    Calls Tryd.prog 71 #[encS a, .int .i64 v] w fun e w' => e = .returned (encS (withS a v)) ∧ Ext w w' := by
  unfold encS
  by_cases h : v < 1 ∨ 128 < v
  · have hv : withS a v = a := if_neg (by omega)
    rw [hv]; clear hv
    go_enter Tryd.func71, Tryd.ntmps71
    go_wp2_with (go_at_call 59; refine (place_no _ _ h).mono ?_; rintro e w' ⟨rfl, rfl⟩)
    go_returns
    exact ⟨rfl, ⟨by go_grown, Nat.le_refl _⟩⟩
  · by_cases hs : v ≤ 64
    · obtain ⟨e1, e2⟩ := with_lo a v (by omega) hs
      rw [e2, ← e1]
      clear e1 e2
      go_enter Tryd.func71, Tryd.ntmps71
      go_wp2_with (go_at_call 59; refine (place_lo _ _ (by omega) hs).mono ?_; rintro e w' ⟨rfl, rfl⟩)
      go_returns
      exact ⟨rfl, ⟨by go_grown, Nat.le_refl _⟩⟩
    · obtain ⟨e1, e2⟩ := with_hi a v (by omega) (by omega)
      rw [e2, ← e1]
      clear e1 e2
      go_enter Tryd.func71, Tryd.ntmps71
      go_wp2_with (go_at_call 59; refine (place_hi _ _ (by omega) (by omega)).mono ?_; rintro e w' ⟨rfl, rfl⟩)
      go_returns
      exact ⟨rfl, ⟨by go_grown, Nat.le_refl _⟩⟩
end Go.Proofs.YtgphkbnoflfneaaDoor
