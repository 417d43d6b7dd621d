import Derived.Test.YtgphkbnoflfneaaGreatDoorParts
set_option linter.unusedSimpArgs false
set_option linter.unusedVariables false
namespace Go.Proofs.YtgphkbnoflfneaaGreatDoor
open Go Go.RowKit Go.Shelf

/-- the first k bits of subset number i -/
def PartSub (l : List Int) (i k : Nat) (x : VSet) : Prop := ∀ u, hasS x u = true ↔ ∃ j, ∃ hj : j < l.length, j < k ∧ l[j] = u ∧ i.testBit (l.length - 1 - j) = true
theorem PartSub.zero (l : List Int) (i : Nat) : PartSub l i 0 0 := fun u => by
  constructor
  · intro h; simp [hasS] at h
  · rintro ⟨j, _, h, _⟩; omega
theorem PartSub.skip {l : List Int} {i k : Nat} {x : VSet} (h : PartSub l i k x) (hb : i.testBit (l.length - 1 - k) = false) : PartSub l i (k + 1) x := fun u => by
  rw [h]
  constructor
  · rintro ⟨j, hj, h1, h2, h3⟩; exact ⟨j, hj, by omega, h2, h3⟩
  · rintro ⟨j, hj, h1, h2, h3⟩
    refine ⟨j, hj, ?_, h2, h3⟩
    apply Classical.byContradiction
    intro hn
    have : j = k := by omega
    subst this
    rw [hb] at h3; cases h3
theorem PartSub.add {l : List Int} {i k : Nat} {x : VSet} (h : PartSub l i k x) (hk : k < l.length) (hr : 1 ≤ l[k] ∧ l[k] ≤ 128) (hb : i.testBit (l.length - 1 - k) = true) : PartSub l i (k + 1) (withR x l[k]) := fun u => by
  unfold withR
  rw [L.hasS_ofS, List.mem_append, L.listV_mem, h, List.mem_singleton]
  constructor
  · rintro ⟨_, ⟨j, hj, h1, h2, h3⟩ | rfl⟩
    · exact ⟨j, hj, by omega, h2, h3⟩
    · exact ⟨k, hk, by omega, rfl, hb⟩
  · rintro ⟨j, hj, h1, h2, h3⟩
    by_cases e : j = k
    · subst e
      exact ⟨by rw [← h2]; exact hr, .inr h2.symm⟩
    · have hx : hasS x u = true := (h u).2 ⟨j, hj, by omega, h2, h3⟩
      exact ⟨L.hasS_range hx, .inl ⟨j, hj, by omega, h2, h3⟩⟩
theorem PartSub.full {l : List Int} {i : Nat} {x : VSet} (h : PartSub l i l.length x) : L.SubNo l i x := fun u => by
  rw [h]
  constructor
  · rintro ⟨j, hj, _, h2, h3⟩; exact ⟨j, hj, h2, h3⟩
  · rintro ⟨j, hj, h2, h3⟩; exact ⟨j, hj, hj, h2, h3⟩
theorem bits_and64 (y : Nat) (hy : y < 9223372036854775808) : bits BinOp.and IntKind.i64 (y : Int) 1 = ((y &&& 1 : Nat) : Int) := by
  have hlt : y &&& 1 < 9223372036854775808 := Nat.lt_of_le_of_lt Nat.and_le_left hy
  show IntKind.i64.wrap (((BitVec.ofInt 64 (y : Int) &&& BitVec.ofInt 64 ((1 : Nat) : Int) : BitVec 64).toNat : Nat) : Int) = _
  rw [show ((BitVec.ofInt 64 (y : Int) &&& BitVec.ofInt 64 ((1 : Nat) : Int)).toNat) = y &&& 1 from by
    rw [BitVec.toNat_and, BitVec.ofInt_natCast, BitVec.ofInt_natCast, BitVec.toNat_ofNat, BitVec.toNat_ofNat, Nat.mod_eq_of_lt (by omega), Nat.mod_eq_of_lt (by omega)]]
  rw [IntWalk.i64_in _ (by omega)]
theorem bit_one (i b : Nat) (hi : i < 9223372036854775808) : (bits BinOp.and IntKind.i64 ((i : Int) / 2 ^ b) 1 == 1) = i.testBit b := by
  have h1 : ((i : Int) / 2 ^ b) = ((i / 2 ^ b : Nat) : Int) := by simp
  have h2 : i / 2 ^ b < 9223372036854775808 := Nat.lt_of_le_of_lt (Nat.div_le_self _ _) hi
  rw [h1, bits_and64 _ h2, Nat.and_one_is_mod, Nat.testBit_eq_decide_div_mod_eq]
  rw [Bool.eq_iff_iff]
  simp
  omega
/-- what holds in the inner loop of 'least' -/
def LeastIn (w3 : World) (xb : Nat) (l : List Int) (i k : Nat) (wi : World) : Prop := ∃ x : VSet, PartSub l i k x ∧ Below w3.heap.size w3 wi ∧ w3.heap.size ≤ xb ∧ wi.heap[xb]? = some (.cells #[.int .u64 (lo x), .int .u64 (hi x)] 55 (0, 0))
set_option maxRecDepth 100000 in
set_option maxHeartbeats 4000000 in
theorem least_any {t : List VN} {B0 : Blks} {w0 w : World} {k a : Nat} {s : St} {S : VSet} (h : SS t B0 w0 k s w) (ha1 : 1 ≤ a) (ha : a < s.nodes.length) (hd : L.Dep (fun u => hasS S u = true) (L.sem s.nodes a)) (hl6 : (listV S).length ≤ 6) :
    Calls Tryz.prog 30 #[.pointer (some ⟨B0.sb, 0, none⟩), .int .i64 a, encS S] w fun e w' => e = .returned (encS (leOf s.nodes a)) ∧ Below w.heap.size w w' := by
  have hmin := h.inv.min a ha1 ha
  obtain ⟨i0, hi0, hsub, hno⟩ := L.least_first (l := listV S) (L.listVK_sorted S 128) (φ := L.sem s.nodes a) (m := leOf s.nodes a) hmin.le (fun u hu => (L.listV_mem S u).2 (hmin.le_in hd hu))
  have hrange : ∀ v ∈ listV S, 1 ≤ v ∧ v ≤ 128 := fun v hv => L.hasS_range ((L.listV_mem S v).1 hv)
  have hq := fun w => refList_any S w
  have hpow : 2 ^ (listV S).length ≤ 64 := Nat.le_trans (Nat.pow_le_pow_right (by omega) hl6) (by decide)
  have hwrap : IntKind.i64.wrap (2 ^ (listV S).length) = ((2 ^ (listV S).length : Nat) : Int) := by
    rw [show ((2 : Int) ^ (listV S).length) = ((2 ^ (listV S).length : Nat) : Int) by simp, IntWalk.i64_in _ (by omega)]
  generalize listV S = l at *
  unfold encS at hq ⊢
  go_enter Tryz.func30, Tryz.ntmps30
  go_wp2_with fail
  have hb1 := (Below.refl w.heap.size w).alloc (Nat.le_refl _) (.cells #[.int .u64 (lo S), .int .u64 (hi S)] 55)
  have hb2 := hb1.alloc hb1.size (.cells #[.int .u64 0, .int .u64 0] 55)
  have hz2 : ((w.alloc (.cells #[.int .u64 (lo S), .int .u64 (hi S)] 55)).alloc (.cells #[.int .u64 0, .int .u64 0] 55)).heap[w.heap.size + 1]? = some (.cells #[.int .u64 0, .int .u64 0] 55 (0, 0)) := heap_new_at _ _ _ (by simp)
  generalize (w.alloc (.cells #[.int .u64 (lo S), .int .u64 (hi S)] 55)).alloc (.cells #[.int .u64 0, .int .u64 0] 55) = w2 at *
  refine (hq w2).mono ?_
  rintro e w3 ⟨vl, rfl, ho3, hb3⟩
  have hB3 := hb2.trans (hb3.mono hb2.size)
  have hz3 := (hb3.block (w.heap.size + 1) (Array.getElem?_eq_some_iff.1 hz2).1).trans hz2
  have hS3 := h.below hB3
  obtain ⟨bl, cl, rfl, hrow⟩ := owns_slI ho3
  have hcell : ∀ k (hk : k < l.length), ∃ b o, bl = some ⟨b, o, none⟩ ∧ w3.cell? ⟨b, o + k, none⟩ = some (.int .i64 l[k]) := fun k hk => by
    rcases hrow with ⟨_, rfl, _⟩ | ⟨b, o, h1, h2⟩
    · simp at hk
    · exact ⟨b, o, h1, h2 k hk⟩
  replace hcell := Lib.hid hcell
  replace hS3 := Lib.hid hS3
  replace hz3 := Lib.hid hz3
  replace hB3 := Lib.hid hB3
  clear hrow ho3 hb3 hb1 hb2 hz2 hq h
  go_wp2_with fail
  go_loopw [8] (fun iv wr => ∃ i : Nat, i ≤ i0 ∧ iv = .int .i64 i ∧ Hid (Below w3.heap.size w3 wr)) (fun iv _ => i0 + 1 - (intOf iv).toNat)
  case atStart => exact ⟨0, Nat.zero_le _, rfl, Lib.hid (Below.refl _ _)⟩
  case round =>
    obtain ⟨i, hii, rfl, hB⟩ := hrel
    have hlt : (i : Int) < 2 ^ l.length := by
      rw [show ((2 : Int) ^ l.length) = ((2 ^ l.length : Nat) : Int) by simp]; omega
    have hdl : decide ((i : Int) < 2 ^ l.length) = true := decide_eq_true hlt
    obtain ⟨wo, rfl⟩ : ∃ wo, wo = wr := ⟨wr, rfl⟩
    have hx0 : Hid (LeastIn w3 wo.heap.size l i 0 (wo.alloc (.cells #[.int .u64 0, .int .u64 0] 55))) := Lib.hid
      ⟨0, PartSub.zero l i, hB.out.alloc hB.out.size _, hB.out.size, heap_alloc_new _ _⟩
    go_wp2_with fail
    generalize wo.alloc (.cells #[.int .u64 0, .int .u64 0] 55) = wb at *
    go_loopw [10] (fun kv wi => ∃ m : Nat, m ≤ l.length ∧ kv = .int .i64 m ∧ Hid (LeastIn w3 wo.heap.size l i m wi)) (fun kv _ => l.length - (intOf kv).toNat)
    case atStart => exact ⟨0, Nat.zero_le _, rfl, hx0⟩
    case round =>
      clear hx0
      obtain ⟨m, hm, rfl, hI⟩ := hrel
      obtain ⟨x, hx, hBx, hwx, hzx⟩ := hI.out
      clear hI
      by_cases hml : m < l.length
      · have em : (l.length : Int) - 1 - (m : Int) = ((l.length - 1 - m : Nat) : Int) := by omega
        have hbit := bit_one i (l.length - 1 - m) (by omega)
        cases hb : i.testBit (l.length - 1 - m)
        · rw [hb] at hbit
          have hnext : Hid (LeastIn w3 wo.heap.size l i (m + 1) wr) := Lib.hid ⟨x, hx.skip hb, hBx, hwx, hzx⟩
          replace hzx := Lib.hid hzx
          go_wp2_with fail
          go_roundw
          case rel => exact ⟨m + 1, by omega, by go_num, hnext⟩
          case measure => simp [intOf]; omega
        · rw [hb] at hbit
          obtain ⟨b, o, rfl, hc⟩ := hcell.out m hml
          have hc' := (hBx.cell (p := ⟨b, o + m, none⟩) (World.block_lt_of_cell? w3 _ hc)).trans hc
          have hrm := hrange _ (List.getElem_mem hml)
          have hadd := hx.add hml hrm hb
          have hw := refWith_any x l[m] wr.drew
          generalize l[m] = v at *
          unfold encS at hw
          obtain ⟨z0, z1⟩ := pbox_cells hzx
          have hzd : wr.drew.heap[wo.heap.size]? = some (.cells #[.int .u64 (lo x), .int .u64 (hi x)] 55 (0, 0)) := hzx
          have hBd : Below w3.heap.size w3 wr.drew := hBx.drew
          replace hadd := Lib.hid hadd
          replace hx := Lib.hid hx
          replace hzx := Lib.hid hzx
          replace hzd := Lib.hid hzd
          replace hBd := Lib.hid hBd
          clear hc hBx
          go_wp2_with fail
          generalize hR : withR x v = R at *
          go_region_with (go_at_call 51; refine hw.mono ?_; rintro e w5 ⟨rfl, hb5⟩; have hz5 := (hb5.block _ (Array.getElem?_eq_some_iff.1 hzd.out).1).trans hzd.out; obtain ⟨c0, c1⟩ := pbox_cells hz5; have y0 : w5.frozen? ⟨wo.heap.size, 0, none⟩ = false := (by simp [World.frozen?, hz5]); have y1 : w5.frozen? ⟨wo.heap.size, 1, none⟩ = false := (by simp [World.frozen?, hz5]); have hz5 := Lib.hid hz5; have hB5 := Lib.hid (hBd.out.trans (hb5.mono hBd.out.size)); clear hb5)
          all_goals
            have hnext : Hid (LeastIn w3 wo.heap.size l i (m + 1) ((w5.setCell ⟨wo.heap.size, 0, none⟩ (.int .u64 (lo R))).setCell ⟨wo.heap.size, 1, none⟩ (.int .u64 (hi R)))) := Lib.hid
              ⟨R, hadd.out, (hB5.out.setCell (by exact hwx) _).setCell (by exact hwx) _, hwx, heap_set2 hz5.out _ _⟩
            go_wp2_with fail
            go_roundw
            case rel => exact ⟨m + 1, by omega, by go_num, hnext⟩
            case measure => simp [intOf]; omega
      · obtain rfl : m = l.length := by omega
        have hfull := hx.full
        have hSx := hS3.out.below hBx
        have hqe := eval_v hSx ⟨ha, fun _ => rfl⟩ x
        obtain ⟨z0, z1⟩ := pbox_cells hzx
        replace hzx := Lib.hid hzx
        replace hSx := Lib.hid hSx
        by_cases hi0' : i = i0
        · subst hi0'
          have hxm : x = leOf s.nodes a := hfull.uniq hsub
          have hsat : L.sem s.nodes a (L.asg x) = true := by rw [hxm]; exact hmin.sat
          rw [hsat] at hqe
          replace hxm := Lib.hid hxm
          go_wp2_with fail
          refine hqe.mono ?_
          rintro e w5 ⟨rfl, hx5⟩
          have hB5 := hBx.trans (hx5.below.mono hBx.size)
          have hz5 := (hB5.block (w.heap.size + 1) (Array.getElem?_eq_some_iff.1 hz3.out).1).trans hz3.out
          have hx5z := (hx5.below.block wo.heap.size (Array.getElem?_eq_some_iff.1 hzx.out).1).trans hzx.out
          obtain ⟨x0, x1⟩ := pbox_cells hx5z
          have y0 : w5.frozen? ⟨w.heap.size + 1, 0, none⟩ = false := by simp [World.frozen?, hz5]
          have y1 : w5.frozen? ⟨w.heap.size + 1, 1, none⟩ = false := by simp [World.frozen?, hz5]
          obtain ⟨c0, c1⟩ := pbox_cells hz5
          have hBw := hB3.out.trans (hB5.mono hB3.out.size)
          have hBo : Below w.heap.size w ((w5.setCell ⟨w.heap.size + 1, 0, none⟩ (.int .u64 (lo x))).setCell ⟨w.heap.size + 1, 1, none⟩ (.int .u64 (hi x))) := (hBw.setCell (by show _ ≤ w.heap.size + 1; omega) _).setCell (by show _ ≤ w.heap.size + 1; omega) _
          have r0 : ((w5.setCell ⟨w.heap.size + 1, 0, none⟩ (.int .u64 (lo x))).setCell ⟨w.heap.size + 1, 1, none⟩ (.int .u64 (hi x))).cell? ⟨w.heap.size + 1, 0, none⟩ = some (.int .u64 (lo x)) := by
            rw [World.cell?, heap_set2 hz5]; rfl
          have r1 : ((w5.setCell ⟨w.heap.size + 1, 0, none⟩ (.int .u64 (lo x))).setCell ⟨w.heap.size + 1, 1, none⟩ (.int .u64 (hi x))).cell? ⟨w.heap.size + 1, 1, none⟩ = some (.int .u64 (hi x)) := by
            rw [World.cell?, heap_set2 hz5]; rfl
          replace hz5 := Lib.hid hz5
          replace hx5z := Lib.hid hx5z
          clear hqe z0 z1
          generalize hx0 : lo x = p0 at *
          generalize hx1 : hi x = p1 at *
          go_wp2_with fail
          exact bodyPost_ret (v := .agg #[.int .u64 p0, .int .u64 p1]) (by simp [results, Tryz.results30, go_sem, r0, r1]) rfl ⟨by rw [← hxm.out, hx0, hx1], hBo⟩
        · have hlow : L.sem s.nodes a (L.asg x) = false := hno i x (by omega) hfull
          rw [hlow] at hqe
          go_wp2_with fail
          refine hqe.mono ?_
          rintro e w5 ⟨rfl, hx5⟩
          have hnext : Hid (Below w3.heap.size w3 w5) := Lib.hid (hBx.trans (hx5.below.mono hBx.size))
          go_wp2_with fail
          go_roundw
          case rel => exact ⟨i + 1, by omega, by go_num, hnext⟩
          case measure => simp [intOf]; omega
end Go.Proofs.YtgphkbnoflfneaaGreatDoor
