import Derived.Test.YteikmmfjhabijaaGreatDoorSem
import Derived.Test.YteikmmfjhabijaaGreatDoorLaw3
set_option linter.unusedSimpArgs false
set_option linter.unusedVariables false
namespace Go.Proofs.YteikmmfjhabijaaGreatDoor
open Go Go.RowKit Go.Shelf

/-- a row of cells that lies outside a store's blocks -/
def KeepR (B0 : Blks) (w0 : World) (ba : Option Addr) (vs : List Value) : Prop := vs = [] ∨ ∃ b o, ba = some ⟨b, o, none⟩ ∧ b ∉ B0.mut ∧ ∀ j (hj : j < vs.length), w0.cell? ⟨b, o + j, none⟩ = some vs[j]
theorem KeepR.at {t : List VN} {B0 : Blks} {w0 w : World} {k : Nat} {s : St} {ba : Option Addr} {vs : List Value} (h : KeepR B0 w0 ba vs) (hS : SS t B0 w0 k s w) {j : Nat} (hj : j < vs.length) : ∃ b o, ba = some ⟨b, o, none⟩ ∧ w.cell? ⟨b, o + j, none⟩ = some vs[j] := by
  rcases h with rfl | ⟨b, o, rfl, hm, hc⟩
  · simp at hj
  · exact ⟨b, o, rfl, hS.cell (hc j hj) hm⟩
def encU (n : Nat) : Value := .int .u16 (n : Int)
def selB (p a : Nat) : Bool := p.testBit (2 * a)
def negB (p a : Nat) : Bool := p.testBit (2 * a + 1)
/-- what literal number a of a term says -/
def oneφ (l : List Int) (p a : Nat) : L.Asg → Bool := fun x => !selB p a || (x (l.getD a 0) == !negB p a)
def termφ (l : List Int) (p : Nat) : L.Asg → Bool := fun x => (List.range l.length).all fun j => oneφ l p j x
/-- the disjunction of terms -/
def termsφ (l : List Int) (ps : List Nat) : L.Asg → Bool := fun x => ps.any fun p => termφ l p x
def inφ (l : List Int) (p : Nat) (last : Bool) (m : Nat) : L.Asg → Bool := fun x => (List.range m).all fun j => oneφ l p (if last then l.length - 1 - j else j) x
def outφ (l : List Int) (ps : List Nat) (last : Bool) (i : Nat) : L.Asg → Bool := fun x => (List.range i).any fun j => termφ l (ps.getD (if last then ps.length - 1 - j else j) 0) x
theorem in_succ_false (l : List Int) (p m : Nat) (x : L.Asg) : inφ l p false (m + 1) x = (inφ l p false m x && oneφ l p m x) := by
  unfold inφ; rw [List.range_succ, List.all_append]; simp
theorem in_succ_true (l : List Int) (p m : Nat) (x : L.Asg) : inφ l p true (m + 1) x = (inφ l p true m x && oneφ l p (l.length - 1 - m) x) := by
  unfold inφ; rw [List.range_succ, List.all_append]; simp
theorem out_succ_false (l : List Int) (ps : List Nat) (i : Nat) (x : L.Asg) : outφ l ps false (i + 1) x = (outφ l ps false i x || termφ l (ps.getD i 0) x) := by
  unfold outφ; rw [List.range_succ, List.any_append]; simp
theorem out_succ_true (l : List Int) (ps : List Nat) (i : Nat) (x : L.Asg) : outφ l ps true (i + 1) x = (outφ l ps true i x || termφ l (ps.getD (ps.length - 1 - i) 0) x) := by
  unfold outφ; rw [List.range_succ, List.any_append]; simp
theorem in_end (l : List Int) (p : Nat) (last : Bool) (x : L.Asg) : inφ l p last l.length x = termφ l p x := by
  unfold inφ termφ
  rw [Bool.eq_iff_iff, List.all_eq_true, List.all_eq_true]
  cases last
  · rfl
  · constructor
    · intro h j hj
      have := h (l.length - 1 - j) (List.mem_range.2 (by have := List.mem_range.1 hj; omega))
      simp only [if_true] at this
      rwa [show l.length - 1 - (l.length - 1 - j) = j by have := List.mem_range.1 hj; omega] at this
    · intro h j hj
      exact h _ (List.mem_range.2 (by have := List.mem_range.1 hj; simp only [if_true]; omega))
theorem out_end (l : List Int) (ps : List Nat) (last : Bool) (x : L.Asg) : outφ l ps last ps.length x = termsφ l ps x := by
  unfold outφ termsφ
  have hg : ∀ j, j < ps.length → ps.getD j 0 ∈ ps := fun j hj => by
    rw [List.getD_eq_getElem?_getD, List.getElem?_eq_getElem hj]; exact List.getElem_mem hj
  rw [Bool.eq_iff_iff, List.any_eq_true, List.any_eq_true]
  constructor
  · rintro ⟨j, hj, h⟩
    have hj' := List.mem_range.1 hj
    exact ⟨_, hg _ (by split <;> omega), h⟩
  · rintro ⟨p, hp, h⟩
    obtain ⟨j, hj, rfl⟩ := List.getElem_of_mem hp
    have e : ps.getD j 0 = ps[j] := by rw [List.getD_eq_getElem?_getD, List.getElem?_eq_getElem hj]; rfl
    cases last
    · exact ⟨j, List.mem_range.2 hj, by rw [← e] at h; exact h⟩
    · refine ⟨ps.length - 1 - j, List.mem_range.2 (by omega), ?_⟩
      simp only [if_true]
      rw [show ps.length - 1 - (ps.length - 1 - j) = j by omega, e]; exact h
theorem bits_and16 (y c : Nat) (hy : y < 65536) (hc : c < 65536) : bits BinOp.and IntKind.u16 (y : Int) (c : Int) = ((y &&& c : Nat) : Int) := by
  have hlt : y &&& c < 65536 := Nat.lt_of_le_of_lt Nat.and_le_left hy
  have e : ∀ z : Nat, z < 65536 → IntKind.u16.wrap (z : Int) = z := fun z hz => by
    simp [IntKind.wrap, IntKind.bits, IntKind.signed]; omega
  show IntKind.u16.wrap (((BitVec.ofInt 16 (y : Int) &&& BitVec.ofInt 16 (c : Int) : BitVec 16).toNat : Nat) : Int) = _
  rw [show ((BitVec.ofInt 16 (y : Int) &&& BitVec.ofInt 16 (c : Int)).toNat) = y &&& c from by
    rw [BitVec.toNat_and, BitVec.ofInt_natCast, BitVec.ofInt_natCast, BitVec.toNat_ofNat, BitVec.toNat_ofNat, Nat.mod_eq_of_lt (by omega), Nat.mod_eq_of_lt (by omega)]]
  exact e _ hlt
theorem sel_bit (p m : Nat) (hp : p < 65536) : (bits BinOp.and IntKind.u16 ((p : Int) / 2 ^ (2 * m)) 1 == 0) = !(p.testBit (2 * m)) := by
  have h1 : ((p : Int) / 2 ^ (2 * m)) = ((p / 2 ^ (2 * m) : Nat) : Int) := by simp
  have h2 : p / 2 ^ (2 * m) < 65536 := Nat.lt_of_le_of_lt (Nat.div_le_self _ _) hp
  have := bits_and16 _ 1 h2 (by omega)
  rw [h1, show (1 : Int) = ((1 : Nat) : Int) from rfl, this, Nat.and_one_is_mod, Nat.testBit_eq_decide_div_mod_eq]
  rw [Bool.eq_iff_iff]
  simp
  omega
theorem neg_bit (p m : Nat) (hp : p < 65536) : (bits BinOp.and IntKind.u16 ((p : Int) / 2 ^ (2 * m)) 2 != 0) = p.testBit (2 * m + 1) := by
  have h1 : ((p : Int) / 2 ^ (2 * m)) = ((p / 2 ^ (2 * m) : Nat) : Int) := by simp
  have h2 : p / 2 ^ (2 * m) < 65536 := Nat.lt_of_le_of_lt (Nat.div_le_self _ _) hp
  have := bits_and16 _ 2 h2 (by omega)
  have h3 : ∀ y : Nat, y &&& 2 = 2 * (y / 2 % 2) := fun y => by
    apply Nat.eq_of_testBit_eq
    intro i
    rw [Nat.testBit_and]
    match i with
    | 0 => simp [Nat.testBit_zero]
    | 1 =>
      rw [Nat.testBit_eq_decide_div_mod_eq, Nat.testBit_eq_decide_div_mod_eq (x := 2), Nat.testBit_eq_decide_div_mod_eq (x := 2 * _)]
      rw [Bool.eq_iff_iff]; simp
    | i + 2 =>
      have : Nat.testBit 2 (i + 2) = false := by
        rw [Nat.testBit_lt_two_pow]
        exact Nat.lt_of_lt_of_le (by decide : 2 < 2 ^ 2) (Nat.pow_le_pow_right (by omega) (by omega))
      rw [this, Bool.and_false, Nat.testBit_lt_two_pow]
      exact Nat.lt_of_lt_of_le (by omega : 2 * (y / 2 % 2) < 2 ^ 2) (Nat.pow_le_pow_right (by omega) (by omega))
  rw [h1, show (2 : Int) = ((2 : Nat) : Int) from rfl, this, h3, Nat.testBit_eq_decide_div_mod_eq, Nat.pow_succ, ← Nat.div_div_eq_div_mul]
  rw [Bool.eq_iff_iff]
  simp
  omega
/-- the end of terms -/
def RetT (t : List VN) (B0 : Blks) (w0 : World) (k : Nat) (s : St) (φ : L.Asg → Bool) (e : Ending) (w' : World) : Prop :=
  ∃ (r : Nat) (s' : St), e = .returned (.tuple #[.int .i64 (r : Nat), .bool true]) ∧ SS t B0 w0 k s' w' ∧ L.Step s s' ∧ Val s' r φ

set_option maxRecDepth 100000 in
set_option maxHeartbeats 4000000 in
theorem terms_fwd {t : List VN} {B0 : Blks} {w0 w : World} {k k' : Nat} {s : St} {l : List Int} {ps : List Nat} {bl bp : Option Addr} {cl cp : Nat} (h : SS t B0 w0 k s w) (h0 : Val s 0 fun _ => false) (h1 : Val s 1 fun _ => true) (hk : k' + ps.length * 1543 ≤ k)
    (hl : KeepR B0 w0 bl (l.map encZ)) (hp : KeepR B0 w0 bp (ps.map encU)) (hl6 : l.length ≤ 6) (hlv : ∀ v ∈ l, VarOf t v) (hpu : ∀ p ∈ ps, p < 65536) (hpl : ps.length ≤ 100) :
    Calls Tryz.prog 24 #[.pointer (some ⟨B0.sb, 0, none⟩), .slice bl l.length cl, .slice bp ps.length cp, .bool false] w (RetT t B0 w0 k' s (termsφ l ps)) := by
  go_enter Tryz.func24, Tryz.ntmps24
  go_wp2_with fail
  go_loopw [10, 11, 12] (fun ov okv iv wr => ∃ (i o : Nat), i ≤ ps.length ∧ iv = .int .i64 i ∧ okv = .bool true ∧ ov = .int .i64 o ∧ Hid (∃ s', SS t B0 w0 (k' + (ps.length - i) * 1543) s' wr ∧ L.Step s s' ∧ Val s' o (outφ l ps false i))) (fun _ _ iv _ => ps.length - (intOf iv).toNat)
  case atStart => exact ⟨0, 0, Nat.zero_le _, rfl, rfl, rfl, Lib.hid ⟨s, h.less (by omega), L.Step.refl h.inv, h0.congr fun x => rfl⟩⟩
  case round =>
    obtain ⟨i, o, hi, rfl, rfl, rfl, hI⟩ := hrel
    obtain ⟨s1, hS1, hT1, hV1⟩ := hI.out
    clear hI
    by_cases hlt : i < ps.length
    · obtain ⟨b, oo, rfl, hc⟩ := hp.at hS1 (j := i) (by simp; omega)
      rw [List.getElem_map] at hc
      unfold encU at hc
      have hpi : ps[i]'(by omega) ∈ ps := List.getElem_mem ..
      have hp16 := hpu _ hpi
      have hpd : ps.getD i 0 = ps[i]'(by omega) := by rw [List.getD_eq_getElem?_getD, List.getElem?_eq_getElem (by omega)]; rfl
      generalize hpe : ps[i]'(by omega) = p at *
      have h11 := h1.step h.inv hT1
      replace hS1 := Lib.hid hS1
      replace hT1 := Lib.hid hT1
      replace hl := Lib.hid hl
      replace hp := Lib.hid hp
      replace h := Lib.hid h
      clear hpi
      have hin0 : Hid (∃ s2, SS t B0 w0 (k' + (ps.length - (i + 1)) * 1543 + 127 + (6 - 0) * 236) s2 wr ∧ L.Step s s2 ∧ Val s2 o (outφ l ps false i) ∧ Val s2 1 (inφ l p false 0)) := Lib.hid ⟨s1, hS1.out.less (by omega), hT1.out, hV1, h11⟩
      clear hS1 hT1
      go_wp2_with fail
      go_loopw [11, 14, 15] (fun okv tv mv wi => ∃ (m tt : Nat), m ≤ l.length ∧ mv = .int .i64 m ∧ okv = .bool true ∧ tv = .int .i64 tt ∧ Hid (∃ s2, SS t B0 w0 (k' + (ps.length - (i + 1)) * 1543 + 127 + (6 - m) * 236) s2 wi ∧ L.Step s s2 ∧ Val s2 o (outφ l ps false i) ∧ Val s2 tt (inφ l p false m))) (fun _ _ mv _ => l.length - (intOf mv).toNat)
      case atStart => exact ⟨0, 1, Nat.zero_le _, rfl, rfl, rfl, hin0⟩
      case round =>
        clear hin0
        obtain ⟨m, tt, hm, rfl, rfl, rfl, hI⟩ := hrel
        obtain ⟨s2, hS2, hT2, hV2, hW2⟩ := hI.out
        clear hI
        by_cases hml : m < l.length
        · obtain ⟨b', oo', rfl, hc'⟩ := hl.out.at hS2 (j := m) (by simp; omega)
          rw [List.getElem_map] at hc'
          unfold encZ at hc'
          have hvv := hlv _ (List.getElem_mem (l := l) (n := m) (by omega))
          have hvd : l.getD m 0 = l[m]'(by omega) := by rw [List.getD_eq_getElem?_getD, List.getElem?_eq_getElem (by omega)]; rfl
          have hsel := sel_bit p m hp16
          have hneg := neg_bit p m hp16
          have in_succ : ∀ x, inφ l p false (m + 1) x = (inφ l p false m x && oneφ l p m x) := fun x => in_succ_false ..
          generalize l[m]'(by omega) = v at *
          obtain ⟨v1, v2⟩ := hvv.range
          replace hS2 := Lib.hid hS2
          replace hT2 := Lib.hid hT2
          replace hvv := hvv
          cases hs : p.testBit (2 * m)
          · have hnext : Hid (∃ s2, SS t B0 w0 (k' + (ps.length - (i + 1)) * 1543 + 127 + (6 - (m + 1)) * 236) s2 wr ∧ L.Step s s2 ∧ Val s2 o (outφ l ps false i) ∧ Val s2 tt (inφ l p false (m + 1))) := Lib.hid ⟨s2, hS2.out.less (by omega), hT2.out, hV2, hW2.congr fun x => by rw [in_succ]; unfold oneφ selB; rw [hs]; simp⟩
            rw [hs, Bool.not_false] at hsel
            clear hneg
            go_wp2_with fail
            go_roundw
            case rel => exact ⟨m + 1, tt, by omega, by go_num, rfl, rfl, hnext⟩
            case measure => simp [intOf]; omega
          · rw [hs, Bool.not_true] at hsel
            cases hn : p.testBit (2 * m + 1)
            · rw [hn] at hneg
              have hone : ∀ x, oneφ l p m x = litφ v x := fun x => by
                unfold oneφ litφ selB negB
                rw [hs, hn, hvd]
                simp only [Bool.not_true, Bool.not_false, Bool.false_or]
                rw [show ((v).natAbs : Int) = v by omega, decide_eq_true (by omega : 0 < v)]
              have q1 := lit_v (l := v) hS2.out (by rw [show ((v).natAbs : Int) = v by omega]; exact hvv)
              go_wp2_with fail
              refine q1.mono ?_
              rintro e w3 ⟨n3, s3, rfl, hS3, hT3, hV3⟩
              have hV3' := hW2.step hS2.out.inv hT3
              have hW3 := hV3
              have q2 := and_v (k' := k' + (ps.length - (i + 1)) * 1543 + 127 + (6 - (m + 1)) * 236 + 118) hS3 (by omega) hV3' hV3
              replace hS3 := Lib.hid hS3
              clear q1
              go_wp2_with fail
              refine q2.mono ?_
              rintro e w4 ⟨t4, s4, rfl, hS4, hT4, hV4⟩
              have hnext : Hid (∃ s2, SS t B0 w0 (k' + (ps.length - (i + 1)) * 1543 + 127 + (6 - (m + 1)) * 236) s2 w4 ∧ L.Step s s2 ∧ Val s2 o (outφ l ps false i) ∧ Val s2 t4 (inφ l p false (m + 1))) := Lib.hid ⟨s4, hS4.less (by omega), (hT2.out.trans hT3).trans hT4, (hV2.step hS2.out.inv hT3).step hS3.out.inv hT4, hV4.congr fun x => by rw [in_succ, hone]⟩
              clear hS4 q2
              go_wp2_with fail
              go_roundw
              case rel => exact ⟨m + 1, t4, by omega, by go_num, rfl, rfl, hnext⟩
              case measure => simp [intOf]; omega
            · rw [hn] at hneg
              have hone : ∀ x, oneφ l p m x = litφ (-v) x := fun x => by
                unfold oneφ litφ selB negB
                rw [hs, hn, hvd]
                simp only [Bool.not_true, Bool.not_false, Bool.false_or]
                rw [show (((-v)).natAbs : Int) = v by omega, decide_eq_false (by omega : ¬ 0 < -v)]
              have q1 := lit_v (l := (-v)) hS2.out (by rw [show (((-v)).natAbs : Int) = v by omega]; exact hvv)
              go_wp2_with fail
              refine q1.mono ?_
              rintro e w3 ⟨n3, s3, rfl, hS3, hT3, hV3⟩
              have hV3' := hW2.step hS2.out.inv hT3
              have hW3 := hV3
              have q2 := and_v (k' := k' + (ps.length - (i + 1)) * 1543 + 127 + (6 - (m + 1)) * 236 + 118) hS3 (by omega) hV3' hV3
              replace hS3 := Lib.hid hS3
              clear q1
              go_wp2_with fail
              refine q2.mono ?_
              rintro e w4 ⟨t4, s4, rfl, hS4, hT4, hV4⟩
              have hnext : Hid (∃ s2, SS t B0 w0 (k' + (ps.length - (i + 1)) * 1543 + 127 + (6 - (m + 1)) * 236) s2 w4 ∧ L.Step s s2 ∧ Val s2 o (outφ l ps false i) ∧ Val s2 t4 (inφ l p false (m + 1))) := Lib.hid ⟨s4, hS4.less (by omega), (hT2.out.trans hT3).trans hT4, (hV2.step hS2.out.inv hT3).step hS3.out.inv hT4, hV4.congr fun x => by rw [in_succ, hone]⟩
              clear hS4 q2
              go_wp2_with fail
              go_roundw
              case rel => exact ⟨m + 1, t4, by omega, by go_num, rfl, rfl, hnext⟩
              case measure => simp [intOf]; omega
        · obtain rfl : m = l.length := by omega
          have q1 := or_v (k' := k' + (ps.length - (i + 1)) * 1543) hS2 (by omega) hV2 hW2
          replace hS2 := Lib.hid hS2
          go_wp2_with fail
          refine q1.mono ?_
          rintro e w3 ⟨o3, s3, rfl, hS3, hT3, hV3⟩
          have hnext : Hid (∃ s', SS t B0 w0 (k' + (ps.length - (i + 1)) * 1543) s' w3 ∧ L.Step s s' ∧ Val s' o3 (outφ l ps false (i + 1))) := Lib.hid ⟨s3, hS3, hT2.trans hT3, hV3.congr fun x => by rw [out_succ_false, in_end, hpd]⟩
          clear hS3 q1
          go_wp2_with fail
          go_roundw
          case rel => exact ⟨i + 1, o3, by omega, by go_num, rfl, rfl, hnext⟩
          case measure => simp [intOf]; omega
    · obtain rfl : i = ps.length := by omega
      have hfin : Hid (∃ s', SS t B0 w0 k' s' wr ∧ L.Step s s' ∧ Val s' o (termsφ l ps)) := Lib.hid ⟨s1, hS1.less (by omega), hT1, hV1.congr fun x => out_end ..⟩
      clear hS1 hT1 hV1
      go_wp2_with fail
      go_ret2
      obtain ⟨s', g1, g2, g3⟩ := hfin.out
      exact ⟨o, s', rfl, g1, g2, g3⟩

set_option maxRecDepth 100000 in
set_option maxHeartbeats 4000000 in
theorem terms_bwd {t : List VN} {B0 : Blks} {w0 w : World} {k k' : Nat} {s : St} {l : List Int} {ps : List Nat} {bl bp : Option Addr} {cl cp : Nat} (h : SS t B0 w0 k s w) (h0 : Val s 0 fun _ => false) (h1 : Val s 1 fun _ => true) (hk : k' + ps.length * 1543 ≤ k)
    (hl : KeepR B0 w0 bl (l.map encZ)) (hp : KeepR B0 w0 bp (ps.map encU)) (hl6 : l.length ≤ 6) (hlv : ∀ v ∈ l, VarOf t v) (hpu : ∀ p ∈ ps, p < 65536) (hpl : ps.length ≤ 100) :
    Calls Tryz.prog 24 #[.pointer (some ⟨B0.sb, 0, none⟩), .slice bl l.length cl, .slice bp ps.length cp, .bool true] w (RetT t B0 w0 k' s (termsφ l ps)) := by
  go_enter Tryz.func24, Tryz.ntmps24
  go_wp2_with fail
  go_loopw [10, 11, 12] (fun ov okv iv wr => ∃ (i o : Nat), i ≤ ps.length ∧ iv = .int .i64 i ∧ okv = .bool true ∧ ov = .int .i64 o ∧ Hid (∃ s', SS t B0 w0 (k' + (ps.length - i) * 1543) s' wr ∧ L.Step s s' ∧ Val s' o (outφ l ps true i))) (fun _ _ iv _ => ps.length - (intOf iv).toNat)
  case atStart => exact ⟨0, 0, Nat.zero_le _, rfl, rfl, rfl, Lib.hid ⟨s, h.less (by omega), L.Step.refl h.inv, h0.congr fun x => rfl⟩⟩
  case round =>
    obtain ⟨i, o, hi, rfl, rfl, rfl, hI⟩ := hrel
    obtain ⟨s1, hS1, hT1, hV1⟩ := hI.out
    clear hI
    by_cases hlt : i < ps.length
    · obtain ⟨b, oo, rfl, hc⟩ := hp.at hS1 (j := (ps.length - 1 - i)) (by simp; omega)
      rw [List.getElem_map] at hc
      unfold encU at hc
      have hc0 : wr.cell? ⟨b, oo + i, none⟩ = some (.int .u16 ((ps[i] : Nat) : Int)) := by
        obtain ⟨b1, oo1, e1, hc1⟩ := hp.at hS1 (j := i) (by simpa using hlt)
        rw [List.getElem_map] at hc1
        cases e1
        exact hc1
      generalize ps[i] = p0 at hc0
      have ej : (ps.length : Int) - 1 - (i : Int) = ((ps.length - 1 - i : Nat) : Int) := by omega
      have hpi : ps[(ps.length - 1 - i)]'(by omega) ∈ ps := List.getElem_mem ..
      have hp16 := hpu _ hpi
      have hpd : ps.getD (ps.length - 1 - i) 0 = ps[(ps.length - 1 - i)]'(by omega) := by rw [List.getD_eq_getElem?_getD, List.getElem?_eq_getElem (by omega)]; rfl
      generalize hpe : ps[(ps.length - 1 - i)]'(by omega) = p at *
      have h11 := h1.step h.inv hT1
      replace hS1 := Lib.hid hS1
      replace hT1 := Lib.hid hT1
      replace hl := Lib.hid hl
      replace hp := Lib.hid hp
      replace h := Lib.hid h
      clear hpi
      have hin0 : Hid (∃ s2, SS t B0 w0 (k' + (ps.length - (i + 1)) * 1543 + 127 + (6 - 0) * 236) s2 wr ∧ L.Step s s2 ∧ Val s2 o (outφ l ps true i) ∧ Val s2 1 (inφ l p true 0)) := Lib.hid ⟨s1, hS1.out.less (by omega), hT1.out, hV1, h11⟩
      clear hS1 hT1
      go_wp2_with fail
      go_loopw [11, 14, 15] (fun okv tv mv wi => ∃ (m tt : Nat), m ≤ l.length ∧ mv = .int .i64 m ∧ okv = .bool true ∧ tv = .int .i64 tt ∧ Hid (∃ s2, SS t B0 w0 (k' + (ps.length - (i + 1)) * 1543 + 127 + (6 - m) * 236) s2 wi ∧ L.Step s s2 ∧ Val s2 o (outφ l ps true i) ∧ Val s2 tt (inφ l p true m))) (fun _ _ mv _ => l.length - (intOf mv).toNat)
      case atStart => exact ⟨0, 1, Nat.zero_le _, rfl, rfl, rfl, hin0⟩
      case round =>
        clear hin0
        obtain ⟨m, tt, hm, rfl, rfl, rfl, hI⟩ := hrel
        obtain ⟨s2, hS2, hT2, hV2, hW2⟩ := hI.out
        clear hI
        by_cases hml : m < l.length
        · obtain ⟨b', oo', rfl, hc'⟩ := hl.out.at hS2 (j := (l.length - 1 - m)) (by simp; omega)
          rw [List.getElem_map] at hc'
          unfold encZ at hc'
          have hvv := hlv _ (List.getElem_mem (l := l) (n := (l.length - 1 - m)) (by omega))
          have hvd : l.getD (l.length - 1 - m) 0 = l[(l.length - 1 - m)]'(by omega) := by rw [List.getD_eq_getElem?_getD, List.getElem?_eq_getElem (by omega)]; rfl
          have em : (l.length : Int) - 1 - (m : Int) = ((l.length - 1 - m : Nat) : Int) := by omega
          have eml : l.length - 1 - m < l.length := by omega
          have hsel := sel_bit p (l.length - 1 - m) hp16
          have hneg := neg_bit p (l.length - 1 - m) hp16
          have in_succ : ∀ x, inφ l p true (m + 1) x = (inφ l p true m x && oneφ l p (l.length - 1 - m) x) := fun x => in_succ_true ..
          generalize l[(l.length - 1 - m)]'(by omega) = v at *
          obtain ⟨v1, v2⟩ := hvv.range
          replace hS2 := Lib.hid hS2
          replace hT2 := Lib.hid hT2
          replace hvv := hvv
          cases hs : p.testBit (2 * (l.length - 1 - m))
          · have hnext : Hid (∃ s2, SS t B0 w0 (k' + (ps.length - (i + 1)) * 1543 + 127 + (6 - (m + 1)) * 236) s2 wr ∧ L.Step s s2 ∧ Val s2 o (outφ l ps true i) ∧ Val s2 tt (inφ l p true (m + 1))) := Lib.hid ⟨s2, hS2.out.less (by omega), hT2.out, hV2, hW2.congr fun x => by rw [in_succ]; unfold oneφ selB; rw [hs]; simp⟩
            rw [hs, Bool.not_false] at hsel
            clear hneg
            go_wp2_with fail
            go_roundw
            case rel => exact ⟨m + 1, tt, by omega, by go_num, rfl, rfl, hnext⟩
            case measure => simp [intOf]; omega
          · rw [hs, Bool.not_true] at hsel
            cases hn : p.testBit (2 * (l.length - 1 - m) + 1)
            · rw [hn] at hneg
              have hone : ∀ x, oneφ l p (l.length - 1 - m) x = litφ v x := fun x => by
                unfold oneφ litφ selB negB
                rw [hs, hn, hvd]
                simp only [Bool.not_true, Bool.not_false, Bool.false_or]
                rw [show ((v).natAbs : Int) = v by omega, decide_eq_true (by omega : 0 < v)]
              have q1 := lit_v (l := v) hS2.out (by rw [show ((v).natAbs : Int) = v by omega]; exact hvv)
              go_wp2_with fail
              refine q1.mono ?_
              rintro e w3 ⟨n3, s3, rfl, hS3, hT3, hV3⟩
              have hV3' := hW2.step hS2.out.inv hT3
              have hW3 := hV3
              have q2 := and_v (k' := k' + (ps.length - (i + 1)) * 1543 + 127 + (6 - (m + 1)) * 236 + 118) hS3 (by omega) hV3' hV3
              replace hS3 := Lib.hid hS3
              clear q1
              go_wp2_with fail
              refine q2.mono ?_
              rintro e w4 ⟨t4, s4, rfl, hS4, hT4, hV4⟩
              have q3 := and_v (k' := k' + (ps.length - (i + 1)) * 1543 + 127 + (6 - (m + 1)) * 236) hS4 (by omega) (hW3.step hS3.out.inv hT4) (hV3'.step hS3.out.inv hT4)
              replace hS4 := Lib.hid hS4
              clear q2
              go_wp2_with fail
              refine q3.mono ?_
              rintro e w5 ⟨t5, s5, rfl, hS5, hT5, hV5⟩
              have hnext : Hid (∃ s2, SS t B0 w0 (k' + (ps.length - (i + 1)) * 1543 + 127 + (6 - (m + 1)) * 236) s2 w5 ∧ L.Step s s2 ∧ Val s2 o (outφ l ps true i) ∧ Val s2 t5 (inφ l p true (m + 1))) := Lib.hid ⟨s5, hS5, ((hT2.out.trans hT3).trans hT4).trans hT5, ((hV2.step hS2.out.inv hT3).step hS3.out.inv hT4).step hS4.out.inv hT5, hV5.congr fun x => by rw [in_succ, hone]; exact Bool.and_comm _ _⟩
              clear hS5 q3
              go_wp2_with fail
              go_roundw
              case rel => exact ⟨m + 1, t5, by omega, by go_num, rfl, rfl, hnext⟩
              case measure => simp [intOf]; omega
            · rw [hn] at hneg
              have hone : ∀ x, oneφ l p (l.length - 1 - m) x = litφ (-v) x := fun x => by
                unfold oneφ litφ selB negB
                rw [hs, hn, hvd]
                simp only [Bool.not_true, Bool.not_false, Bool.false_or]
                rw [show (((-v)).natAbs : Int) = v by omega, decide_eq_false (by omega : ¬ 0 < -v)]
              have q1 := lit_v (l := (-v)) hS2.out (by rw [show (((-v)).natAbs : Int) = v by omega]; exact hvv)
              go_wp2_with fail
              refine q1.mono ?_
              rintro e w3 ⟨n3, s3, rfl, hS3, hT3, hV3⟩
              have hV3' := hW2.step hS2.out.inv hT3
              have hW3 := hV3
              have q2 := and_v (k' := k' + (ps.length - (i + 1)) * 1543 + 127 + (6 - (m + 1)) * 236 + 118) hS3 (by omega) hV3' hV3
              replace hS3 := Lib.hid hS3
              clear q1
              go_wp2_with fail
              refine q2.mono ?_
              rintro e w4 ⟨t4, s4, rfl, hS4, hT4, hV4⟩
              have q3 := and_v (k' := k' + (ps.length - (i + 1)) * 1543 + 127 + (6 - (m + 1)) * 236) hS4 (by omega) (hW3.step hS3.out.inv hT4) (hV3'.step hS3.out.inv hT4)
              replace hS4 := Lib.hid hS4
              clear q2
              go_wp2_with fail
              refine q3.mono ?_
              rintro e w5 ⟨t5, s5, rfl, hS5, hT5, hV5⟩
              have hnext : Hid (∃ s2, SS t B0 w0 (k' + (ps.length - (i + 1)) * 1543 + 127 + (6 - (m + 1)) * 236) s2 w5 ∧ L.Step s s2 ∧ Val s2 o (outφ l ps true i) ∧ Val s2 t5 (inφ l p true (m + 1))) := Lib.hid ⟨s5, hS5, ((hT2.out.trans hT3).trans hT4).trans hT5, ((hV2.step hS2.out.inv hT3).step hS3.out.inv hT4).step hS4.out.inv hT5, hV5.congr fun x => by rw [in_succ, hone]; exact Bool.and_comm _ _⟩
              clear hS5 q3
              go_wp2_with fail
              go_roundw
              case rel => exact ⟨m + 1, t5, by omega, by go_num, rfl, rfl, hnext⟩
              case measure => simp [intOf]; omega
        · obtain rfl : m = l.length := by omega
          have q1 := or_v (k' := k' + (ps.length - (i + 1)) * 1543) hS2 (by omega) hV2 hW2
          replace hS2 := Lib.hid hS2
          go_wp2_with fail
          refine q1.mono ?_
          rintro e w3 ⟨o3, s3, rfl, hS3, hT3, hV3⟩
          have hnext : Hid (∃ s', SS t B0 w0 (k' + (ps.length - (i + 1)) * 1543) s' w3 ∧ L.Step s s' ∧ Val s' o3 (outφ l ps true (i + 1))) := Lib.hid ⟨s3, hS3, hT2.trans hT3, hV3.congr fun x => by rw [out_succ_true, in_end, hpd]⟩
          clear hS3 q1
          go_wp2_with fail
          go_roundw
          case rel => exact ⟨i + 1, o3, by omega, by go_num, rfl, rfl, hnext⟩
          case measure => simp [intOf]; omega
    · obtain rfl : i = ps.length := by omega
      have hfin : Hid (∃ s', SS t B0 w0 k' s' wr ∧ L.Step s s' ∧ Val s' o (termsφ l ps)) := Lib.hid ⟨s1, hS1.less (by omega), hT1, hV1.congr fun x => out_end ..⟩
      clear hS1 hT1 hV1
      go_wp2_with fail
      go_ret2
      obtain ⟨s', g1, g2, g3⟩ := hfin.out
      exact ⟨o, s', rfl, g1, g2, g3⟩
end Go.Proofs.YteikmmfjhabijaaGreatDoor

namespace Go.Proofs.YteikmmfjhabijaaGreatDoor
open Go Go.RowKit Go.Shelf

/-- few, on data -/
def fewB (t : List VN) : Bool := decide (0 < t.length) && (decide (t.length ≤ 11) && decide (checkF t = 0))
set_option maxRecDepth 100000 in
set_option maxHeartbeats 1000000 in
theorem few_any {t : List VN} (w : World) (ba : Option Addr) (cap : Nat) (h : t = [] ∨ ∃ b o, ba = some ⟨b, o, none⟩ ∧ TreeAt w b o t) :
    Calls Tryz.prog 22 #[.slice ba t.length cap] w fun e w' => e = .returned (.bool (fewB t)) ∧ Ext w w' := by
  by_cases h0 : 0 < t.length
  · by_cases h1 : t.length ≤ 11
    · have hq := refchk_any w ba cap h (by omega)
      have d0 : decide (0 < t.length) = true := decide_eq_true h0
      have d1 : decide (t.length ≤ 11) = true := decide_eq_true h1
      have hb : fewB t = decide (checkF t = 0) := by unfold fewB; rw [d0, d1]; rfl
      rw [hb]
      clear hb
      generalize checkF t = z at *
      go_enter Tryz.func22, Tryz.ntmps22
      go_wp2_with fail
      refine hq.mono ?_
      rintro e w1 ⟨rfl, hx1⟩
      go_wp2_with fail
      go_ret
      exact ⟨rfl, hx1⟩
    · have hb : fewB t = false := by unfold fewB; rw [decide_eq_false h1]; simp
      rw [hb]
      have d1 : decide ((t.length : Int) ≤ 11) = false := decide_eq_false (by omega)
      go_enter Tryz.func22, Tryz.ntmps22
      go_wp2_with fail
      go_ret
      exact ⟨rfl, Ext.refl _⟩
  · have hb : fewB t = false := by unfold fewB; rw [decide_eq_false h0]; rfl
    rw [hb]
    obtain rfl : t = [] := List.length_eq_zero_iff.1 (by omega)
    go_enter Tryz.func22, Tryz.ntmps22
    go_wp2_with fail
    go_ret
    exact ⟨rfl, Ext.refl _⟩
/-- numbers that came in, in memory -/
def InU (w : World) (ba : Option Addr) (cap : Nat) (ps : List Nat) : Prop := (∀ p ∈ ps, p < 65536) ∧ (ps = [] ∨ (ps.length ≤ cap ∧ ∃ b o, ba = some ⟨b, o, none⟩ ∧ ∀ j (hj : j < ps.length), w.cell? ⟨b, o + j, none⟩ = some (encU ps[j])))
theorem InU.keep {w w0 : World} {ba : Option Addr} {cap : Nat} {ps : List Nat} {B : Blks} (h : InU w ba cap ps) (hb : Below w.heap.size w w0) (hm : ∀ k ∈ B.mut, w.heap.size ≤ k) : KeepR B w0 ba (ps.map encU) := by
  rcases h.2 with rfl | ⟨_, b, o, rfl, hc⟩
  · exact .inl rfl
  · by_cases h0 : ps = []
    · subst h0; exact .inl rfl
    · have hbl := World.block_lt_of_cell? w _ (hc 0 (List.length_pos_iff.2 h0))
      refine .inr ⟨b, o, rfl, fun hcm => ?_, fun j hj => ?_⟩
      · have := hm b hcm
        have hbl' : b < w.heap.size := hbl
        omega
      · rw [List.length_map] at hj
        rw [List.getElem_map]
        exact (hb.cell (World.block_lt_of_cell? w _ (hc j hj))).trans (hc j hj)
/-- the list of the variables, made behind the store -/
theorem own_keep {w w' : World} {v : Value} {l : List Int} {B : Blks} {s : St} (h : w'.ownsRow w.heap.size 3 1 v l.length (l.map encZ)) (hR : Rep B s w') : ∃ ba cp, v = .slice ba l.length cp ∧ KeepR B w' ba (l.map encZ) := by
  cases hl0 : l with
  | nil =>
    rw [hl0] at h
    obtain ⟨ba, cp, e, _⟩ := owns_slI h
    exact ⟨ba, cp, e, .inl rfl⟩
  | cons x0 l0 =>
    rw [← hl0]
    obtain ⟨g, cp, e, hge, hc⟩ := own_open h (by rw [hl0]; simp)
    refine ⟨_, cp, e, .inr ⟨g, 0, rfl, fun hcm => ?_, fun j hj => ?_⟩⟩
    · obtain ⟨c, hgh⟩ := (own_lt h (k := g) (by rw [e]; rfl)).2
      exact hR.not_mut hgh (by decide) (by decide) hcm
    · have h1 := hc j _ (List.getElem?_eq_getElem hj)
      have hadd : (⟨g, 0, none⟩ : Addr).add j = ⟨g, j, none⟩ := by unfold Addr.add; split <;> simp_all
      rw [hadd] at h1
      rw [Nat.zero_add]; exact h1
theorem KeepR.stay {t : List VN} {B0 : Blks} {w0 w : World} {k : Nat} {s : St} {B : Blks} {ba : Option Addr} {vs : List Value} (h : KeepR B0 w0 ba vs) (hS : SS t B0 w0 k s w) (hm : ∀ b, b < w0.heap.size → b ∉ B0.mut → b ∉ B.mut) : KeepR B w ba vs := by
  rcases h with rfl | ⟨b, o, rfl, hn, hc⟩
  · exact .inl rfl
  · by_cases h0 : vs = []
    · subst h0; exact .inl rfl
    · have hbl := World.block_lt_of_cell? w0 _ (hc 0 (List.length_pos_iff.2 h0))
      exact .inr ⟨b, o, rfl, hm b hbl hn, fun j hj => hS.cell (hc j hj) hn⟩
theorem KeepR.lift {B : Blks} {w w' : World} {ba : Option Addr} {vs : List Value} (h : KeepR B w ba vs) (hb : Below w.heap.size w w') : KeepR B w' ba vs := by
  rcases h with rfl | ⟨b, o, rfl, hn, hc⟩
  · exact .inl rfl
  · exact .inr ⟨b, o, rfl, hn, fun j hj => (hb.cell (World.block_lt_of_cell? w _ (hc j hj))).trans (hc j hj)⟩
theorem KeepR.one {B : Blks} {w : World} {b o : Nat} {vs : List Value} {i : Nat} (h : KeepR B w (some ⟨b, o, none⟩) vs) (hi : i < vs.length) : KeepR B w (some ⟨b, o + i, none⟩) [vs[i]] := by
  rcases h with rfl | ⟨b', o', e, hn, hc⟩
  · simp at hi
  · cases e
    refine .inr ⟨b, o + i, rfl, hn, fun j hj => ?_⟩
    have : j = 0 := by simpa using hj
    subst this
    simp only [List.getElem_cons_zero, Nat.add_zero]
    exact hc i hi
/-- the sorted variables of a small vtree -/
theorem vars_few {t : List VN} (hc : checkF t = 0) (h11 : t.length ≤ 11) : ∃ l, varsR t = some l ∧ l.length ≤ 6 ∧ L.SortedBel t (t.length - 1) l ∧ ∀ v ∈ l, VarOf t v := by
  obtain ⟨l, h1, h2⟩ := L.varsR_spec hc
  have h0 := (check_ok hc).1
  have h3 := h2.len hc (by omega)
  have h4 := L.nv_le hc (v := t.length - 1) (by omega)
  refine ⟨l, h1, by omega, h2, fun v hv => ?_⟩
  obtain ⟨u, y, a1, a2, a3, _⟩ := (h2.mem v).1 hv
  exact ⟨u, y, a1, a2, a3⟩
/-- terms, either way -/
theorem terms_v {t : List VN} {B0 : Blks} {w0 w : World} {k k' : Nat} {s : St} {l : List Int} {ps : List Nat} {bl bp : Option Addr} {cl cp : Nat} (last : Bool) (h : SS t B0 w0 k s w) (h0 : Val s 0 fun _ => false) (h1 : Val s 1 fun _ => true) (hk : k' + ps.length * 1543 ≤ k)
    (hl : KeepR B0 w0 bl (l.map encZ)) (hp : KeepR B0 w0 bp (ps.map encU)) (hl6 : l.length ≤ 6) (hlv : ∀ v ∈ l, VarOf t v) (hpu : ∀ p ∈ ps, p < 65536) (hpl : ps.length ≤ 100) :
    Calls Tryz.prog 24 #[.pointer (some ⟨B0.sb, 0, none⟩), .slice bl l.length cl, .slice bp ps.length cp, .bool last] w (RetT t B0 w0 k' s (termsφ l ps)) := by
  cases last
  · exact terms_fwd h h0 h1 hk hl hp hl6 hlv hpu hpl
  · exact terms_bwd h h0 h1 hk hl hp hl6 hlv hpu hpl
def negφ (l : List Int) (ps : List Nat) (i : Nat) : L.Asg → Bool := fun x => (ps.take i).all fun p => !termsφ l [p] x
theorem neg_succ (l : List Int) (ps : List Nat) (i : Nat) (hi : i < ps.length) (x : L.Asg) : negφ l ps (i + 1) x = (!termsφ l [ps[i]] x && negφ l ps i x) := by
  unfold negφ
  rw [List.take_add_one, List.getElem?_eq_getElem hi, Option.toList_some, List.all_append, Bool.and_comm]
  simp
theorem neg_end (l : List Int) (ps : List Nat) (x : L.Asg) : (!negφ l ps ps.length x) = termsφ l ps x := by
  unfold negφ
  rw [List.take_length]
  induction ps with
  | nil => rfl
  | cons p r ih =>
    simp only [termsφ, List.all_cons, List.any_cons, List.any_nil, Bool.or_false] at ih ⊢
    rw [← ih]
    cases termφ l p x <;> simp

end Go.Proofs.YteikmmfjhabijaaGreatDoor

