import Derived.Test.YtgphkbnoflfneaaDoorTerms
set_option linter.unusedSimpArgs false
set_option linter.unusedVariables false
namespace Go.Proofs.YtgphkbnoflfneaaDoor
open Go Go.RowKit Go.Shelf

/-- few, on data -/
def fewB (t : List VN) : Bool := decide (0 < t.length) && (decide (t.length ≤ 11) && decide (checkF t = 0))
set_option maxRecDepth 100000 in
set_option maxHeartbeats 1000000 in
theorem few_any {t : List VN} (w : World) (ba : Option Addr) (cap : Nat) (h : t = [] ∨ ∃ b o, ba = some ⟨b, o, none⟩ ∧ TreeAt w b o t) :
    Calls Tryd.prog 12 #[.slice ba t.length cap] w fun e w' => e = .returned (.bool (fewB t)) ∧ Ext w w' := by
  by_cases h0 : 0 < t.length
  · by_cases h1 : t.length ≤ 11
    · have hq := refchk_any w ba cap h (by omega)
      have d0 : decide (0 < t.length) = true := decide_eq_true h0
      have d1 : decide (t.length ≤ 11) = true := decide_eq_true h1
      have hb : fewB t = decide (checkF t = 0) := by unfold fewB; rw [d0, d1]; rfl
      rw [hb]
      clear hb
      generalize checkF t = z at *
      go_enter Tryd.func12, Tryd.ntmps12
      go_wp2_with fail
      refine hq.mono ?_
      rintro e w1 ⟨rfl, hx1⟩
      go_wp2_with fail
      go_ret
      exact ⟨rfl, hx1⟩
    · have hb : fewB t = false := by unfold fewB; rw [decide_eq_false h1]; simp
      rw [hb]
      have d1 : decide ((t.length : Int) ≤ 11) = false := decide_eq_false (by omega)
      go_enter Tryd.func12, Tryd.ntmps12
      go_wp2_with fail
      go_ret
      exact ⟨rfl, Ext.refl _⟩
  · have hb : fewB t = false := by unfold fewB; rw [decide_eq_false h0]; rfl
    rw [hb]
    obtain rfl : t = [] := List.length_eq_zero_iff.1 (by omega)
    go_enter Tryd.func12, Tryd.ntmps12
    go_wp2_with fail
    go_ret
    exact ⟨rfl, Ext.refl _⟩
/-- numbers that came in, in memory -/
def InU (w : World) (ba : Option Addr) (cap : Nat) (ps : List Nat) : Prop := (∀ p ∈ ps, p < 65536) ∧ (ps = [] ∨ (ps.length ≤ cap ∧ ∃ b o, ba = some ⟨b, o, none⟩ ∧ ∀ j (hj : j < ps.length), w.cell? ⟨b, o + j, none⟩ = some (encU ps[j])))
theorem InU.keep {w w0 : World} {ba : Option Addr} {cap : Nat} {ps : List Nat} {B : Blks} (h : InU w ba cap ps) (hb : Below w.heap.size w w0) (hm : ∀ k ∈ B.mut, w.heap.size ≤ k) : KeepR B w0 ba (ps.map encU) := by
  rcases h.2 with rfl | ⟨_, b, o, rfl, hc⟩
  · exact .inl rfl
  · by_cases h0 : ps = []
    · subst h0; exact .inl rfl
    · have hbl := World.block_lt_of_cell? w _ (hc 0 (List.length_pos_iff.2 h0))
      refine .inr ⟨b, o, rfl, fun hcm => ?_, fun j hj => ?_⟩
      · have := hm b hcm
        have hbl' : b < w.heap.size := hbl
        omega
      · rw [List.length_map] at hj
        rw [List.getElem_map]
        exact (hb.cell (World.block_lt_of_cell? w _ (hc j hj))).trans (hc j hj)
/-- the list of the variables, made behind the store -/
theorem own_keep {w w' : World} {v : Value} {l : List Int} {B : Blks} {s : St} (h : w'.ownsRow w.heap.size 3 1 v l.length (l.map encZ)) (hR : Rep B s w') : ∃ ba cp, v = .slice ba l.length cp ∧ KeepR B w' ba (l.map encZ) := by
  cases hl0 : l with
  | nil =>
    rw [hl0] at h
    obtain ⟨ba, cp, e, _⟩ := owns_slI h
    exact ⟨ba, cp, e, .inl rfl⟩
  | cons x0 l0 =>
    rw [← hl0]
    obtain ⟨g, cp, e, hge, hc⟩ := own_open h (by rw [hl0]; simp)
    refine ⟨_, cp, e, .inr ⟨g, 0, rfl, fun hcm => ?_, fun j hj => ?_⟩⟩
    · obtain ⟨c, hgh⟩ := (own_lt h (k := g) (by rw [e]; rfl)).2
      exact hR.not_mut hgh (by decide) (by decide) hcm
    · have h1 := hc j _ (List.getElem?_eq_getElem hj)
      have hadd : (⟨g, 0, none⟩ : Addr).add j = ⟨g, j, none⟩ := by unfold Addr.add; split <;> simp_all
      rw [hadd] at h1
      rw [Nat.zero_add]; exact h1
theorem KeepR.stay {t : List VN} {B0 : Blks} {w0 w : World} {k : Nat} {s : St} {B : Blks} {ba : Option Addr} {vs : List Value} (h : KeepR B0 w0 ba vs) (hS : SS t B0 w0 k s w) (hm : ∀ b, b < w0.heap.size → b ∉ B0.mut → b ∉ B.mut) : KeepR B w ba vs := by
  rcases h with rfl | ⟨b, o, rfl, hn, hc⟩
  · exact .inl rfl
  · by_cases h0 : vs = []
    · subst h0; exact .inl rfl
    · have hbl := World.block_lt_of_cell? w0 _ (hc 0 (List.length_pos_iff.2 h0))
      exact .inr ⟨b, o, rfl, hm b hbl hn, fun j hj => hS.cell (hc j hj) hn⟩
theorem KeepR.lift {B : Blks} {w w' : World} {ba : Option Addr} {vs : List Value} (h : KeepR B w ba vs) (hb : Below w.heap.size w w') : KeepR B w' ba vs := by
  rcases h with rfl | ⟨b, o, rfl, hn, hc⟩
  · exact .inl rfl
  · exact .inr ⟨b, o, rfl, hn, fun j hj => (hb.cell (World.block_lt_of_cell? w _ (hc j hj))).trans (hc j hj)⟩
theorem KeepR.one {B : Blks} {w : World} {b o : Nat} {vs : List Value} {i : Nat} (h : KeepR B w (some ⟨b, o, none⟩) vs) (hi : i < vs.length) : KeepR B w (some ⟨b, o + i, none⟩) [vs[i]] := by
  rcases h with rfl | ⟨b', o', e, hn, hc⟩
  · simp at hi
  · cases e
    refine .inr ⟨b, o + i, rfl, hn, fun j hj => ?_⟩
    have : j = 0 := by simpa using hj
    subst this
    simp only [List.getElem_cons_zero, Nat.add_zero]
    exact hc i hi
/-- the sorted variables of a small vtree -/
theorem vars_few {t : List VN} (hc : checkF t = 0) (h11 : t.length ≤ 11) : ∃ l, varsR t = some l ∧ l.length ≤ 6 ∧ L.SortedBel t (t.length - 1) l ∧ ∀ v ∈ l, VarOf t v := by
  obtain ⟨l, h1, h2⟩ := L.varsR_spec hc
  have h0 := (check_ok hc).1
  have h3 := h2.len hc (by omega)
  have h4 := L.nv_le hc (v := t.length - 1) (by omega)
  refine ⟨l, h1, by omega, h2, fun v hv => ?_⟩
  obtain ⟨u, y, a1, a2, a3, _⟩ := (h2.mem v).1 hv
  exact ⟨u, y, a1, a2, a3⟩
/-- terms, either way -/
theorem terms_v {t : List VN} {B0 : Blks} {w0 w : World} {k k' : Nat} {s : St} {l : List Int} {ps : List Nat} {bl bp : Option Addr} {cl cp : Nat} (last : Bool) (h : SS t B0 w0 k s w) (h0 : Val s 0 fun _ => false) (h1 : Val s 1 fun _ => true) (hk : k' + ps.length * 1543 ≤ k)
    (hl : KeepR B0 w0 bl (l.map encZ)) (hp : KeepR B0 w0 bp (ps.map encU)) (hl6 : l.length ≤ 6) (hlv : ∀ v ∈ l, VarOf t v) (hpu : ∀ p ∈ ps, p < 65536) (hpl : ps.length ≤ 100) :
    Calls Tryd.prog 14 #[.pointer (some ⟨B0.sb, 0, none⟩), .slice bl l.length cl, .slice bp ps.length cp, .bool last] w (RetT t B0 w0 k' s (termsφ l ps)) := by
  cases last
  · exact terms_fwd h h0 h1 hk hl hp hl6 hlv hpu hpl
  · exact terms_bwd h h0 h1 hk hl hp hl6 hlv hpu hpl
def negφ (l : List Int) (ps : List Nat) (i : Nat) : L.Asg → Bool := fun x => (ps.take i).all fun p => !termsφ l [p] x
theorem neg_succ (l : List Int) (ps : List Nat) (i : Nat) (hi : i < ps.length) (x : L.Asg) : negφ l ps (i + 1) x = (!termsφ l [ps[i]] x && negφ l ps i x) := by
  unfold negφ
  rw [List.take_add_one, List.getElem?_eq_getElem hi, Option.toList_some, List.all_append, Bool.and_comm]
  simp
theorem neg_end (l : List Int) (ps : List Nat) (x : L.Asg) : (!negφ l ps ps.length x) = termsφ l ps x := by
  unfold negφ
  rw [List.take_length]
  induction ps with
  | nil => rfl
  | cons p r ih =>
    simp only [termsφ, List.all_cons, List.any_cons, List.any_nil, Bool.or_false] at ih ⊢
    rw [← ih]
    cases termφ l p x <;> simp

set_option maxRecDepth 100000 in
set_option maxHeartbeats 4000000 in
theorem canon_works {t : List VN} {ps : List Nat} (w : World) (ba bp : Option Addr) (cap cp : Nat) (hT : TzTab w) (hP : PowTab w) (h : t = [] ∨ ∃ b o, ba = some ⟨b, o, none⟩ ∧ TreeAt w b o t) (hn : fewB t = false ∨ 12 < ps.length) :
    Calls Tryd.prog 4 #[.slice ba t.length cap, .slice bp ps.length cp] w fun e w' => e = .returned (.bool true) ∧ Below w.heap.size w w' := by
  have hf := few_any w ba cap h
  have hw : ∀ w', Ext w w' → Calls Tryd.prog 7 #[] w' fun e w'' => e = .returned (.bool true) ∧ Below w'.heap.size w' w'' := fun w' hx => works_any w' (hT.same (hx.below.block _ hT.lt')) (hP.same (hx.below.block _ hP.lt))
  by_cases h0 : fewB t = false
  · rw [h0] at hf
    go_enter Tryd.func4, Tryd.ntmps4
    go_wp2_with fail
    refine hf.mono ?_
    rintro e w1 ⟨rfl, hx1⟩
    go_wp2_with fail
    refine (hw w1 hx1).mono ?_
    rintro e w2 ⟨rfl, hb2⟩
    go_wp2_with fail
    go_ret
    exact ⟨rfl, hx1.below.trans (hb2.mono hx1.size)⟩
  · have h1 : fewB t = true := by simpa using h0
    have h12 : 12 < ps.length := hn.resolve_left h0
    rw [h1] at hf
    have d1 : decide ((ps.length : Int) > 12) = true := decide_eq_true (by omega)
    go_enter Tryd.func4, Tryd.ntmps4
    go_wp2_with fail
    refine hf.mono ?_
    rintro e w1 ⟨rfl, hx1⟩
    go_wp2_with fail
    refine (hw w1 hx1).mono ?_
    rintro e w2 ⟨rfl, hb2⟩
    go_wp2_with fail
    go_ret
    exact ⟨rfl, hx1.below.trans (hb2.mono hx1.size)⟩
theorem InU.cap {w : World} {ba : Option Addr} {cap : Nat} {ps : List Nat} (h : InU w ba cap ps) {i : Nat} (hi : i < ps.length) : ps.length ≤ cap := by
  rcases h.2 with rfl | h
  · simp at hi
  · exact h.1
set_option maxRecDepth 100000 in
set_option maxHeartbeats 8000000 in
theorem canon_ok {t : List VN} {ps : List Nat} (w : World) (b o cap : Nat) (bp : Option Addr) (cp : Nat) (hT : TzTab w) (hP : PowTab w) (h : TreeAt w b o t) (hp : InU w bp cp ps) (hf : fewB t = true) (h12 : ps.length ≤ 12) :
    Calls Tryd.prog 4 #[.slice (some ⟨b, o, none⟩) t.length cap, .slice bp ps.length cp] w fun e w' => e = .returned (.bool true) ∧ Below w.heap.size w w' := by
  have hq := few_any w (some ⟨b, o, none⟩) cap (.inr ⟨b, o, rfl, h⟩)
  rw [hf] at hq
  unfold fewB at hf
  simp only [Bool.and_eq_true, decide_eq_true_eq] at hf
  obtain ⟨t0, t11, hc⟩ := hf
  obtain ⟨l, hl, hl6, _, hlv⟩ := vars_few hc t11
  have hpu := hp.1
  have hpc := fun i (hi : i < ps.length) => hp.cap hi
  have d1 : decide ((ps.length : Int) > 12) = false := decide_eq_false (by omega)
  replace hl := Lib.hid hl
  replace hc := Lib.hid hc
  replace h := Lib.hid h
  replace hp := Lib.hid hp
  go_enter Tryd.func4, Tryd.ntmps4
  go_wp2_with fail
  refine hq.mono ?_
  rintro e w1 ⟨rfl, hx1⟩
  have q1 := new_v w1 b o cap (hT.same (hx1.below.block _ hT.lt')) (hP.same (hx1.below.block _ hP.lt)) (h.out.ext hx1) hc.out t11
  clear hq
  go_wp2_with fail
  refine q1.mono ?_
  rintro e w2 ⟨B, rfl, hS2, hz2, ho2, hm2, hb2⟩
  have hbw2 := hx1.below.trans (hb2.mono hx1.size)
  have hmw : ∀ k ∈ B.mut, w.heap.size ≤ k := fun k hk => Nat.le_trans hx1.size (hm2 k hk)
  have q2 := refVars_any w2 b o cap l (h.out.below hbw2) t0 (by omega) hl.out
  replace hS2 := Lib.hid hS2
  clear q1 hx1 hb2 hm2
  go_wp2_with fail
  refine q2.mono ?_
  rintro e w3 ⟨vl, rfl, ho3, hb3⟩
  obtain ⟨B3, hsb, hR3, hS3, hSt⟩ := (hS2.out.below hb3).here
  obtain ⟨bl, cl, rfl, hkl⟩ := own_keep ho3 hR3
  have hmw3 : ∀ k ∈ B3.mut, w.heap.size ≤ k := fun k hk => (hSt.new k hk).elim (hmw k) (fun h => Nat.le_trans hbw2.size h)
  have hbw3 := hbw2.trans (hb3.mono hbw2.size)
  have hkp := hp.out.keep hbw3 hmw3
  have q3 := terms_v false (k' := 280000) (cl := cl) (cp := cp) hS3 hz2 ho2 (by omega) hkl hkp hl6 hlv hpu (by omega)
  rw [hsb] at q3
  have hi3 := hS3.inv
  replace hS3 := Lib.hid hS3
  clear q2 hb3 ho3 hR3 hSt hS2
  go_wp2_with fail
  refine q3.mono ?_
  rintro e w4 ⟨a, s4, rfl, hS4, hT4, hV4⟩
  have q4 := terms_v true (k' := 260000) (cl := cl) (cp := cp) hS4 (hz2.step hi3 hT4) (ho2.step hi3 hT4) (by omega) hkl hkp hl6 hlv hpu (by omega)
  rw [hsb] at q4
  have hi4 := hS4.inv
  replace hS4 := Lib.hid hS4
  clear q3
  go_wp2_with fail
  refine q4.mono ?_
  rintro e w5 ⟨a2, s5, rfl, hS5, hT5, hV5⟩
  obtain rfl : a = a2 := (hV4.step hi4 hT5).eq hS5.inv hV5 (fun _ => rfl)
  have h05 := (hz2.step hi3 hT4).step hi4 hT5
  have h15 := (ho2.step hi3 hT4).step hi4 hT5
  have hloop : Hid (∃ s', SS t B3 w3 (200000 + (ps.length - 0) * 1664) s' w5 ∧ Val s' 0 (fun _ => false) ∧ Val s' 1 (fun _ => true) ∧ Val s' a (termsφ l ps) ∧ Val s' 1 (negφ l ps 0)) := Lib.hid ⟨s5, hS5.less (by omega), h05, h15, hV5, h15⟩
  clear hS4 hS5 hV4 hV5 q4 hS3 hi3 hi4 hT4 hT5 h05 h15 hz2 ho2
  go_wp2_with fail
  go_loopw [12, 13] (fun cv iv wr => ∃ (i c : Nat), i ≤ ps.length ∧ iv = .int .i64 i ∧ cv = .int .i64 c ∧ Hid (∃ s', SS t B3 w3 (200000 + (ps.length - i) * 1664) s' wr ∧ Val s' 0 (fun _ => false) ∧ Val s' 1 (fun _ => true) ∧ Val s' a (termsφ l ps) ∧ Val s' c (negφ l ps i))) (fun _ iv _ => ps.length - (intOf iv).toNat)
  case atStart => exact ⟨0, 1, Nat.zero_le _, rfl, rfl, hloop⟩
  case round =>
    clear hloop
    obtain ⟨i, c, hi, rfl, rfl, hI⟩ := hrel
    obtain ⟨s6, hS6, h06, h16, hA6, hC6⟩ := hI.out
    clear hI
    by_cases hlt : i < ps.length
    · obtain ⟨b', oo, rfl, _⟩ := hkp.at hS6 (j := i) (by simpa using hlt)
      have hk1 := hkp.one (i := i) (by simpa using hlt)
      rw [List.getElem_map] at hk1
      have hcp := hpc i hlt
      have hi6 := hS6.inv
      have q5 := terms_v false (k' := 200000 + (ps.length - (i + 1)) * 1664 + 121) (ps := [ps[i]]) (cl := cl) (cp := cp - i) hS6 h06 h16 (by simp only [List.length_singleton]; omega) hkl hk1 hl6 hlv (fun p hp => by rw [List.mem_singleton] at hp; subst hp; exact hpu _ (List.getElem_mem ..)) (by simp)
      rw [hsb, List.length_singleton] at q5
      replace hS6 := Lib.hid hS6
      replace hkp := Lib.hid hkp
      replace hkl := Lib.hid hkl
      replace hk1 := Lib.hid hk1
      go_wp2_with fail
      refine q5.mono ?_
      rintro e w7 ⟨x, s7, rfl, hS7, hT7, hV7⟩
      have hi7 := hS7.inv
      have q6 := not_v (k' := 200000 + (ps.length - (i + 1)) * 1664 + 118) hS7 (by omega) hV7
      rw [hsb] at q6
      replace hS7 := Lib.hid hS7
      clear q5
      go_wp2_with fail
      refine q6.mono ?_
      rintro e w8 ⟨y, s8, rfl, hS8, hT8, hV8⟩
      have hi8 := hS8.inv
      have hT68 := hT7.trans hT8
      have q7 := and_v (k' := 200000 + (ps.length - (i + 1)) * 1664) hS8 (by omega) hV8 (hC6.step hi6 hT68)
      rw [hsb] at q7
      replace hS8 := Lib.hid hS8
      clear q6
      go_wp2_with fail
      refine q7.mono ?_
      rintro e w9 ⟨c9, s9, rfl, hS9, hT9, hV9⟩
      have hT69 := hT68.trans hT9
      have hnext : Hid (∃ s', SS t B3 w3 (200000 + (ps.length - (i + 1)) * 1664) s' w9 ∧ Val s' 0 (fun _ => false) ∧ Val s' 1 (fun _ => true) ∧ Val s' a (termsφ l ps) ∧ Val s' c9 (negφ l ps (i + 1))) := Lib.hid
        ⟨s9, hS9, h06.step hi6 hT69, h16.step hi6 hT69, hA6.step hi6 hT69, hV9.congr fun x => (neg_succ l ps i hlt x).symm⟩
      clear hS9 q7
      go_wp2_with fail
      go_roundw
      case rel => exact ⟨i + 1, c9, by omega, by go_num, rfl, hnext⟩
      case measure => simp [intOf]; omega
    · obtain rfl : i = ps.length := by omega
      have q5 := not_v (k' := 190000) hS6 (by omega) hC6
      rw [hsb] at q5
      have hi6 := hS6.inv
      replace hS6 := Lib.hid hS6
      go_wp2_with fail
      refine q5.mono ?_
      rintro e w7 ⟨d, s7, rfl, hS7, hT7, hV7⟩
      have hA7 := hA6.step hi6 hT7
      obtain rfl : a = d := hA7.eq hS7.inv hV7 (fun x => (neg_end l ps x).symm)
      have q6 := text_v hS7 hA7.lt
      rw [hsb] at q6
      replace hS7 := Lib.hid hS7
      clear q5
      go_wp2_with fail
      refine q6.mono ?_
      rintro e w8 ⟨rfl, hb8⟩
      have hS8 := hS7.out.below hb8
      have hbw8 := hS8.behind hbw3 hmw3 hbw3.size
      have hsz8 : w3.heap.size ≤ w8.heap.size := hS8.size
      have q7 := new_v w8 b o cap (hT.same (hbw8.block _ hT.lt')) (hP.same (hbw8.block _ hP.lt)) (h.out.below hbw8) hc.out t11
      have hkl8 := KeepR.stay hkl hS8 (B := B3) (fun _ _ h => h)
      have hiS7 := hS7.out.inv
      have htr7 := hS7.out.tree
      replace hkl8 := Lib.hid hkl8
      clear q6 hS8 hkl
      go_wp2_with fail
      refine q7.mono ?_
      rintro e w9 ⟨U, rfl, hS9, h09, h19, hm9, hb9⟩
      have hklU : KeepR U w9 bl (l.map encZ) := by
        rcases hkl8.out.lift hb9 with e | ⟨b', o', e, hn, hcl⟩
        · exact .inl e
        · by_cases h0 : l.map encZ = []
          · exact .inl h0
          · refine .inr ⟨b', o', e, fun hcm => ?_, hcl⟩
            rcases hkl8.out with e8 | ⟨b8, o8, e8, hn8, hc8⟩
            · exact h0 e8
            · rw [e] at e8; cases e8
              have h1 := World.block_lt_of_cell? w8 _ (hc8 0 (List.length_pos_iff.2 h0))
              have h2 := hm9 _ hcm
              have h1' : b' < w8.heap.size := h1
              omega
      have hbw9 := hbw8.trans (hb9.mono hbw8.size)
      have hmU : ∀ k ∈ U.mut, w.heap.size ≤ k := fun k hk => Nat.le_trans hbw8.size (hm9 k hk)
      have hkpU := hp.out.keep hbw9 hmU
      have q8 := terms_v true (k' := 200000) (cl := cl) (cp := cp) hS9 h09 h19 (by omega) hklU hkpU hl6 hlv hpu (by omega)
      replace hS9 := Lib.hid hS9
      replace hklU := Lib.hid hklU
      replace hkpU := Lib.hid hkpU
      clear q7
      go_wp2_with fail
      refine q8.mono ?_
      rintro e w10 ⟨v, s10, rfl, hS10, hT10, hV10⟩
      have q9 := text_v hS10 hV10.lt
      have htx : L.tx s10.nodes v = L.tx s7.nodes a := L.tx_eq hS10.inv hiS7 (htr7.trans hS10.tree.symm) v a hV10.lt hA7.lt (funext fun x => by rw [hV10.sem, hA7.sem])
      rw [htx] at q9
      replace hS10 := Lib.hid hS10
      replace htx := Lib.hid htx
      clear q8
      go_wp2_with fail
      refine q9.mono ?_
      rintro e w11 ⟨rfl, hb11⟩
      have hbw10 := hS10.out.behind hbw9 hmU hbw9.size
      have hbw11 := hbw10.trans (hb11.mono hbw10.size)
      have cw := works_any w11 (hT.same (hbw11.block _ hT.lt')) (hP.same (hbw11.block _ hP.lt))
      replace hbw11 := Lib.hid hbw11
      clear hbw10 hb11 hbw9 hbw8 hb9 hb8 q9
      generalize L.tx s7.nodes a = T at *
      go_wp2_with fail
      refine cw.mono ?_
      rintro e w12 ⟨rfl, hb12⟩
      go_wp2_with fail
      go_ret
      exact ⟨rfl, hbw11.out.trans (hb12.mono hbw11.out.size)⟩

/-- SddCanonical: true, and no old block turns -/
theorem canon_any {t : List VN} {ps : List Nat} (w : World) (ba bp : Option Addr) (cap cp : Nat) (hT : TzTab w) (hP : PowTab w) (h : t = [] ∨ ∃ b o, ba = some ⟨b, o, none⟩ ∧ TreeAt w b o t) (hp : InU w bp cp ps) :
    Calls Tryd.prog 4 #[.slice ba t.length cap, .slice bp ps.length cp] w fun e w' => e = .returned (.bool true) ∧ Below w.heap.size w w' := by
  by_cases hn : fewB t = false ∨ 12 < ps.length
  · exact canon_works w ba bp cap cp hT hP h hn
  · rw [not_or] at hn
    have hf : fewB t = true := by simpa using hn.1
    rcases h with rfl | ⟨b, o, rfl, ht⟩
    · cases hf
    · exact canon_ok w b o cap bp cp hT hP ht hp hf (by omega)
end Go.Proofs.YtgphkbnoflfneaaDoor
