import Derived.Test.YteikmmfjhabijaaGreatDoorRefuse
import Derived.Test.YteikmmfjhabijaaGreatDoorTab
import Derived.Test.YteikmmfjhabijaaGreatDoorCanon
set_option linter.unusedSimpArgs false
set_option linter.unusedVariables false
namespace Go.Proofs.YteikmmfjhabijaaGreatDoor
open Go Go.RowKit Go.Shelf

/-! SddErrors. -/
set_option maxRecDepth 100000 in
set_option maxHeartbeats 2000000 in
theorem refuses_any {p : Option Addr} {err : Int} {G : List Int → Prop} {w : World} {a l : Int} (hR : Refs p err G w) (g1 : G [a]) (g2 : G [a, 0]) (g3 : G [a, 1]) (he : (err != 0) = true) (hlit : ∀ W, Below w.heap.size w W → Calls Tryz.prog 34 #[.pointer p, .int .i64 l] W fun e w' => e = .returned (.tuple #[.int .i64 0, .int .i64 err]) ∧ Below W.heap.size W w') :
    Calls Tryz.prog 32 #[.pointer p, .int .i64 a, .int .i64 l, .int .i64 err] w fun e w' => e = .returned (.bool true) ∧ Below w.heap.size w w' := by
  have q1 := hlit w (Below.refl _ _)
  clear hlit
  go_enter Tryz.func32, Tryz.ntmps32
  go_wp2_with fail
  refine q1.mono ?_
  rintro e w1 ⟨rfl, b1⟩
  have q2 := not_ref (hR.ext b1) g1 he
  clear q1
  go_wp2_with fail
  refine q2.mono ?_
  rintro e w2 ⟨rfl, x2⟩
  have b2 := b1.trans (x2.below.mono b1.size)
  have q3 := and_ref (hR.ext b2) g2 he
  clear q2
  go_wp2_with fail
  refine q3.mono ?_
  rintro e w3 ⟨rfl, x3⟩
  have b3 := b2.trans (x3.below.mono b2.size)
  have q4 := or_ref (hR.ext b3) g3 he
  clear q3
  go_wp2_with fail
  refine q4.mono ?_
  rintro e w4 ⟨rfl, x4⟩
  have b4 := b3.trans (x4.below.mono b3.size)
  have q5 := at_ref (hR.ext b4) g1 he
  clear q4
  go_wp2_with fail
  refine q5.mono ?_
  rintro e w5 ⟨rfl, x5⟩
  have b5 := b4.trans (x5.below.mono b4.size)
  have q6 := elements_ref (hR.ext b5) g1 he
  clear q5
  go_wp2_with fail
  refine q6.mono ?_
  rintro e w6 ⟨rfl, x6⟩
  have b6 := b5.trans (x6.below.mono b5.size)
  have q7 := size_ref (hR.ext b6) g1 he
  clear q6
  go_wp2_with fail
  refine q7.mono ?_
  rintro e w7 ⟨rfl, x7⟩
  have b7 := b6.trans (x7.below.mono b6.size)
  have q8 := text_ref (hR.ext b7) g1 he
  clear q7
  go_wp2_with fail
  refine q8.mono ?_
  rintro e w8 ⟨rfl, x8⟩
  have b8 := b7.trans (x8.below.mono b7.size)
  have hrow := heap_alloc_new w8 (.cells #[.int .i64 a] 3)
  have b9 := b8.alloc b8.size (.cells #[.int .i64 a] 3)
  have q9 := keep_ref (hR.ext b9) (slI_one hrow) (by simp) g1 he
  clear q8 hrow
  go_wp2_with fail
  generalize w8.alloc (.cells #[.int .i64 a] 3) = w9 at *
  refine q9.mono ?_
  rintro e w10 ⟨rfl, x10⟩
  have b10 := b9.trans (x10.below.mono b9.size)
  clear q9 b1 b2 b3 b4 b5 b6 b7 b8 b9
  replace b10 := Lib.hid b10
  go_wp2_with fail
  go_ret
  exact ⟨rfl, b10.out⟩
theorem leaf_none {t : List VN} {v : Nat} (h : ¬ ∃ (u : Nat) (y : VN), t[u]? = some y ∧ y.left < 0 ∧ y.var = (v : Int)) : leafAt t v = none := by
  unfold leafAt
  rw [List.findIdx?_eq_none_iff]
  intro x hx
  obtain ⟨u, hu, rfl⟩ := List.getElem_of_mem hx
  cases hb : (decide (t[u].left < 0) && decide (t[u].var = (v : Int)))
  · rfl
  · simp only [Bool.and_eq_true, decide_eq_true_eq] at hb
    exact absurd ⟨u, _, List.getElem?_eq_getElem hu, hb.1, hb.2⟩ h
/-- a literal whose variable the store does not have -/
theorem litbad_v {t : List VN} {B0 : Blks} {w0 w : World} {k : Nat} {s : St} {l : Int} (h : SS t B0 w0 k s w) (hl : ¬ VarOf t (l.natAbs : Int)) :
    Calls Tryz.prog 34 #[.pointer (some ⟨B0.sb, 0, none⟩), .int .i64 l] w fun e w' => e = .returned (.tuple #[.int .i64 0, .int .i64 1]) ∧ Below w.heap.size w w' := by
  obtain ⟨B, hR, hS⟩ := h.held
  rw [← hS.sb]
  have hv0 : 0 ≤ varF l := by unfold varF; split <;> (try split) <;> omega
  obtain ⟨v, hv⟩ : ∃ v : Nat, varF l = v := ⟨(varF l).toNat, by omega⟩
  have hno : leafAt s.tree v = none := leaf_none fun ⟨u, y, h1, h2, h3⟩ => by
    rw [h.tree] at h1
    have hul := (List.getElem?_eq_some_iff.1 h1).1
    have hlf : leafB y = true := by
      cases hb : leafB y
      · obtain ⟨l', r', e1, _⟩ := L.inner_ok h.chk h1 hb
        omega
      · rfl
    have hr : 1 ≤ y.var ∧ y.var ≤ 128 := by
      simp only [leafB, Bool.and_eq_true, decide_eq_true_eq] at hlf
      exact hlf.2
    refine hl ⟨u, y, h1, hlf, ?_⟩
    rw [h3, ← hv]
    have : varF l ≠ 0 := by omega
    unfold varF at this ⊢
    split <;> rename_i c1
    · omega
    · rw [if_neg c1] at this
      split <;> rename_i c2
      · omega
      · rw [if_neg c2] at this; exact absurd rfl this
  have := lit_bad hR h.ne hv hno
  refine this.mono ?_
  rintro e w' ⟨rfl, hx⟩
  exact ⟨rfl, hx.below⟩
/-- at most nine places, valid -/
def nineB (t : List VN) : Bool := decide (0 < t.length) && (decide (t.length ≤ 9) && decide (checkF t = 0))
set_option maxRecDepth 100000 in
set_option maxHeartbeats 4000000 in
theorem errors_works {t : List VN} {a l x0 x1 : Int} (w : World) (ba : Option Addr) (cap : Nat) (hT : TzTab w) (hP : PowTab w) (h : t = [] ∨ ∃ b o, ba = some ⟨b, o, none⟩ ∧ TreeAt w b o t) (hn : nineB t = false) :
    Calls Tryz.prog 6 #[.slice ba t.length cap, .int .i64 a, .int .i64 l, .agg #[.int .u64 x0, .int .u64 x1]] w fun e w' => e = .returned (.bool true) ∧ Below w.heap.size w w' := by
  have hxb := (Ext.refl w).alloc (.cells #[.int .u64 x0, .int .u64 x1] 29)
  have hw : ∀ w', Ext w w' → Calls Tryz.prog 16 #[] w' fun e w'' => e = .returned (.bool true) ∧ Below w'.heap.size w' w'' := fun w' hx => works_any w' (hT.same (hx.below.block _ hT.lt')) (hP.same (hx.below.block _ hP.lt))
  by_cases h0 : 0 < t.length
  · by_cases h9 : t.length ≤ 9
    · have hck : checkF t ≠ 0 := fun e => by unfold nineB at hn; rw [decide_eq_true h0, decide_eq_true h9, decide_eq_true e] at hn; cases hn
      have d0 : ((t.length : Int) == 0) = false := by simp only [beq_eq_false_iff_ne, ne_eq]; omega
      have d1 : decide ((t.length : Int) > 9) = false := decide_eq_false (by omega)
      have hbt : t = [] ∨ ∃ b o, ba = some ⟨b, o, none⟩ ∧ TreeAt (w.alloc (.cells #[.int .u64 x0, .int .u64 x1] 29)) b o t := h.imp id (fun ⟨b, o, e, ht⟩ => ⟨b, o, e, ht.ext hxb⟩)
      have hq := refchk_any (w.alloc (.cells #[.int .u64 x0, .int .u64 x1] 29)) ba cap hbt (by omega)
      have dk : (checkF t != 0) = true := by simpa using hck
      generalize checkF t = z at *
      replace hck := Lib.hid hck
      clear hbt
      go_enter Tryz.func6, Tryz.ntmps6
      go_wp2_with fail
      refine hq.mono ?_
      rintro e w1 ⟨rfl, hx1⟩
      go_wp2_with fail
      refine (hw w1 (hxb.trans hx1)).mono ?_
      rintro e w2 ⟨rfl, hb2⟩
      go_wp2_with fail
      go_ret
      exact ⟨rfl, (hxb.trans hx1).below.trans (hb2.mono (hxb.trans hx1).size)⟩
    · have d0 : ((t.length : Int) == 0) = false := by simp only [beq_eq_false_iff_ne, ne_eq]; omega
      have d1 : decide ((t.length : Int) > 9) = true := decide_eq_true (by omega)
      go_enter Tryz.func6, Tryz.ntmps6
      go_wp2_with fail
      refine (hw _ hxb).mono ?_
      rintro e w2 ⟨rfl, hb2⟩
      go_wp2_with fail
      go_ret
      exact ⟨rfl, hxb.below.trans (hb2.mono hxb.size)⟩
  · obtain rfl : t = [] := List.length_eq_zero_iff.1 (by omega)
    go_enter Tryz.func6, Tryz.ntmps6
    go_wp2_with fail
    refine (hw _ hxb).mono ?_
    rintro e w2 ⟨rfl, hb2⟩
    go_wp2_with fail
    go_ret
    exact ⟨rfl, hxb.below.trans (hb2.mono hxb.size)⟩
set_option maxRecDepth 100000 in
set_option maxHeartbeats 8000000 in
theorem errors_ok {t : List VN} {a l x0 x1 : Int} (w : World) (b o cap : Nat) (hT : TzTab w) (hP : PowTab w) (h : TreeAt w b o t) (hf : nineB t = true) (ha : -9223372036854775808 ≤ a ∧ a ≤ 9223372036854775807) (hl : -9223372036854775808 ≤ l ∧ l ≤ 9223372036854775807) :
    Calls Tryz.prog 6 #[.slice (some ⟨b, o, none⟩) t.length cap, .int .i64 a, .int .i64 l, .agg #[.int .u64 x0, .int .u64 x1]] w fun e w' => e = .returned (.bool true) ∧ Below w.heap.size w w' := by
  unfold nineB at hf
  simp only [Bool.and_eq_true, decide_eq_true_eq] at hf
  obtain ⟨t0, t9, hc⟩ := hf
  obtain ⟨lv, hlv, hl6, hsb, hvo⟩ := vars_few hc (by omega)
  have hxb := (Ext.refl w).alloc (.cells #[.int .u64 x0, .int .u64 x1] 29)
  have hbox := heap_alloc_new w (.cells #[.int .u64 x0, .int .u64 x1] 29)
  have hsz1 : (w.alloc (.cells #[.int .u64 x0, .int .u64 x1] 29)).heap.size = w.heap.size + 1 := by simp
  have hq := refchk_any (w.alloc (.cells #[.int .u64 x0, .int .u64 x1] 29)) (some ⟨b, o, none⟩) cap (.inr ⟨b, o, rfl, h.ext hxb⟩) (by omega)
  rw [hc] at hq
  have d0 : ((t.length : Int) == 0) = false := by simp only [beq_eq_false_iff_ne, ne_eq]; omega
  have d1 : decide ((t.length : Int) > 9) = false := decide_eq_false (by omega)
  replace hlv := Lib.hid hlv
  replace hc := Lib.hid hc
  replace h := Lib.hid h
  replace hsb := Lib.hid hsb
  replace hvo := Lib.hid hvo
  replace hbox := Lib.hid hbox
  go_enter Tryz.func6, Tryz.ntmps6
  go_wp2_with fail
  generalize w.alloc (.cells #[.int .u64 x0, .int .u64 x1] 29) = w0 at *
  generalize hxx : w.heap.size = xb at *
  replace hxx := Lib.hid hxx
  refine hq.mono ?_
  rintro e w1 ⟨rfl, hx1⟩
  have hw1 : Ext w w1 := hxb.trans hx1
  have q1 := new_v w1 b o cap (hT.same (hw1.below.block _ hT.lt')) (hP.same (hw1.below.block _ hP.lt)) (h.out.ext hw1) hc.out (by omega)
  clear hq
  go_wp2_with fail
  refine q1.mono ?_
  rintro e w2 ⟨B, rfl, hS2, hz2, ho2, hm2, hb2⟩
  have hbw2 : Below w.heap.size w w2 := hw1.below.trans (hb2.mono hw1.size)
  have hmw : ∀ k ∈ B.mut, w.heap.size ≤ k := fun k hk => Nat.le_trans hw1.size (hm2 k hk)
  have hbx2 : w2.heap[xb]? = some (.cells #[.int .u64 x0, .int .u64 x1] 29 (0, 0)) := (hb2.block xb (by have := hx1.size; omega)).trans ((hx1.below.block xb (by omega)).trans hbox.out)
  -- nil stores
  have r1 := refuses_any (w := w2) (a := 0) (l := 1) (check_nil w2) trivial trivial trivial rfl (fun W hW => (lit_ref ((check_nil w2).ext hW) trivial rfl).mono fun e w' hh => ⟨hh.1, hh.2.below⟩)
  replace hS2 := Lib.hid hS2
  clear q1
  go_wp2_with fail
  refine r1.mono ?_
  rintro e w3 ⟨rfl, b3⟩
  have r2 := refuses_any (w := w3) (a := a) (l := l) (check_nil w3) trivial trivial trivial rfl (fun W hW => (lit_ref ((check_nil w3).ext hW) trivial rfl).mono fun e w' hh => ⟨hh.1, hh.2.below⟩)
  clear r1
  go_wp2_with fail
  refine r2.mono ?_
  rintro e w4 ⟨rfl, b4⟩
  have b24 := b3.trans (b4.mono b3.size)
  have hbx4 := (b24.block xb (Array.getElem?_eq_some_iff.1 hbx2).1).trans hbx2
  obtain ⟨y0, y1⟩ := pbox_cells hbx4
  have r3 := eval_ref (a := a) (x := x0) (y := x1) (check_nil w4) trivial rfl
  replace hbx2 := Lib.hid hbx2
  replace hbx4 := Lib.hid hbx4
  clear r2
  go_wp2_with fail
  refine r3.mono ?_
  rintro e w5 ⟨rfl, x5⟩
  have r4 := tree_nil w5
  clear r3 y0 y1
  go_wp2_with fail
  refine r4.mono ?_
  rintro e w6 ⟨rfl, rfl⟩
  have b25 := b24.trans (x5.below.mono b24.size)
  have hrow := heap_alloc_new w5 (.cells #[.slice none 0 0, .map none, .slice none 0 0, .map none, .map none, .map none] 70)
  have b27 := b25.trans (((Below.refl _ _).alloc (Nat.le_refl _) (.cells #[.slice none 0 0, .map none, .slice none 0 0, .map none, .map none, .map none] 70)).mono b25.size)
  have hz0 : (w5.alloc (.cells #[.slice none 0 0, .map none, .slice none 0 0, .map none, .map none, .map none] 70)).cell? ⟨w5.heap.size, 0, none⟩ = some (.slice none 0 0) := by rw [World.cell?, hrow]; rfl
  have hRz := check_zero hz0
  have r5 := refuses_any (a := 0) (l := 1) hRz trivial trivial trivial rfl (fun W hW => (lit_ref (hRz.ext hW) trivial rfl).mono fun e w' hh => ⟨hh.1, hh.2.below⟩)
  have hxbl : xb < w2.heap.size := (Array.getElem?_eq_some_iff.1 hbx2.out).1
  have hxbm : xb ∉ B.mut := fun hcm => by
    have := hm2 xb hcm
    have := hx1.size
    omega
  clear r4 hrow hz0 hRz
  go_wp2_with fail
  generalize w5.alloc (.cells #[.slice none 0 0, .map none, .slice none 0 0, .map none, .map none, .map none] 70) = w7 at *
  refine r5.mono ?_
  rintro e w8 ⟨rfl, b8⟩
  have b28 := b27.trans (b8.mono b27.size)
  have hS8 := hS2.out.below b28
  clear r5
  by_cases hvar : VarOf t (l.natAbs : Int)
  · have hlr := hvar.range
    have q8 := lit_v (l := l) hS8 hvar
    have hlmem : (l.natAbs : Int) ∈ lv := (hsb.out.mem _).2 (by
      obtain ⟨u, y, h1, h2, h3⟩ := hvar
      exact ⟨u, y, h1, h2, h3, L.Und.root hc.out t.length u (List.getElem?_eq_some_iff.1 h1).1 (by omega)⟩)
    obtain ⟨k, hk, hkz⟩ := List.getElem_of_mem hlmem
    have hnd : (l.natAbs : Int) ∉ lv.take k := fun hmem => by
      obtain ⟨j, hj, hjz⟩ := List.mem_take_iff_getElem.1 hmem
      have := (List.pairwise_iff_getElem.1 hsb.out.sorted) j k (by omega) hk (by omega)
      omega
    replace hS8 := Lib.hid hS8
    replace hvar := Lib.hid hvar
    replace hkz := Lib.hid hkz
    replace hnd := Lib.hid hnd
    go_wp2_with fail
    refine q8.mono ?_
    rintro e w9 ⟨r9, s10, rfl, hS10', hT10, _⟩
    have hbw9 := hS10'.behind hbw2 hmw hbw2.size
    have q9 := refVars_any w9 b o cap lv (h.out.below hbw9) t0 (by omega) hlv.out
    replace hS10' := Lib.hid hS10'
    clear q8
    go_wp2_with fail
    refine q9.mono ?_
    rintro e w10 ⟨vl, rfl, ho10, hb10⟩
    have hS10 := hS10'.out.below hb10
    have qz := tlit_ok (z := l) (owns_slI ho10) hl6 hk hkz.out hnd.out (by omega) (by omega)
    clear q9 ho10
    replace hS10 := Lib.hid hS10
    go_wp2_with fail
    refine qz.mono ?_
    rintro e w11 ⟨vt, rfl, gt, ct, cst, he, _, _, _, hb11⟩
    cases he
    have hS11 := hS10.out.below hb11
    have hbw11 := hS11.behind hbw2 hmw hbw2.size
    replace hS10 := hS10.out
    have hlen10 := hS10.room.len
    by_cases hin : 0 ≤ a ∧ a < 1048576
    · have e1 : decide (a ≥ 0) = true := decide_eq_true hin.1
      have e2 : decide (a < 1048576) = true := decide_eq_true hin.2
      have cw := works_any w11 (hT.same (hbw11.block _ hT.lt')) (hP.same (hbw11.block _ hP.lt))
      replace hbw11 := Lib.hid hbw11
      clear qz
      go_wp2_with fail
      refine cw.mono ?_
      rintro e w12 ⟨rfl, hb12⟩
      go_wp2_with fail
      go_ret
      exact ⟨rfl, hbw11.out.trans (hb12.mono hbw11.out.size)⟩
    · have hbad : ¬ (0 ≤ a ∧ a < s10.nodes.length) := fun hh => hin (by omega)
      have e1 : (decide (a ≥ 0) = false) ∨ (decide (a ≥ 0) = true ∧ decide (a < 1048576) = false) := by
        by_cases h1 : 0 ≤ a
        · exact .inr ⟨decide_eq_true h1, decide_eq_false (by omega)⟩
        · exact .inl (decide_eq_false h1)
      have hR11 := check_bad hS11 a hbad
      have z1 := and_ref (a := 0) (b := a) hR11 (by simp) rfl
      replace hbad := Lib.hid hbad
      replace hbw11 := Lib.hid hbw11
      replace hS11 := Lib.hid hS11
      replace hS10 := Lib.hid hS10
      clear qz
      rcases e1 with e1 | ⟨e1, e2⟩
      all_goals
        go_wp2_with fail
        refine z1.mono ?_
        rintro e w12 ⟨rfl, hx12⟩
        have b12 := hx12.below
        have hrow := heap_alloc_new w12 (.cells #[.int .i64 0, .int .i64 a] 3)
        have b13 := b12.trans (((Below.refl _ _).alloc (Nat.le_refl _) (.cells #[.int .i64 0, .int .i64 a] 3)).mono b12.size)
        have z2 := keep_ref (hR11.ext b13) (slI_two hrow) (by simp) (by simp) rfl
        clear z1 hrow
        go_wp2_with fail
        generalize w12.alloc (.cells #[.int .i64 0, .int .i64 a] 3) = w13 at *
        refine z2.mono ?_
        rintro e w14 ⟨rfl, hx14⟩
        have b14 := b13.trans (hx14.below.mono b13.size)
        have hS14 := hS11.out.below b14
        have z3 := refuses_any (a := a) (l := 0) (hR11.ext b14) (by simp) (by simp) (by simp) rfl (fun W hW => litbad_v (l := 0) (hS14.below hW) (fun hv => by have := hv.range; simp at this))
        replace hS14 := Lib.hid hS14
        clear z2
        go_wp2_with fail
        refine z3.mono ?_
        rintro e w15 ⟨rfl, b15⟩
        have b15' := b14.trans (b15.mono b14.size)
        have hS15 := hS11.out.below b15'
        have hbx15 := (hS15.block hxbl hxbm).trans hbx2.out
        obtain ⟨y0, y1⟩ := pbox_cells hbx15
        have z4 := eval_ref (a := a) (x := x0) (y := x1) (hR11.ext b15') (by simp) rfl
        replace hS15 := Lib.hid hS15
        replace hbx15 := Lib.hid hbx15
        clear z3
        go_wp2_with fail
        refine z4.mono ?_
        rintro e w16 ⟨rfl, hx16⟩
        have hS16 := hS15.out.below hx16.below
        have hbw16 := hS16.behind hbw2 hmw hbw2.size
        have cw := works_any w16 (hT.same (hbw16.block _ hT.lt')) (hP.same (hbw16.block _ hP.lt))
        replace hS16 := Lib.hid hS16
        replace hbw16 := Lib.hid hbw16
        clear z4 y0 y1
        go_wp2_with fail
        refine cw.mono ?_
        rintro e w17 ⟨rfl, hb17⟩
        go_wp2_with fail
        go_ret
        exact ⟨rfl, hbw16.out.trans (hb17.mono hbw16.out.size)⟩
  · have q8 := litbad_v (l := l) hS8 hvar
    replace hvar := Lib.hid hvar
    replace hS8 := Lib.hid hS8
    go_wp2_with fail
    refine q8.mono ?_
    rintro e w9 ⟨rfl, hb9⟩
    have hS10' := hS8.out.below hb9
    have hbw9 := hS10'.behind hbw2 hmw hbw2.size
    have q9 := refVars_any w9 b o cap lv (h.out.below hbw9) t0 (by omega) hlv.out
    replace hS10' := Lib.hid hS10'
    clear q8
    go_wp2_with fail
    refine q9.mono ?_
    rintro e w10 ⟨vl, rfl, ho10, hb10⟩
    have hS10 := hS10'.out.below hb10
    have qz := tlit_no (z := l) (owns_slI ho10) hl6 (fun x hx => by
      have hv := hvo.out x hx
      refine ⟨hv.range, fun e => hvar.out ?_, fun e => hvar.out ?_⟩
      · have := hv.range
        rwa [show ((l.natAbs : Nat) : Int) = x by omega]
      · have := hv.range
        rwa [show ((l.natAbs : Nat) : Int) = x by omega]) hl
    obtain ⟨s10, hs10⟩ : ∃ s10, s10 = newSt t := ⟨_, rfl⟩
    rw [← hs10] at hS10
    replace hs10 := Lib.hid hs10
    clear q9 ho10
    replace hS10 := Lib.hid hS10
    go_wp2_with fail
    refine qz.mono ?_
    rintro e w11 ⟨rfl, rfl⟩
    have hS11 := hS10.out
    have hbw10 := hS11.behind hbw2 hmw hbw2.size
    replace hS10 := hS10.out
    have hlen10 := hS10.room.len
    by_cases hin : 0 ≤ a ∧ a < 1048576
    · have e1 : decide (a ≥ 0) = true := decide_eq_true hin.1
      have e2 : decide (a < 1048576) = true := decide_eq_true hin.2
      have cw := works_any w10 (hT.same (hbw10.block _ hT.lt')) (hP.same (hbw10.block _ hP.lt))
      replace hbw10 := Lib.hid hbw10
      clear qz
      go_wp2_with fail
      refine cw.mono ?_
      rintro e w12 ⟨rfl, hb12⟩
      go_wp2_with fail
      go_ret
      exact ⟨rfl, hbw10.out.trans (hb12.mono hbw10.out.size)⟩
    · have hbad : ¬ (0 ≤ a ∧ a < s10.nodes.length) := fun hh => hin (by omega)
      have e1 : (decide (a ≥ 0) = false) ∨ (decide (a ≥ 0) = true ∧ decide (a < 1048576) = false) := by
        by_cases h1 : 0 ≤ a
        · exact .inr ⟨decide_eq_true h1, decide_eq_false (by omega)⟩
        · exact .inl (decide_eq_false h1)
      have hR11 := check_bad hS11 a hbad
      have z1 := and_ref (a := 0) (b := a) hR11 (by simp) rfl
      replace hbad := Lib.hid hbad
      replace hbw10 := Lib.hid hbw10
      replace hS11 := Lib.hid hS11
      replace hS10 := Lib.hid hS10
      clear qz
      rcases e1 with e1 | ⟨e1, e2⟩
      all_goals
        go_wp2_with fail
        refine z1.mono ?_
        rintro e w12 ⟨rfl, hx12⟩
        have b12 := hx12.below
        have hrow := heap_alloc_new w12 (.cells #[.int .i64 0, .int .i64 a] 3)
        have b13 := b12.trans (((Below.refl _ _).alloc (Nat.le_refl _) (.cells #[.int .i64 0, .int .i64 a] 3)).mono b12.size)
        have z2 := keep_ref (hR11.ext b13) (slI_two hrow) (by simp) (by simp) rfl
        clear z1 hrow
        go_wp2_with fail
        generalize w12.alloc (.cells #[.int .i64 0, .int .i64 a] 3) = w13 at *
        refine z2.mono ?_
        rintro e w14 ⟨rfl, hx14⟩
        have b14 := b13.trans (hx14.below.mono b13.size)
        have hS14 := hS11.out.below b14
        have z3 := refuses_any (a := a) (l := 0) (hR11.ext b14) (by simp) (by simp) (by simp) rfl (fun W hW => litbad_v (l := 0) (hS14.below hW) (fun hv => by have := hv.range; simp at this))
        replace hS14 := Lib.hid hS14
        clear z2
        go_wp2_with fail
        refine z3.mono ?_
        rintro e w15 ⟨rfl, b15⟩
        have b15' := b14.trans (b15.mono b14.size)
        have hS15 := hS11.out.below b15'
        have hbx15 := (hS15.block hxbl hxbm).trans hbx2.out
        obtain ⟨y0, y1⟩ := pbox_cells hbx15
        have z4 := eval_ref (a := a) (x := x0) (y := x1) (hR11.ext b15') (by simp) rfl
        replace hS15 := Lib.hid hS15
        replace hbx15 := Lib.hid hbx15
        clear z3
        go_wp2_with fail
        refine z4.mono ?_
        rintro e w16 ⟨rfl, hx16⟩
        have hS16 := hS15.out.below hx16.below
        have hbw16 := hS16.behind hbw2 hmw hbw2.size
        have cw := works_any w16 (hT.same (hbw16.block _ hT.lt')) (hP.same (hbw16.block _ hP.lt))
        replace hS16 := Lib.hid hS16
        replace hbw16 := Lib.hid hbw16
        clear z4 y0 y1
        go_wp2_with fail
        refine cw.mono ?_
        rintro e w17 ⟨rfl, hb17⟩
        go_wp2_with fail
        go_ret
        exact ⟨rfl, hbw16.out.trans (hb17.mono hbw16.out.size)⟩
theorem errors_any {t : List VN} {a l x0 x1 : Int} (w : World) (ba : Option Addr) (cap : Nat) (hT : TzTab w) (hP : PowTab w) (h : t = [] ∨ ∃ b o, ba = some ⟨b, o, none⟩ ∧ TreeAt w b o t) (ha : -9223372036854775808 ≤ a ∧ a ≤ 9223372036854775807) (hl : -9223372036854775808 ≤ l ∧ l ≤ 9223372036854775807) :
    Calls Tryz.prog 6 #[.slice ba t.length cap, .int .i64 a, .int .i64 l, .agg #[.int .u64 x0, .int .u64 x1]] w fun e w' => e = .returned (.bool true) ∧ Below w.heap.size w w' := by
  cases hn : nineB t
  · exact errors_works w ba cap hT hP h hn
  · rcases h with rfl | ⟨b, o, rfl, ht⟩
    · cases hn
    · exact errors_ok w b o cap hT hP ht hn ha hl
end Go.Proofs.YteikmmfjhabijaaGreatDoor
