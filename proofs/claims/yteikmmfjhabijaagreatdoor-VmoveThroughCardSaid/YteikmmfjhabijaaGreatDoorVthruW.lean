import Derived.Test.YteikmmfjhabijaaGreatDoorVcopy
set_option linter.unusedSimpArgs false
set_option linter.unusedVariables false
namespace Go.Proofs.YteikmmfjhabijaaGreatDoor
open Go Go.RowKit Go.Shelf

/-! VmoveThrough: through another vtree. -/
set_option maxRecDepth 100000 in
set_option maxHeartbeats 2000000 in
theorem alike_any {t u : List VN} {l m : List Int} (w : World) (b o c b' o' c' : Nat) (ht : TreeAt w b o t) (hu : TreeAt w b' o' u) (ht0 : 0 < t.length) (hu0 : 0 < u.length) (htl : t.length ≤ 1048576) (hul : u.length ≤ 1048576) (hl : varsR t = some l) (hm : varsR u = some m) (hll : l.length ≤ 1000) (hml : m.length ≤ 1000) :
    Calls Tryz.prog 45 #[.slice (some ⟨b, o, none⟩) t.length c, .slice (some ⟨b', o', none⟩) u.length c'] w fun e w' => e = .returned (.bool (decide (l = m))) ∧ Below w.heap.size w w' := by
  generalize hD : decide (l = m) = D at *
  replace hD := Lib.hid hD
  have q1 := refVars_any w b o c l ht ht0 htl hl
  have q2 := fun W (hb : Below w.heap.size w W) => refVars_any W b' o' c' m (hu.below hb) hu0 hul hm
  replace q2 := Lib.hid q2
  clear ht hu hl hm
  go_enter Tryz.func45, Tryz.ntmps45
  go_wp2_with fail
  refine q1.mono ?_
  rintro e w1 ⟨v1, rfl, hr1, hb1⟩
  have q3 := q2.out w1 hb1
  clear q1
  replace hr1 := Lib.hid hr1
  go_wp2_with fail
  refine q3.mono ?_
  rintro e w2 ⟨v2, rfl, hr2, hb2⟩
  obtain ⟨ba, ca, rfl, h1⟩ := owns_slI (own_lift hr1.out hb2)
  obtain ⟨bb, cb, rfl, h2⟩ := owns_slI hr2
  have hb12 := hb1.trans (hb2.mono hb1.size)
  replace h1 := Lib.hid h1
  replace h2 := Lib.hid h2
  clear q3 hr1 hr2
  by_cases hlen : l.length = m.length
  · have dn : ((l.length : Int) != (m.length : Int)) = false := by simp [hlen]
    go_wp2_with fail
    have h0 : Hid (Ext w2 w2 ∧ l.take 0 = m.take 0) := Lib.hid ⟨Ext.refl _, rfl⟩
    go_loopw [7] (fun i wr => ∃ k : Nat, k ≤ l.length ∧ i = .int .i64 (k : Nat) ∧ Hid (Ext w2 wr ∧ l.take k = m.take k)) (fun i _ => l.length - (intOf i).toNat)
    case atStart => exact ⟨0, Nat.zero_le _, rfl, h0⟩
    case round =>
      clear h0
      obtain ⟨k, hk, rfl, hI⟩ := hrel
      by_cases hlt : k < l.length
      · have dlt : decide ((k : Int) < (l.length : Int)) = true := decide_eq_true (by omega)
        have hlm : k < m.length := by omega
        obtain ⟨b1, o1, e1, g1⟩ := h1.out.resolve_left (fun e => by have := e.2.1; rw [this] at hlt; simp at hlt)
        obtain ⟨b2, o2, e2, g2⟩ := h2.out.resolve_left (fun e => by have := e.2.1; rw [this] at hlm; simp at hlm)
        subst e1 e2
        have c1 := hI.out.1.cell (g1 k hlt)
        have c2 := hI.out.1.cell (g2 k hlm)
        have hlk : l.take (k + 1) = l.take k ++ [l[k]] := by rw [List.take_add_one, List.getElem?_eq_getElem hlt]; rfl
        have hmk : m.take (k + 1) = m.take k ++ [m[k]] := by rw [List.take_add_one, List.getElem?_eq_getElem hlm]; rfl
        have hne : l[k] ≠ m[k] → ¬ l = m := fun h e => by subst e; exact h rfl
        generalize l[k] = x at *
        generalize m[k] = y at *
        have i0 : (0 : Int) ≤ k := by omega
        have i1 : (k : Int) < l.length := by omega
        have i2 : (k : Int) < m.length := by omega
        have F1 := Lib.hid fun (W : World) (hW : Ext wr W) => And.intro (hW.cell c1) (hW.cell c2)
        replace hlk := Lib.hid hlk
        replace hmk := Lib.hid hmk
        replace hlen := Lib.hid hlen
        clear c1 c2 g1 g2
        by_cases hxy : x = y
        · subst hxy
          clear hne
          go_wp2_with fail
          (refine wp_region_below (by kernel_rfl) (by kernel_rfl) ?_
           repeat (refine wpQuiet_step (fun K hK => ?_)
                   go_simp
                   first
                     | (refine hK _ ?_; clear hK K)
                     | (replace hK := Lib.hid hK
                        apply Exists.intro
                        refine ⟨fun wq hq => ?_, hK.out _ ?_⟩
                        · (obtain ⟨f1, f2⟩ := F1.out wq hq)
                          go_simp
                          first
                            | done
                            | rfl
                            | exact ⟨rfl, rfl⟩
                            | fail
                        clear hK K))
           refine wpQuiet_nil ?_)
          intro w5 hx5
          go_wp2_with fail
          go_roundw
          case rel => exact ⟨k + 1, by omega, by go_num, Lib.hid ⟨hI.out.1.trans hx5, by rw [hlk.out, hmk.out, hI.out.2]⟩⟩
          case measure => simp [intOf]; omega
        · have hDf := Lib.hid (hD.out.symm.trans (decide_eq_false (hne hxy)))
          have dxy : (x != y) = true := by simpa using hxy
          replace hne := Lib.hid hne
          go_wp2_with fail
          (refine wp_region_below (by kernel_rfl) (by kernel_rfl) ?_
           repeat (refine wpQuiet_step (fun K hK => ?_)
                   go_simp
                   first
                     | (refine hK _ ?_; clear hK K)
                     | (replace hK := Lib.hid hK
                        apply Exists.intro
                        refine ⟨fun wq hq => ?_, hK.out _ ?_⟩
                        · (obtain ⟨f1, f2⟩ := F1.out wq hq)
                          go_simp
                          first
                            | done
                            | rfl
                            | exact ⟨rfl, rfl⟩
                            | fail
                        clear hK K))
           refine wpQuiet_nil ?_)
          intro w5 hx5
          go_wp2_with fail
          go_ret
          exact ⟨by rw [hDf.out]; rfl, hb12.trans ((hI.out.1.trans hx5).below.mono hb12.size)⟩
      · have dlt : decide ((k : Int) < (l.length : Int)) = false := decide_eq_false (by omega)
        have hDt := Lib.hid (hD.out.symm.trans (decide_eq_true (by
          have := hI.out.2
          rwa [List.take_of_length_le (by omega), List.take_of_length_le (by omega)] at this)))
        go_wp2_with fail
        go_ret
        exact ⟨by rw [hDt.out]; rfl, hb12.trans (hI.out.1.below.mono hb12.size)⟩
  · have dn : ((l.length : Int) != (m.length : Int)) = true := by simp; omega
    have hDf := Lib.hid (hD.out.symm.trans (decide_eq_false fun e => hlen (by rw [e])))
    go_wp2_with fail
    go_ret
    exact ⟨by rw [hDf.out]; rfl, hb12⟩
theorem varsOf_mem {t : List VN} (hc : checkF t = 0) {l : List Int} (hl : L.SortedBel t (t.length - 1) l) (v : Int) : v ∈ l ↔ VarOf t v := by rw [hl.mem, bel_root hc]
theorem vars_same {t u : List VN} (hc : checkF t = 0) (hd : checkF u = 0) {l m : List Int} (hl : L.SortedBel t (t.length - 1) l) (hm : L.SortedBel u (u.length - 1) m) : (l = m) ↔ ∀ v, VarOf t v ↔ VarOf u v := by
  constructor
  · rintro rfl v
    rw [← varsOf_mem hc hl, ← varsOf_mem hd hm]
  · intro h
    exact L.sorted_eq (lt := fun a b : Int => decide (a < b)) (fun a b h1 h2 => by simp at h1 h2; omega) l m (hl.sorted.imp fun h => by simpa using h) (hm.sorted.imp fun h => by simpa using h) fun v => by rw [varsOf_mem hc hl, varsOf_mem hd hm]; exact h v
/-- what is asked of the three vtrees -/
structure Thru (t u v : List VN) : Prop where
  ft : few7 t = true
  fu : few7 u = true
  fv : few7 v = true
  tu : varsR t = varsR u
  tv : varsR t = varsR v
theorem few7_vars {t : List VN} (hf : few7 t = true) : 0 < t.length ∧ t.length ≤ 7 ∧ checkF t = 0 ∧ ∃ l, varsR t = some l ∧ l.length ≤ 6 ∧ L.SortedBel t (t.length - 1) l := by
  obtain ⟨h7, hc⟩ := few7_parts hf
  obtain ⟨l, h1, h2, h3, _⟩ := vars_few hc (by omega)
  exact ⟨(check_ok hc).1, h7, hc, l, h1, h2, h3⟩
set_option maxRecDepth 100000 in
set_option maxHeartbeats 8000000 in
theorem vthru_works {t u v : List VN} {bits : Nat} (w : World) (ba bb bc : Option Addr) (ca cb cc : Nat) (hT : TzTab w) (hP : PowTab w) (ht : t = [] ∨ ∃ b o, ba = some ⟨b, o, none⟩ ∧ TreeAt w b o t) (hu : u = [] ∨ ∃ b o, bb = some ⟨b, o, none⟩ ∧ TreeAt w b o u) (hv : v = [] ∨ ∃ b o, bc = some ⟨b, o, none⟩ ∧ TreeAt w b o v) (hn : ¬ Thru t u v) :
    Calls Tryz.prog 10 #[.slice ba t.length ca, .slice bb u.length cb, .slice bc v.length cc, .int .u16 (bits : Nat)] w fun e w' => e = .returned (.bool true) ∧ Below w.heap.size w w' := by
  have hw : ∀ w', Below w.heap.size w w' → Calls Tryz.prog 37 #[] w' fun e w'' => e = .returned (.bool true) ∧ Below w'.heap.size w' w'' := fun w' hx => vworks_any w' (hT.same (hx.block _ hT.lt')) (hP.same (hx.block _ hP.lt))
  have q1 := few7_any w ba ca ht
  have q2 := fun W (hb : Below w.heap.size w W) => few7_any W bb cb (hu.imp id (fun ⟨b, o, e, h⟩ => ⟨b, o, e, h.below hb⟩))
  have q3 := fun W (hb : Below w.heap.size w W) => few7_any W bc cc (hv.imp id (fun ⟨b, o, e, h⟩ => ⟨b, o, e, h.below hb⟩))
  replace hw := Lib.hid hw
  cases h1 : few7 t
  · rw [h1] at q1
    replace q2 := Lib.hid q2
    replace q3 := Lib.hid q3
    replace h1 := Lib.hid h1
    go_enter Tryz.func10, Tryz.ntmps10
    go_wp2_with fail
    refine q1.mono ?_
    rintro e w1 ⟨rfl, hx1⟩
    have b1 := hx1.below
    clear q1
    have q := hw.out _ b1
    go_wp2_with fail
    refine q.mono ?_
    rintro e w9 ⟨rfl, hb9⟩
    go_wp2_with fail
    go_ret
    exact ⟨rfl, b1.trans (hb9.mono b1.size)⟩
  rw [h1] at q1
  obtain ⟨t0, t7, tc, lt, hlt, ltl, hlts⟩ := few7_vars h1
  obtain ⟨tb, to, rfl, hta⟩ := tree_some tc ht
  cases h2 : few7 u
  · rw [h2] at q2
    replace q2 := Lib.hid q2
    replace q3 := Lib.hid q3
    replace h1 := Lib.hid h1
    replace h2 := Lib.hid h2
    clear tc hlt
    go_enter Tryz.func10, Tryz.ntmps10
    go_wp2_with fail
    refine q1.mono ?_
    rintro e w1 ⟨rfl, hx1⟩
    have b1 := hx1.below
    clear q1
    have q2' := q2.out w1 b1
    go_wp2_with fail
    refine q2'.mono ?_
    rintro e w2 ⟨rfl, hx2⟩
    have b2 := b1.trans (hx2.below.mono b1.size)
    clear q2'
    have q := hw.out _ b2
    go_wp2_with fail
    refine q.mono ?_
    rintro e w9 ⟨rfl, hb9⟩
    go_wp2_with fail
    go_ret
    exact ⟨rfl, b2.trans (hb9.mono b2.size)⟩
  rw [h2] at q2
  obtain ⟨u0, u7, uc, lu, hlu, lul, hlus⟩ := few7_vars h2
  obtain ⟨ub, uo, rfl, hua⟩ := tree_some uc hu
  cases h3 : few7 v
  · rw [h3] at q3
    replace q2 := Lib.hid q2
    replace q3 := Lib.hid q3
    replace h1 := Lib.hid h1
    replace h2 := Lib.hid h2
    replace h3 := Lib.hid h3
    clear tc hlt uc hlu
    go_enter Tryz.func10, Tryz.ntmps10
    go_wp2_with fail
    refine q1.mono ?_
    rintro e w1 ⟨rfl, hx1⟩
    have b1 := hx1.below
    clear q1
    have q2' := q2.out w1 b1
    go_wp2_with fail
    refine q2'.mono ?_
    rintro e w2 ⟨rfl, hx2⟩
    have b2 := b1.trans (hx2.below.mono b1.size)
    have q3' := q3.out w2 b2
    clear q2'
    go_wp2_with fail
    refine q3'.mono ?_
    rintro e w3 ⟨rfl, hx3⟩
    have b3 := b2.trans (hx3.below.mono b2.size)
    clear q3'
    have q := hw.out _ b3
    go_wp2_with fail
    refine q.mono ?_
    rintro e w9 ⟨rfl, hb9⟩
    go_wp2_with fail
    go_ret
    exact ⟨rfl, b3.trans (hb9.mono b3.size)⟩
  rw [h3] at q3
  obtain ⟨v0, v7, vc, lv, hlv, lvl, hlvs⟩ := few7_vars h3
  obtain ⟨vb, vo, rfl, hva⟩ := tree_some vc hv
  have q4 := fun W (hb : Below w.heap.size w W) => alike_any W tb to ca ub uo cb (hta.below hb) (hua.below hb) t0 u0 (by omega) (by omega) hlt hlu (by omega) (by omega)
  have q5 := fun W (hb : Below w.heap.size w W) => alike_any W tb to ca vb vo cc (hta.below hb) (hva.below hb) t0 v0 (by omega) (by omega) hlt hlv (by omega) (by omega)
  have hne : ¬ (lt = lu ∧ lt = lv) := fun ⟨e1, e2⟩ => hn ⟨h1, h2, h3, by rw [hlt, hlu, e1], by rw [hlt, hlv, e2]⟩
  replace q2 := Lib.hid q2
  replace q3 := Lib.hid q3
  replace h1 := Lib.hid h1
  replace h2 := Lib.hid h2
  replace h3 := Lib.hid h3
  clear hlts hlus hlvs ltl lul lvl
  by_cases h4 : lt = lu
  · have h5 : ¬ lt = lv := fun e => hne ⟨h4, e⟩
    rw [decide_eq_true h4] at q4
    rw [decide_eq_false h5] at q5
    replace q4 := Lib.hid q4
    replace q5 := Lib.hid q5
    replace h5 := Lib.hid h5
    clear tc hlt uc hlu vc hlv h4 hne
    go_enter Tryz.func10, Tryz.ntmps10
    go_wp2_with fail
    refine q1.mono ?_
    rintro e w1 ⟨rfl, hx1⟩
    have b1 := hx1.below
    clear q1
    have q2' := q2.out w1 b1
    go_wp2_with fail
    refine q2'.mono ?_
    rintro e w2 ⟨rfl, hx2⟩
    have b2 := b1.trans (hx2.below.mono b1.size)
    have q3' := q3.out w2 b2
    clear q2'
    go_wp2_with fail
    refine q3'.mono ?_
    rintro e w3 ⟨rfl, hx3⟩
    have b3 := b2.trans (hx3.below.mono b2.size)
    have q4' := q4.out w3 b3
    clear q3'
    go_wp2_with fail
    refine q4'.mono ?_
    rintro e w4 ⟨rfl, hb4⟩
    have b4 := b3.trans (hb4.mono b3.size)
    have q5' := q5.out w4 b4
    clear q4'
    go_wp2_with fail
    refine q5'.mono ?_
    rintro e w5 ⟨rfl, hb5⟩
    have b5 := b4.trans (hb5.mono b4.size)
    clear q5'
    have q := hw.out _ b5
    go_wp2_with fail
    refine q.mono ?_
    rintro e w9 ⟨rfl, hb9⟩
    go_wp2_with fail
    go_ret
    exact ⟨rfl, b5.trans (hb9.mono b5.size)⟩
  · rw [decide_eq_false h4] at q4
    replace q4 := Lib.hid q4
    replace h4 := Lib.hid h4
    clear tc hlt uc hlu vc hlv hne q5
    go_enter Tryz.func10, Tryz.ntmps10
    go_wp2_with fail
    refine q1.mono ?_
    rintro e w1 ⟨rfl, hx1⟩
    have b1 := hx1.below
    clear q1
    have q2' := q2.out w1 b1
    go_wp2_with fail
    refine q2'.mono ?_
    rintro e w2 ⟨rfl, hx2⟩
    have b2 := b1.trans (hx2.below.mono b1.size)
    have q3' := q3.out w2 b2
    clear q2'
    go_wp2_with fail
    refine q3'.mono ?_
    rintro e w3 ⟨rfl, hx3⟩
    have b3 := b2.trans (hx3.below.mono b2.size)
    have q4' := q4.out w3 b3
    clear q3'
    go_wp2_with fail
    refine q4'.mono ?_
    rintro e w4 ⟨rfl, hb4⟩
    have b4 := b3.trans (hb4.mono b3.size)
    clear q4'
    have q := hw.out _ b4
    go_wp2_with fail
    refine q.mono ?_
    rintro e w9 ⟨rfl, hb9⟩
    go_wp2_with fail
    go_ret
    exact ⟨rfl, b4.trans (hb9.mono b4.size)⟩
set_option maxRecDepth 100000 in
set_option maxHeartbeats 8000000 in
theorem vthru_ok {t u v : List VN} {bits : Nat} (w : World) (ba bb bc : Option Addr) (ca cb cc : Nat) (hT : TzTab w) (hP : PowTab w) (ht : t = [] ∨ ∃ b o, ba = some ⟨b, o, none⟩ ∧ TreeAt w b o t) (hu : u = [] ∨ ∃ b o, bb = some ⟨b, o, none⟩ ∧ TreeAt w b o u) (hv : v = [] ∨ ∃ b o, bc = some ⟨b, o, none⟩ ∧ TreeAt w b o v) (hbt : bits < 65536) (hn : Thru t u v) :
    Calls Tryz.prog 10 #[.slice ba t.length ca, .slice bb u.length cb, .slice bc v.length cc, .int .u16 (bits : Nat)] w fun e w' => e = .returned (.bool true) ∧ Below w.heap.size w w' := by
  have hw : ∀ w', Below w.heap.size w w' → Calls Tryz.prog 37 #[] w' fun e w'' => e = .returned (.bool true) ∧ Below w'.heap.size w' w'' := fun w' hx => vworks_any w' (hT.same (hx.block _ hT.lt')) (hP.same (hx.block _ hP.lt))
  have q1 := few7_any w ba ca ht
  have q2 := fun W (hb : Below w.heap.size w W) => few7_any W bb cb (hu.imp id (fun ⟨b, o, e, h⟩ => ⟨b, o, e, h.below hb⟩))
  have q3 := fun W (hb : Below w.heap.size w W) => few7_any W bc cc (hv.imp id (fun ⟨b, o, e, h⟩ => ⟨b, o, e, h.below hb⟩))
  rw [hn.ft] at q1
  rw [hn.fu] at q2
  rw [hn.fv] at q3
  obtain ⟨t0, t7, tc, lt, hlt, ltl, hlts⟩ := few7_vars hn.ft
  obtain ⟨tb, to, rfl, hta⟩ := tree_some tc ht
  obtain ⟨u0, u7, uc, lu, hlu, lul, hlus⟩ := few7_vars hn.fu
  obtain ⟨ub, uo, rfl, hua⟩ := tree_some uc hu
  obtain ⟨v0, v7, vc, lv, hlv, lvl, hlvs⟩ := few7_vars hn.fv
  obtain ⟨vb, vo, rfl, hva⟩ := tree_some vc hv
  have e4 : lt = lu := by have := hn.tu; rw [hlt, hlu] at this; exact Option.some.inj this
  have e5 : lt = lv := by have := hn.tv; rw [hlt, hlv] at this; exact Option.some.inj this
  have q4 := fun W (hb : Below w.heap.size w W) => alike_any W tb to ca ub uo cb (hta.below hb) (hua.below hb) t0 u0 (by omega) (by omega) hlt hlu (by omega) (by omega)
  have q5 := fun W (hb : Below w.heap.size w W) => alike_any W tb to ca vb vo cc (hta.below hb) (hva.below hb) t0 v0 (by omega) (by omega) hlt hlv (by omega) (by omega)
  rw [decide_eq_true e4] at q4
  rw [decide_eq_true e5] at q5
  have stu := (vars_same tc uc hlts hlus).1 e4
  have stv := (vars_same tc vc hlts hlvs).1 e5
  have suv : ∀ x, VarOf u x ↔ VarOf v x := fun x => (stu x).symm.trans (stv x)
  replace hw := Lib.hid hw
  replace q2 := Lib.hid q2
  replace q3 := Lib.hid q3
  replace q4 := Lib.hid q4
  replace q5 := Lib.hid q5
  replace stu := Lib.hid stu
  replace stv := Lib.hid stv
  replace suv := Lib.hid suv
  replace tc := Lib.hid tc
  replace uc := Lib.hid uc
  replace vc := Lib.hid vc
  replace hlt := Lib.hid hlt
  clear hn hlu hlv e4 e5 hlts hlus hlvs ht hu hv
  go_enter Tryz.func10, Tryz.ntmps10
  go_wp2_with fail
  refine q1.mono ?_
  rintro e w1 ⟨rfl, hx1⟩
  have b1 := hx1.below
  have q2' := q2.out w1 b1
  clear q1
  go_wp2_with fail
  refine q2'.mono ?_
  rintro e w2 ⟨rfl, hx2⟩
  have b2 := b1.trans (hx2.below.mono b1.size)
  have q3' := q3.out w2 b2
  clear q2'
  go_wp2_with fail
  refine q3'.mono ?_
  rintro e w3 ⟨rfl, hx3⟩
  have b3 := b2.trans (hx3.below.mono b2.size)
  have q4' := q4.out w3 b3
  clear q3'
  go_wp2_with fail
  refine q4'.mono ?_
  rintro e w4 ⟨rfl, hb4⟩
  have b4 := b3.trans (hb4.mono b3.size)
  have q5' := q5.out w4 b4
  clear q4'
  go_wp2_with fail
  refine q5'.mono ?_
  rintro e w5 ⟨rfl, hb5⟩
  have b5 := b4.trans (hb5.mono b4.size)
  have q := made_any (cap := ca) (hT.same (b5.block _ hT.lt')) (hP.same (b5.block _ hP.lt)) (hta.below b5) tc.out t7 hbt hlt.out
  clear q5' hx1 hx2 hx3 hb4 hb5 b1 b2 b3 b4 q2 q3 q4 q5
  go_wp2_with fail
  refine q.mono ?_
  rintro e w6 ⟨B, so, r, rfl, hS6, hv6, hm6, hb6⟩
  have b6 := b5.trans (hb6.mono b5.size)
  generalize (fun y => bits.testBit (idxF lt y)) = φ at *
  have qa := copy_any (cap := cb) hS6 hv6 (hua.below b6) uc.out u7 stu.out (hT.same (b6.block _ hT.lt')) (hP.same (b6.block _ hP.lt))
  replace hS6 := Lib.hid hS6
  clear q
  go_wp2_with fail
  refine qa.mono ?_
  rintro e w7 ⟨Ba, sa, ra, rfl, hS7, hv7, hm7, hb7⟩
  have b7 := b6.trans (hb7.mono b6.size)
  have b67 := hb7
  have qb := copy_any (cap := cc) hS7 hv7 (hva.below b7) vc.out v7 suv.out (hT.same (b7.block _ hT.lt')) (hP.same (b7.block _ hP.lt))
  clear qa
  replace hS7 := Lib.hid hS7
  go_wp2_with fail
  refine qb.mono ?_
  rintro e w8 ⟨Bc, sc, rc, rfl, hS8, hv8, hm8, hb8⟩
  have b8 := b7.trans (hb8.mono b7.size)
  have b68 := b67.trans (hb8.mono b67.size)
  obtain ⟨B8, hB8, hR8, hs8, _⟩ := (hS6.out.below b68).here
  have qc := copy_any (cap := cc) hs8 hv6 (hva.below b8) vc.out v7 stv.out (hT.same (b8.block _ hT.lt')) (hP.same (b8.block _ hP.lt))
  rw [hB8] at qc
  replace hS8 := Lib.hid hS8
  replace hs8 := Lib.hid hs8
  replace hR8 := Lib.hid hR8
  replace b68 := Lib.hid b68
  clear qb hb7 hb8 hm7 b67
  go_wp2_with fail
  refine qc.mono ?_
  rintro e w9 ⟨Bm, sm, rm, rfl, hS9, hv9, hm9, hb9⟩
  have b9 := b8.trans (hb9.mono b8.size)
  obtain ⟨B9, hB9, hR9, hs9, _⟩ := (hs8.out.below hb9).here
  have qd := copy_any (cap := ca) hs9 hv6 (hta.below b9) tc.out t7 (fun _ => Iff.rfl) (hT.same (b9.block _ hT.lt')) (hP.same (b9.block _ hP.lt))
  rw [hB9, hB8] at qd
  replace hS9 := Lib.hid hS9
  replace hs9 := Lib.hid hs9
  replace hR9 := Lib.hid hR9
  replace hb9 := Lib.hid hb9
  clear qc
  go_wp2_with fail
  refine qd.mono ?_
  rintro e w10 ⟨Bs, ss, rs, rfl, hS10, hv10, hm10, hb10⟩
  have b10 := b9.trans (hb10.mono b9.size)
  obtain ⟨B10, hB10, hR10, hs10, _⟩ := (hS9.out.below hb10).here
  have qx := text_v hs10 hv9.lt
  rw [hB10] at qx
  replace hS10 := Lib.hid hS10
  replace hs10 := Lib.hid hs10
  replace hR10 := Lib.hid hR10
  replace hb10 := Lib.hid hb10
  replace b10 := Lib.hid b10
  clear qd b5 b6 b7 b8 b9
  go_wp2_with fail
  refine qx.mono ?_
  rintro e w11 ⟨rfl, hb11⟩
  have b11 := b10.out.trans (hb11.mono b10.out.size)
  have b1011 := hb10.out.trans (hb11.mono hb10.out.size)
  obtain ⟨B11, hB11, hR11, hs11, _⟩ := (hs9.out.below b1011).here
  have qy := text_v hs11 hv6.lt
  rw [hB11, hB9, hB8] at qy
  replace hs11 := Lib.hid hs11
  replace hR11 := Lib.hid hR11
  replace b11 := Lib.hid b11
  replace b1011 := Lib.hid b1011
  clear qx
  have ex : L.tx sm.nodes rm = L.tx sc.nodes rc := L.tx_eq hS9.out.inv hS8.out.inv (by rw [hS8.out.tree, hS9.out.tree]) rm rc hv9.lt hv8.lt (funext fun y => by rw [hv9.sem, hv8.sem])
  have ey : L.tx so.nodes r = L.tx ss.nodes rs := L.tx_eq hS6.out.inv hS10.out.inv (by rw [hS6.out.tree, hS10.out.tree]) r rs hv6.lt hv10.lt (funext fun y => by rw [hv6.sem, hv10.sem])
  rw [ex]
  rw [ey] at qy
  replace ex := Lib.hid ex
  replace ey := Lib.hid ey
  have q8 := fun W (hb : Below w8.heap.size w8 W) (hb0 : Below w.heap.size w W) => (hS8.out.below hb).here.elim fun Bz hz => by
    have := lhas_any (cap := cc) hz.2.2.1 hv8 (hva.below hb0)
    rw [hz.1] at this
    exact this
  have q10 := fun W (hb : Below w10.heap.size w10 W) (hb0 : Below w.heap.size w W) => (hS10.out.below hb).here.elim fun Bz hz => by
    have := lhas_any (cap := ca) hz.2.2.1 hv10 (hta.below hb0)
    rw [hz.1] at this
    exact this
  generalize (⟨(L.tx sc.nodes rc).toArray⟩ : ByteArray) = X at *
  generalize (⟨(L.tx ss.nodes rs).toArray⟩ : ByteArray) = Y at *
  replace q8 := Lib.hid q8
  replace q10 := Lib.hid q10
  go_wp2_with fail
  refine qy.mono ?_
  rintro e w12 ⟨rfl, hb12⟩
  have b12 := b11.out.trans (hb12.mono b11.out.size)
  have b1012 := hb11.trans (hb12.mono hb11.size)
  have b812 := hb9.out.trans ((b1011.out.trans (hb12.mono b1011.out.size)).mono hb9.out.size)
  have q8' := q8.out w12 b812 b12
  clear qy
  replace b12 := Lib.hid b12
  go_wp2_with fail
  refine q8'.mono ?_
  rintro e w13 ⟨rfl, hb13⟩
  have b13 := b12.out.trans (hb13.mono b12.out.size)
  have q10' := q10.out w13 (b1012.trans (hb13.mono b1012.size)) b13
  clear q8'
  replace b13 := Lib.hid b13
  go_wp2_with fail
  refine q10'.mono ?_
  rintro e w14 ⟨rfl, hb14⟩
  have b14 := b13.out.trans (hb14.mono b13.out.size)
  have qw := hw.out w14 b14
  clear q10'
  go_wp2_with fail
  refine qw.mono ?_
  rintro e w15 ⟨rfl, hb15⟩
  go_wp2_with fail
  go_ret
  exact ⟨rfl, b14.trans (hb15.mono b14.size)⟩
theorem vthru_any {t u v : List VN} {bits : Nat} (w : World) (ba bb bc : Option Addr) (ca cb cc : Nat) (hT : TzTab w) (hP : PowTab w) (ht : t = [] ∨ ∃ b o, ba = some ⟨b, o, none⟩ ∧ TreeAt w b o t) (hu : u = [] ∨ ∃ b o, bb = some ⟨b, o, none⟩ ∧ TreeAt w b o u) (hv : v = [] ∨ ∃ b o, bc = some ⟨b, o, none⟩ ∧ TreeAt w b o v) (hbt : bits < 65536) :
    Calls Tryz.prog 10 #[.slice ba t.length ca, .slice bb u.length cb, .slice bc v.length cc, .int .u16 (bits : Nat)] w fun e w' => e = .returned (.bool true) ∧ Below w.heap.size w w' := by
  by_cases hn : Thru t u v
  · exact vthru_ok w ba bb bc ca cb cc hT hP ht hu hv hbt hn
  · exact vthru_works w ba bb bc ca cb cc hT hP ht hu hv hn
end Go.Proofs.YteikmmfjhabijaaGreatDoor
