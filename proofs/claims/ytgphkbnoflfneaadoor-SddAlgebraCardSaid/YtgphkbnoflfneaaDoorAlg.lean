import Derived.Test.YtgphkbnoflfneaaDoorCanon
set_option linter.unusedSimpArgs false
set_option linter.unusedVariables false
namespace Go.Proofs.YtgphkbnoflfneaaDoor
open Go Go.RowKit Go.Shelf

/-- the end of a closure that gives a node alone -/
def RetI (t : List VN) (B0 : Blks) (w0 : World) (k : Nat) (s : St) (φ : L.Asg → Bool) (e : Ending) (w' : World) : Prop :=
  ∃ (r : Nat) (s' : St), e = .returned (.int .i64 (r : Nat)) ∧ SS t B0 w0 k s' w' ∧ L.Step s s' ∧ Val s' r φ
set_option maxRecDepth 100000 in
set_option maxHeartbeats 1000000 in
theorem alg_and {t : List VN} {B0 : Blks} {w0 w : World} {k k' bx a b : Nat} {s : St} {φ ψ : L.Asg → Bool} (h : SS t B0 w0 k s w) (hc : w.cell? ⟨bx, 0, none⟩ = some (.pointer (some ⟨B0.sb, 0, none⟩))) (hk : k' + 118 ≤ k) (ha : Val s a φ) (hb : Val s b ψ) :
    Calls Tryd.prog 17 #[.int .i64 a, .int .i64 b, .pointer (some ⟨bx, 0, none⟩)] w (RetI t B0 w0 k' s fun x => φ x && ψ x) := by
  have q := and_v h hk ha hb
  replace h := Lib.hid h
  go_enter Tryd.func17, Tryd.ntmps17
  go_wp2_with fail
  refine q.mono ?_
  rintro e w1 ⟨r, s', rfl, hS, hT, hV⟩
  replace hS := Lib.hid hS
  go_wp2_with fail
  go_ret
  exact ⟨r, s', rfl, hS.out, hT, hV⟩
set_option maxRecDepth 100000 in
set_option maxHeartbeats 1000000 in
theorem alg_or {t : List VN} {B0 : Blks} {w0 w : World} {k k' bx a b : Nat} {s : St} {φ ψ : L.Asg → Bool} (h : SS t B0 w0 k s w) (hc : w.cell? ⟨bx, 0, none⟩ = some (.pointer (some ⟨B0.sb, 0, none⟩))) (hk : k' + 127 ≤ k) (ha : Val s a φ) (hb : Val s b ψ) :
    Calls Tryd.prog 18 #[.int .i64 a, .int .i64 b, .pointer (some ⟨bx, 0, none⟩)] w (RetI t B0 w0 k' s fun x => φ x || ψ x) := by
  have q := or_v h hk ha hb
  replace h := Lib.hid h
  go_enter Tryd.func18, Tryd.ntmps18
  go_wp2_with fail
  refine q.mono ?_
  rintro e w1 ⟨r, s', rfl, hS, hT, hV⟩
  replace hS := Lib.hid hS
  go_wp2_with fail
  go_ret
  exact ⟨r, s', rfl, hS.out, hT, hV⟩
set_option maxRecDepth 100000 in
set_option maxHeartbeats 1000000 in
theorem alg_not {t : List VN} {B0 : Blks} {w0 w : World} {k k' bx a : Nat} {s : St} {φ : L.Asg → Bool} (h : SS t B0 w0 k s w) (hc : w.cell? ⟨bx, 0, none⟩ = some (.pointer (some ⟨B0.sb, 0, none⟩))) (hk : k' + 3 ≤ k) (ha : Val s a φ) :
    Calls Tryd.prog 20 #[.int .i64 a, .pointer (some ⟨bx, 0, none⟩)] w (RetI t B0 w0 k' s fun x => !φ x) := by
  have q := not_v h hk ha
  replace h := Lib.hid h
  go_enter Tryd.func20, Tryd.ntmps20
  go_wp2_with fail
  refine q.mono ?_
  rintro e w1 ⟨r, s', rfl, hS, hT, hV⟩
  replace hS := Lib.hid hS
  go_wp2_with fail
  go_ret
  exact ⟨r, s', rfl, hS.out, hT, hV⟩

set_option maxRecDepth 100000 in
set_option maxHeartbeats 4000000 in
theorem alg_works {t : List VN} {p q u : List Nat} (w : World) (ba b1 b2 b3 : Option Addr) (cap c1 c2 c3 : Nat) (hT : TzTab w) (hP : PowTab w) (h : t = [] ∨ ∃ b o, ba = some ⟨b, o, none⟩ ∧ TreeAt w b o t) (hn : fewB t = false ∨ 6 < p.length ∨ 6 < q.length ∨ 6 < u.length) :
    Calls Tryd.prog 5 #[.slice ba t.length cap, .slice b1 p.length c1, .slice b2 q.length c2, .slice b3 u.length c3] w fun e w' => e = .returned (.bool true) ∧ Below w.heap.size w w' := by
  have hf := few_any w ba cap h
  have hw : ∀ w', Ext w w' → Calls Tryd.prog 7 #[] w' fun e w'' => e = .returned (.bool true) ∧ Below w'.heap.size w' w'' := fun w' hx => works_any w' (hT.same (hx.below.block _ hT.lt')) (hP.same (hx.below.block _ hP.lt))
  by_cases h0 : fewB t = false
  · rw [h0] at hf
    go_enter Tryd.func5, Tryd.ntmps5
    go_wp2_with fail
    refine hf.mono ?_
    rintro e w1 ⟨rfl, hx1⟩
    go_wp2_with fail
    refine (hw w1 hx1).mono ?_
    rintro e w2 ⟨rfl, hb2⟩
    go_wp2_with fail
    go_ret
    exact ⟨rfl, hx1.below.trans (hb2.mono hx1.size)⟩
  have h1 : fewB t = true := by simpa using h0
  rw [h1] at hf
  have hn' := hn.resolve_left h0
  clear hn
  by_cases e1 : 6 < p.length
  · have d1 : decide ((p.length : Int) > 6) = true := decide_eq_true (by omega)
    go_enter Tryd.func5, Tryd.ntmps5
    go_wp2_with fail
    refine hf.mono ?_
    rintro e w1 ⟨rfl, hx1⟩
    go_wp2_with fail
    refine (hw w1 hx1).mono ?_
    rintro e w2 ⟨rfl, hb2⟩
    go_wp2_with fail
    go_ret
    exact ⟨rfl, hx1.below.trans (hb2.mono hx1.size)⟩
  have d1 : decide ((p.length : Int) > 6) = false := decide_eq_false (by omega)
  by_cases e2 : 6 < q.length
  · have d2 : decide ((q.length : Int) > 6) = true := decide_eq_true (by omega)
    go_enter Tryd.func5, Tryd.ntmps5
    go_wp2_with fail
    refine hf.mono ?_
    rintro e w1 ⟨rfl, hx1⟩
    go_wp2_with fail
    refine (hw w1 hx1).mono ?_
    rintro e w2 ⟨rfl, hb2⟩
    go_wp2_with fail
    go_ret
    exact ⟨rfl, hx1.below.trans (hb2.mono hx1.size)⟩
  have d2 : decide ((q.length : Int) > 6) = false := decide_eq_false (by omega)
  have d3 : decide ((u.length : Int) > 6) = true := decide_eq_true (by omega)
  go_enter Tryd.func5, Tryd.ntmps5
  go_wp2_with fail
  refine hf.mono ?_
  rintro e w1 ⟨rfl, hx1⟩
  go_wp2_with fail
  refine (hw w1 hx1).mono ?_
  rintro e w2 ⟨rfl, hb2⟩
  go_wp2_with fail
  go_ret
  exact ⟨rfl, hx1.below.trans (hb2.mono hx1.size)⟩

set_option maxRecDepth 100000 in
set_option maxHeartbeats 16000000 in
theorem alg_ok {t : List VN} {p q u : List Nat} (w : World) (b o cap : Nat) (b1 b2 b3 : Option Addr) (c1 c2 c3 : Nat) (hT : TzTab w) (hP : PowTab w) (h : TreeAt w b o t) (hp : InU w b1 c1 p) (hq : InU w b2 c2 q) (hu : InU w b3 c3 u) (hf : fewB t = true) (hp6 : p.length ≤ 6) (hq6 : q.length ≤ 6) (hu6 : u.length ≤ 6) :
    Calls Tryd.prog 5 #[.slice (some ⟨b, o, none⟩) t.length cap, .slice b1 p.length c1, .slice b2 q.length c2, .slice b3 u.length c3] w fun e w' => e = .returned (.bool true) ∧ Below w.heap.size w w' := by
  have hq0 := few_any w (some ⟨b, o, none⟩) cap (.inr ⟨b, o, rfl, h⟩)
  rw [hf] at hq0
  unfold fewB at hf
  simp only [Bool.and_eq_true, decide_eq_true_eq] at hf
  obtain ⟨t0, t11, hc⟩ := hf
  obtain ⟨l, hl, hl6, _, hlv⟩ := vars_few hc t11
  have hpu := hp.1
  have hqu := hq.1
  have huu := hu.1
  have d1 : decide ((p.length : Int) > 6) = false := decide_eq_false (by omega)
  have d2 : decide ((q.length : Int) > 6) = false := decide_eq_false (by omega)
  have d3 : decide ((u.length : Int) > 6) = false := decide_eq_false (by omega)
  have hmf : ∀ (fn : Fn) (first cap : Array Value) (w : World), (Instr.makeFunc fn first cap).run Tryd.prog w = .ok (.func fn first cap) w := fun _ _ _ _ => rfl
  have hK1 : ∀ (c : Array Value) (w : World), (callFunc 17 c).run Tryd.prog w = .ok (.enter 17 c) w := fun c w => by simp [go_sem, Tryd.func17]
  have hK2 : ∀ (c : Array Value) (w : World), (callFunc 18 c).run Tryd.prog w = .ok (.enter 18 c) w := fun c w => by simp [go_sem, Tryd.func18]
  have hK3 : ∀ (c : Array Value) (w : World), (callFunc 20 c).run Tryd.prog w = .ok (.enter 20 c) w := fun c w => by simp [go_sem, Tryd.func20]
  replace hl := Lib.hid hl
  replace hc := Lib.hid hc
  replace h := Lib.hid h
  replace hp := Lib.hid hp
  replace hq := Lib.hid hq
  replace hu := Lib.hid hu
  go_enter Tryd.func5, Tryd.ntmps5
  go_wp2_with fail
  refine hq0.mono ?_
  rintro e w1 ⟨rfl, hx1⟩
  have q1 := new_v w1 b o cap (hT.same (hx1.below.block _ hT.lt')) (hP.same (hx1.below.block _ hP.lt)) (h.out.ext hx1) hc.out t11
  clear hq0
  go_wp2_with fail
  refine q1.mono ?_
  rintro e w2 ⟨B, rfl, hS2, hz2, ho2, hm2, hb2⟩
  have hbw2 := hx1.below.trans (hb2.mono hx1.size)
  have hmw : ∀ k ∈ B.mut, w.heap.size ≤ k := fun k hk => Nat.le_trans hx1.size (hm2 k hk)
  have hxb : Ext w2 (w2.alloc (.cells #[.pointer (some ⟨B.sb, 0, none⟩)] 25)) := (Ext.refl w2).alloc _
  have hzb := heap_alloc_new w2 (.cells #[.pointer (some ⟨B.sb, 0, none⟩)] 25)
  replace hS2 := Lib.hid hS2
  clear q1 hx1 hb2 hm2
  go_wp2_with fail
  generalize w2.alloc (.cells #[.pointer (some ⟨B.sb, 0, none⟩)] 25) = w2' at *
  have hbw2' := hbw2.trans (hxb.below.mono hbw2.size)
  have q2 := refVars_any w2' b o cap l (h.out.below hbw2') t0 (by omega) hl.out
  refine q2.mono ?_
  rintro e w3 ⟨vl, rfl, ho3, hb3⟩
  obtain ⟨B3, hsb, hR3, hS3, hSt⟩ := ((hS2.out.below hxb.below).below hb3).here
  obtain ⟨bl, cl, rfl, hkl⟩ := own_keep ho3 hR3
  have hmw3 : ∀ k ∈ B3.mut, w.heap.size ≤ k := fun k hk => (hSt.new k hk).elim (hmw k) (fun h => Nat.le_trans hbw2.size h)
  have hbw3 := hbw2'.trans (hb3.mono hbw2'.size)
  have hk1 := hp.out.keep hbw3 hmw3
  have hk2 := hq.out.keep hbw3 hmw3
  have hk3 := hu.out.keep hbw3 hmw3
  have hbx : w2.heap.size ∉ B3.mut := fun hcm => by
    have := hR3.not_mut ((hb3.block _ (Array.getElem?_eq_some_iff.1 hzb).1).trans hzb) (by decide) (by decide)
    exact this hcm
  have hcb : w3.cell? ⟨w2.heap.size, 0, none⟩ = some (.pointer (some ⟨B3.sb, 0, none⟩)) := by
    rw [World.cell?, hb3.block _ (Array.getElem?_eq_some_iff.1 hzb).1, hzb, hsb]; rfl
  have hbox : ∀ (k : Nat) (s : St) (w : World), SS t B3 w3 k s w → w.cell? ⟨w2.heap.size, 0, none⟩ = some (.pointer (some ⟨B3.sb, 0, none⟩)) := fun _ _ _ hS => hS.cell hcb hbx
  rw [← hsb]
  clear hsb
  generalize w2.heap.size = bx at *
  replace hbox := Lib.hid hbox
  replace hbw3 := Lib.hid hbw3
  have hi3 := hS3.inv
  have c30 := hbox.out _ _ _ hS3
  have q3 := terms_v false (k' := 290000) (cl := cl) (cp := c1) hS3 hz2 ho2 (by omega) hkl hk1 hl6 hlv hpu (by omega)
  replace hS3 := Lib.hid hS3
  clear q2 hb3 ho3 hR3 hSt hS2 hzb hxb hcb hbw2 hbw2'
  go_wp2_with fail
  refine q3.mono ?_
  rintro e w4 ⟨a, s4, rfl, hS4, hT4, hA4⟩
  have hz4 := hz2.step hi3 hT4
  have ho4 := ho2.step hi3 hT4
  have hi4 := hS4.inv
  have c40 := hbox.out _ _ _ hS4
  have q4 := terms_v false (k' := 280000) (cl := cl) (cp := c2) hS4 hz4 ho4 (by omega) hkl hk2 hl6 hlv hqu (by omega)
  replace hS4 := Lib.hid hS4
  clear q3 hS3 c30
  go_wp2_with fail
  refine q4.mono ?_
  rintro e w5 ⟨bb, s5, rfl, hS5, hT5, hB5⟩
  have hz5 := hz4.step hi4 hT5
  have ho5 := ho4.step hi4 hT5
  have hA5 := hA4.step hi4 hT5
  have hi5 := hS5.inv
  have c50 := hbox.out _ _ _ hS5
  have q5 := terms_v true (k' := 270000) (cl := cl) (cp := c3) hS5 hz5 ho5 (by omega) hkl hk3 hl6 hlv huu (by omega)
  replace hS5 := Lib.hid hS5
  clear q4 hS4 c40
  go_wp2_with fail
  refine q5.mono ?_
  rintro e w6 ⟨cc, s6, rfl, hS6, hT6, hC6⟩
  have vz6 := hz5.step hi5 hT6
  have vo6 := ho5.step hi5 hT6
  have va6 := hA5.step hi5 hT6
  have vb6 := hB5.step hi5 hT6
  have vc6 := hC6
  clear hS5 c50 hz2 ho2 hz4 ho4 hz5 ho5 hA4 hA5 hB5 hC6 hT4 hT5 hT6 hi3 hi4 hi5 hk1 hk2 hk3 hkl hp hq hu hpu hqu huu hl hlv
  generalize termsφ l p = F at *
  generalize termsφ l q = G at *
  generalize termsφ l u = H at *
  have i6 := hS6.inv
  have q7 := alg_and (k' := 269873) hS6 (hbox.out _ _ _ hS6) (by omega) va6 vb6
  have c6 := hbox.out _ _ _ hS6
  replace hS6 := Lib.hid hS6
  clear q5
  go_wp2_with fail
  refine q7.mono ?_
  rintro e w7 ⟨n7, s7, rfl, hS7, hT7, hV7⟩
  have vz7 := vz6.step i6 hT7
  have vo7 := vo6.step i6 hT7
  have va7 := va6.step i6 hT7
  have vb7 := vb6.step i6 hT7
  have vc7 := vc6.step i6 hT7
  clear hS6 i6 c6 hT7 vz6 vo6 va6 vb6 vc6
  have i7 := hS7.inv
  have q8 := alg_and (k' := 269746) hS7 (hbox.out _ _ _ hS7) (by omega) vb7 va7
  have c7 := hbox.out _ _ _ hS7
  replace hS7 := Lib.hid hS7
  clear q7
  go_wp2_with fail
  refine q8.mono ?_
  rintro e w8 ⟨n8, s8, rfl, hS8, hT8, hV8⟩
  have vz8 := vz7.step i7 hT8
  have vo8 := vo7.step i7 hT8
  have va8 := va7.step i7 hT8
  have vb8 := vb7.step i7 hT8
  have vc8 := vc7.step i7 hT8
  have vr18 := hV7.step i7 hT8
  clear hS7 i7 c7 hT8 vz7 vo7 va7 vb7 vc7 hV7
  obtain rfl : n7 = n8 := vr18.eq hS8.inv hV8 (fun x => by (try dsimp only); generalize F x = A; generalize G x = B; generalize H x = C; cases A <;> cases B <;> cases C <;> rfl)
  have i8 := hS8.inv
  have q9 := alg_or (k' := 269619) hS8 (hbox.out _ _ _ hS8) (by omega) va8 vb8
  have c8 := hbox.out _ _ _ hS8
  replace hS8 := Lib.hid hS8
  clear q8
  go_wp2_with fail
  refine q9.mono ?_
  rintro e w9 ⟨n9, s9, rfl, hS9, hT9, hV9⟩
  have vz9 := vz8.step i8 hT9
  have vo9 := vo8.step i8 hT9
  have va9 := va8.step i8 hT9
  have vb9 := vb8.step i8 hT9
  have vc9 := vc8.step i8 hT9
  clear hS8 i8 c8 hT9 vz8 vo8 va8 vb8 vc8
  have i9 := hS9.inv
  have q10 := alg_or (k' := 269492) hS9 (hbox.out _ _ _ hS9) (by omega) vb9 va9
  have c9 := hbox.out _ _ _ hS9
  replace hS9 := Lib.hid hS9
  clear q9
  go_wp2_with fail
  refine q10.mono ?_
  rintro e w10 ⟨n10, s10, rfl, hS10, hT10, hV10⟩
  have vz10 := vz9.step i9 hT10
  have vo10 := vo9.step i9 hT10
  have va10 := va9.step i9 hT10
  have vb10 := vb9.step i9 hT10
  have vc10 := vc9.step i9 hT10
  have vr110 := hV9.step i9 hT10
  clear hS9 i9 c9 hT10 vz9 vo9 va9 vb9 vc9 hV9
  obtain rfl : n9 = n10 := vr110.eq hS10.inv hV10 (fun x => by (try dsimp only); generalize F x = A; generalize G x = B; generalize H x = C; cases A <;> cases B <;> cases C <;> rfl)
  have i10 := hS10.inv
  have q11 := alg_not (k' := 269365) hS10 (hbox.out _ _ _ hS10) (by omega) va10
  have c10 := hbox.out _ _ _ hS10
  replace hS10 := Lib.hid hS10
  clear q10
  go_wp2_with fail
  refine q11.mono ?_
  rintro e w11 ⟨n11, s11, rfl, hS11, hT11, hV11⟩
  have vz11 := vz10.step i10 hT11
  have vo11 := vo10.step i10 hT11
  have va11 := va10.step i10 hT11
  have vb11 := vb10.step i10 hT11
  have vc11 := vc10.step i10 hT11
  clear hS10 i10 c10 hT11 vz10 vo10 va10 vb10 vc10
  have i11 := hS11.inv
  have q12 := alg_not (k' := 269238) hS11 (hbox.out _ _ _ hS11) (by omega) hV11
  have c11 := hbox.out _ _ _ hS11
  replace hS11 := Lib.hid hS11
  clear q11
  go_wp2_with fail
  refine q12.mono ?_
  rintro e w12 ⟨n12, s12, rfl, hS12, hT12, hV12⟩
  have vz12 := vz11.step i11 hT12
  have vo12 := vo11.step i11 hT12
  have va12 := va11.step i11 hT12
  have vb12 := vb11.step i11 hT12
  have vc12 := vc11.step i11 hT12
  have vr112 := hV11.step i11 hT12
  clear hS11 i11 c11 hT12 vz11 vo11 va11 vb11 vc11 hV11
  obtain rfl : a = n12 := va12.eq hS12.inv hV12 (fun x => by (try dsimp only); generalize F x = A; generalize G x = B; generalize H x = C; cases A <;> cases B <;> cases C <;> rfl)
  have i12 := hS12.inv
  have q13 := alg_not (k' := 269111) hS12 (hbox.out _ _ _ hS12) (by omega) va12
  have c12 := hbox.out _ _ _ hS12
  replace hS12 := Lib.hid hS12
  clear q12
  go_wp2_with fail
  refine q13.mono ?_
  rintro e w13 ⟨n13, s13, rfl, hS13, hT13, hV13⟩
  have vz13 := vz12.step i12 hT13
  have vo13 := vo12.step i12 hT13
  have va13 := va12.step i12 hT13
  have vb13 := vb12.step i12 hT13
  have vc13 := vc12.step i12 hT13
  clear hS12 i12 c12 hT13 vz12 vo12 va12 vb12 vc12
  have i13 := hS13.inv
  have q14 := alg_and (k' := 268984) hS13 (hbox.out _ _ _ hS13) (by omega) va13 hV13
  have c13 := hbox.out _ _ _ hS13
  replace hS13 := Lib.hid hS13
  clear q13
  go_wp2_with fail
  refine q14.mono ?_
  rintro e w14 ⟨n14, s14, rfl, hS14, hT14, hV14⟩
  have vz14 := vz13.step i13 hT14
  have vo14 := vo13.step i13 hT14
  have va14 := va13.step i13 hT14
  have vb14 := vb13.step i13 hT14
  have vc14 := vc13.step i13 hT14
  have vr114 := hV13.step i13 hT14
  clear hS13 i13 c13 hT14 vz13 vo13 va13 vb13 vc13 hV13
  obtain rfl : n14 = 0 := hV14.eq hS14.inv vz14 (fun x => by (try dsimp only); generalize F x = A; generalize G x = B; generalize H x = C; cases A <;> cases B <;> cases C <;> rfl)
  have i14 := hS14.inv
  have q15 := alg_not (k' := 268857) hS14 (hbox.out _ _ _ hS14) (by omega) va14
  have c14 := hbox.out _ _ _ hS14
  replace hS14 := Lib.hid hS14
  clear q14
  go_wp2_with fail
  refine q15.mono ?_
  rintro e w15 ⟨n15, s15, rfl, hS15, hT15, hV15⟩
  have vz15 := vz14.step i14 hT15
  have vo15 := vo14.step i14 hT15
  have va15 := va14.step i14 hT15
  have vb15 := vb14.step i14 hT15
  have vc15 := vc14.step i14 hT15
  clear hS14 i14 c14 hT15 vz14 vo14 va14 vb14 vc14
  have i15 := hS15.inv
  have q16 := alg_or (k' := 268730) hS15 (hbox.out _ _ _ hS15) (by omega) va15 hV15
  have c15 := hbox.out _ _ _ hS15
  replace hS15 := Lib.hid hS15
  clear q15
  go_wp2_with fail
  refine q16.mono ?_
  rintro e w16 ⟨n16, s16, rfl, hS16, hT16, hV16⟩
  have vz16 := vz15.step i15 hT16
  have vo16 := vo15.step i15 hT16
  have va16 := va15.step i15 hT16
  have vb16 := vb15.step i15 hT16
  have vc16 := vc15.step i15 hT16
  have vr116 := hV15.step i15 hT16
  clear hS15 i15 c15 hT16 vz15 vo15 va15 vb15 vc15 hV15
  obtain rfl : n16 = 1 := hV16.eq hS16.inv vo16 (fun x => by (try dsimp only); generalize F x = A; generalize G x = B; generalize H x = C; cases A <;> cases B <;> cases C <;> rfl)
  have i16 := hS16.inv
  have q17 := alg_and (k' := 268603) hS16 (hbox.out _ _ _ hS16) (by omega) va16 va16
  have c16 := hbox.out _ _ _ hS16
  replace hS16 := Lib.hid hS16
  clear q16
  go_wp2_with fail
  refine q17.mono ?_
  rintro e w17 ⟨n17, s17, rfl, hS17, hT17, hV17⟩
  have vz17 := vz16.step i16 hT17
  have vo17 := vo16.step i16 hT17
  have va17 := va16.step i16 hT17
  have vb17 := vb16.step i16 hT17
  have vc17 := vc16.step i16 hT17
  clear hS16 i16 c16 hT17 vz16 vo16 va16 vb16 vc16
  obtain rfl : a = n17 := va17.eq hS17.inv hV17 (fun x => by (try dsimp only); generalize F x = A; generalize G x = B; generalize H x = C; cases A <;> cases B <;> cases C <;> rfl)
  have i17 := hS17.inv
  have q18 := alg_and (k' := 268476) hS17 (hbox.out _ _ _ hS17) (by omega) va17 vo17
  have c17 := hbox.out _ _ _ hS17
  replace hS17 := Lib.hid hS17
  clear q17
  go_wp2_with fail
  refine q18.mono ?_
  rintro e w18 ⟨n18, s18, rfl, hS18, hT18, hV18⟩
  have vz18 := vz17.step i17 hT18
  have vo18 := vo17.step i17 hT18
  have va18 := va17.step i17 hT18
  have vb18 := vb17.step i17 hT18
  have vc18 := vc17.step i17 hT18
  clear hS17 i17 c17 hT18 vz17 vo17 va17 vb17 vc17
  obtain rfl : a = n18 := va18.eq hS18.inv hV18 (fun x => by (try dsimp only); generalize F x = A; generalize G x = B; generalize H x = C; cases A <;> cases B <;> cases C <;> rfl)
  have i18 := hS18.inv
  have q19 := alg_or (k' := 268349) hS18 (hbox.out _ _ _ hS18) (by omega) va18 vz18
  have c18 := hbox.out _ _ _ hS18
  replace hS18 := Lib.hid hS18
  clear q18
  go_wp2_with fail
  refine q19.mono ?_
  rintro e w19 ⟨n19, s19, rfl, hS19, hT19, hV19⟩
  have vz19 := vz18.step i18 hT19
  have vo19 := vo18.step i18 hT19
  have va19 := va18.step i18 hT19
  have vb19 := vb18.step i18 hT19
  have vc19 := vc18.step i18 hT19
  clear hS18 i18 c18 hT19 vz18 vo18 va18 vb18 vc18
  obtain rfl : a = n19 := va19.eq hS19.inv hV19 (fun x => by (try dsimp only); generalize F x = A; generalize G x = B; generalize H x = C; cases A <;> cases B <;> cases C <;> rfl)
  have i19 := hS19.inv
  have q20 := alg_and (k' := 268222) hS19 (hbox.out _ _ _ hS19) (by omega) va19 vz19
  have c19 := hbox.out _ _ _ hS19
  replace hS19 := Lib.hid hS19
  clear q19
  go_wp2_with fail
  refine q20.mono ?_
  rintro e w20 ⟨n20, s20, rfl, hS20, hT20, hV20⟩
  have vz20 := vz19.step i19 hT20
  have vo20 := vo19.step i19 hT20
  have va20 := va19.step i19 hT20
  have vb20 := vb19.step i19 hT20
  have vc20 := vc19.step i19 hT20
  clear hS19 i19 c19 hT20 vz19 vo19 va19 vb19 vc19
  obtain rfl : n20 = 0 := hV20.eq hS20.inv vz20 (fun x => by (try dsimp only); generalize F x = A; generalize G x = B; generalize H x = C; cases A <;> cases B <;> cases C <;> rfl)
  have i20 := hS20.inv
  have q21 := alg_or (k' := 268095) hS20 (hbox.out _ _ _ hS20) (by omega) va20 vo20
  have c20 := hbox.out _ _ _ hS20
  replace hS20 := Lib.hid hS20
  clear q20
  go_wp2_with fail
  refine q21.mono ?_
  rintro e w21 ⟨n21, s21, rfl, hS21, hT21, hV21⟩
  have vz21 := vz20.step i20 hT21
  have vo21 := vo20.step i20 hT21
  have va21 := va20.step i20 hT21
  have vb21 := vb20.step i20 hT21
  have vc21 := vc20.step i20 hT21
  clear hS20 i20 c20 hT21 vz20 vo20 va20 vb20 vc20
  obtain rfl : n21 = 1 := hV21.eq hS21.inv vo21 (fun x => by (try dsimp only); generalize F x = A; generalize G x = B; generalize H x = C; cases A <;> cases B <;> cases C <;> rfl)
  have i21 := hS21.inv
  have q22 := alg_or (k' := 267968) hS21 (hbox.out _ _ _ hS21) (by omega) va21 vb21
  have c21 := hbox.out _ _ _ hS21
  replace hS21 := Lib.hid hS21
  clear q21
  go_wp2_with fail
  refine q22.mono ?_
  rintro e w22 ⟨n22, s22, rfl, hS22, hT22, hV22⟩
  have vz22 := vz21.step i21 hT22
  have vo22 := vo21.step i21 hT22
  have va22 := va21.step i21 hT22
  have vb22 := vb21.step i21 hT22
  have vc22 := vc21.step i21 hT22
  clear hS21 i21 c21 hT22 vz21 vo21 va21 vb21 vc21
  have i22 := hS22.inv
  have q23 := alg_not (k' := 267841) hS22 (hbox.out _ _ _ hS22) (by omega) va22
  have c22 := hbox.out _ _ _ hS22
  replace hS22 := Lib.hid hS22
  clear q22
  go_wp2_with fail
  refine q23.mono ?_
  rintro e w23 ⟨n23, s23, rfl, hS23, hT23, hV23⟩
  have vz23 := vz22.step i22 hT23
  have vo23 := vo22.step i22 hT23
  have va23 := va22.step i22 hT23
  have vb23 := vb22.step i22 hT23
  have vc23 := vc22.step i22 hT23
  have vr123 := hV22.step i22 hT23
  clear hS22 i22 c22 hT23 vz22 vo22 va22 vb22 vc22 hV22
  have i23 := hS23.inv
  have q24 := alg_not (k' := 267714) hS23 (hbox.out _ _ _ hS23) (by omega) vb23
  have c23 := hbox.out _ _ _ hS23
  replace hS23 := Lib.hid hS23
  clear q23
  go_wp2_with fail
  refine q24.mono ?_
  rintro e w24 ⟨n24, s24, rfl, hS24, hT24, hV24⟩
  have vz24 := vz23.step i23 hT24
  have vo24 := vo23.step i23 hT24
  have va24 := va23.step i23 hT24
  have vb24 := vb23.step i23 hT24
  have vc24 := vc23.step i23 hT24
  have vr124 := vr123.step i23 hT24
  have vr224 := hV23.step i23 hT24
  clear hS23 i23 c23 hT24 vz23 vo23 va23 vb23 vc23 vr123 hV23
  have i24 := hS24.inv
  have q25 := alg_and (k' := 267587) hS24 (hbox.out _ _ _ hS24) (by omega) vr224 hV24
  have c24 := hbox.out _ _ _ hS24
  replace hS24 := Lib.hid hS24
  clear q24
  go_wp2_with fail
  refine q25.mono ?_
  rintro e w25 ⟨n25, s25, rfl, hS25, hT25, hV25⟩
  have vz25 := vz24.step i24 hT25
  have vo25 := vo24.step i24 hT25
  have va25 := va24.step i24 hT25
  have vb25 := vb24.step i24 hT25
  have vc25 := vc24.step i24 hT25
  have vr125 := vr124.step i24 hT25
  have vr225 := vr224.step i24 hT25
  have vr325 := hV24.step i24 hT25
  clear hS24 i24 c24 hT25 vz24 vo24 va24 vb24 vc24 vr124 vr224 hV24
  have i25 := hS25.inv
  have q26 := alg_not (k' := 267460) hS25 (hbox.out _ _ _ hS25) (by omega) hV25
  have c25 := hbox.out _ _ _ hS25
  replace hS25 := Lib.hid hS25
  clear q25
  go_wp2_with fail
  refine q26.mono ?_
  rintro e w26 ⟨n26, s26, rfl, hS26, hT26, hV26⟩
  have vz26 := vz25.step i25 hT26
  have vo26 := vo25.step i25 hT26
  have va26 := va25.step i25 hT26
  have vb26 := vb25.step i25 hT26
  have vc26 := vc25.step i25 hT26
  have vr126 := vr125.step i25 hT26
  have vr226 := vr225.step i25 hT26
  have vr326 := vr325.step i25 hT26
  have vr426 := hV25.step i25 hT26
  clear hS25 i25 c25 hT26 vz25 vo25 va25 vb25 vc25 vr125 vr225 vr325 hV25
  obtain rfl : n22 = n26 := vr126.eq hS26.inv hV26 (fun x => by (try dsimp only); generalize F x = A; generalize G x = B; generalize H x = C; cases A <;> cases B <;> cases C <;> rfl)
  have i26 := hS26.inv
  have q27 := alg_or (k' := 267333) hS26 (hbox.out _ _ _ hS26) (by omega) vb26 vc26
  have c26 := hbox.out _ _ _ hS26
  replace hS26 := Lib.hid hS26
  clear q26
  go_wp2_with fail
  refine q27.mono ?_
  rintro e w27 ⟨n27, s27, rfl, hS27, hT27, hV27⟩
  have vz27 := vz26.step i26 hT27
  have vo27 := vo26.step i26 hT27
  have va27 := va26.step i26 hT27
  have vb27 := vb26.step i26 hT27
  have vc27 := vc26.step i26 hT27
  clear hS26 i26 c26 hT27 vz26 vo26 va26 vb26 vc26
  have i27 := hS27.inv
  have q28 := alg_and (k' := 267206) hS27 (hbox.out _ _ _ hS27) (by omega) va27 hV27
  have c27 := hbox.out _ _ _ hS27
  replace hS27 := Lib.hid hS27
  clear q27
  go_wp2_with fail
  refine q28.mono ?_
  rintro e w28 ⟨n28, s28, rfl, hS28, hT28, hV28⟩
  have vz28 := vz27.step i27 hT28
  have vo28 := vo27.step i27 hT28
  have va28 := va27.step i27 hT28
  have vb28 := vb27.step i27 hT28
  have vc28 := vc27.step i27 hT28
  have vr128 := hV27.step i27 hT28
  clear hS27 i27 c27 hT28 vz27 vo27 va27 vb27 vc27 hV27
  have i28 := hS28.inv
  have q29 := alg_and (k' := 267079) hS28 (hbox.out _ _ _ hS28) (by omega) va28 vb28
  have c28 := hbox.out _ _ _ hS28
  replace hS28 := Lib.hid hS28
  clear q28
  go_wp2_with fail
  refine q29.mono ?_
  rintro e w29 ⟨n29, s29, rfl, hS29, hT29, hV29⟩
  have vz29 := vz28.step i28 hT29
  have vo29 := vo28.step i28 hT29
  have va29 := va28.step i28 hT29
  have vb29 := vb28.step i28 hT29
  have vc29 := vc28.step i28 hT29
  have vr129 := vr128.step i28 hT29
  have vr229 := hV28.step i28 hT29
  clear hS28 i28 c28 hT29 vz28 vo28 va28 vb28 vc28 vr128 hV28
  have i29 := hS29.inv
  have q30 := alg_and (k' := 266952) hS29 (hbox.out _ _ _ hS29) (by omega) va29 vc29
  have c29 := hbox.out _ _ _ hS29
  replace hS29 := Lib.hid hS29
  clear q29
  go_wp2_with fail
  refine q30.mono ?_
  rintro e w30 ⟨n30, s30, rfl, hS30, hT30, hV30⟩
  have vz30 := vz29.step i29 hT30
  have vo30 := vo29.step i29 hT30
  have va30 := va29.step i29 hT30
  have vb30 := vb29.step i29 hT30
  have vc30 := vc29.step i29 hT30
  have vr130 := vr129.step i29 hT30
  have vr230 := vr229.step i29 hT30
  have vr330 := hV29.step i29 hT30
  clear hS29 i29 c29 hT30 vz29 vo29 va29 vb29 vc29 vr129 vr229 hV29
  have i30 := hS30.inv
  have q31 := alg_or (k' := 266825) hS30 (hbox.out _ _ _ hS30) (by omega) vr330 hV30
  have c30 := hbox.out _ _ _ hS30
  replace hS30 := Lib.hid hS30
  clear q30
  go_wp2_with fail
  refine q31.mono ?_
  rintro e w31 ⟨n31, s31, rfl, hS31, hT31, hV31⟩
  have vz31 := vz30.step i30 hT31
  have vo31 := vo30.step i30 hT31
  have va31 := va30.step i30 hT31
  have vb31 := vb30.step i30 hT31
  have vc31 := vc30.step i30 hT31
  have vr131 := vr130.step i30 hT31
  have vr231 := vr230.step i30 hT31
  have vr331 := vr330.step i30 hT31
  have vr431 := hV30.step i30 hT31
  clear hS30 i30 c30 hT31 vz30 vo30 va30 vb30 vc30 vr130 vr230 vr330 hV30
  obtain rfl : n28 = n31 := vr231.eq hS31.inv hV31 (fun x => by (try dsimp only); generalize F x = A; generalize G x = B; generalize H x = C; cases A <;> cases B <;> cases C <;> rfl)
  have i31 := hS31.inv
  have q32 := alg_and (k' := 266698) hS31 (hbox.out _ _ _ hS31) (by omega) vb31 vc31
  have c31 := hbox.out _ _ _ hS31
  replace hS31 := Lib.hid hS31
  clear q31
  go_wp2_with fail
  refine q32.mono ?_
  rintro e w32 ⟨n32, s32, rfl, hS32, hT32, hV32⟩
  have vz32 := vz31.step i31 hT32
  have vo32 := vo31.step i31 hT32
  have va32 := va31.step i31 hT32
  have vb32 := vb31.step i31 hT32
  have vc32 := vc31.step i31 hT32
  clear hS31 i31 c31 hT32 vz31 vo31 va31 vb31 vc31
  have i32 := hS32.inv
  have q33 := alg_and (k' := 266571) hS32 (hbox.out _ _ _ hS32) (by omega) va32 hV32
  have c32 := hbox.out _ _ _ hS32
  replace hS32 := Lib.hid hS32
  clear q32
  go_wp2_with fail
  refine q33.mono ?_
  rintro e w33 ⟨n33, s33, rfl, hS33, hT33, hV33⟩
  have vz33 := vz32.step i32 hT33
  have vo33 := vo32.step i32 hT33
  have va33 := va32.step i32 hT33
  have vb33 := vb32.step i32 hT33
  have vc33 := vc32.step i32 hT33
  have vr133 := hV32.step i32 hT33
  clear hS32 i32 c32 hT33 vz32 vo32 va32 vb32 vc32 hV32
  have i33 := hS33.inv
  have q34 := alg_and (k' := 266444) hS33 (hbox.out _ _ _ hS33) (by omega) va33 vb33
  have c33 := hbox.out _ _ _ hS33
  replace hS33 := Lib.hid hS33
  clear q33
  go_wp2_with fail
  refine q34.mono ?_
  rintro e w34 ⟨n34, s34, rfl, hS34, hT34, hV34⟩
  have vz34 := vz33.step i33 hT34
  have vo34 := vo33.step i33 hT34
  have va34 := va33.step i33 hT34
  have vb34 := vb33.step i33 hT34
  have vc34 := vc33.step i33 hT34
  have vr134 := vr133.step i33 hT34
  have vr234 := hV33.step i33 hT34
  clear hS33 i33 c33 hT34 vz33 vo33 va33 vb33 vc33 vr133 hV33
  have i34 := hS34.inv
  have q35 := alg_and (k' := 266317) hS34 (hbox.out _ _ _ hS34) (by omega) hV34 vc34
  have c34 := hbox.out _ _ _ hS34
  replace hS34 := Lib.hid hS34
  clear q34
  go_wp2_with fail
  refine q35.mono ?_
  rintro e w35 ⟨n35, s35, rfl, hS35, hT35, hV35⟩
  have vz35 := vz34.step i34 hT35
  have vo35 := vo34.step i34 hT35
  have va35 := va34.step i34 hT35
  have vb35 := vb34.step i34 hT35
  have vc35 := vc34.step i34 hT35
  have vr135 := vr134.step i34 hT35
  have vr235 := vr234.step i34 hT35
  have vr335 := hV34.step i34 hT35
  clear hS34 i34 c34 hT35 vz34 vo34 va34 vb34 vc34 vr134 vr234 hV34
  obtain rfl : n33 = n35 := vr235.eq hS35.inv hV35 (fun x => by (try dsimp only); generalize F x = A; generalize G x = B; generalize H x = C; cases A <;> cases B <;> cases C <;> rfl)
  have i35 := hS35.inv
  have q36 := alg_and (k' := 266190) hS35 (hbox.out _ _ _ hS35) (by omega) va35 vb35
  have c35 := hbox.out _ _ _ hS35
  replace hS35 := Lib.hid hS35
  clear q35
  go_wp2_with fail
  refine q36.mono ?_
  rintro e w36 ⟨n36, s36, rfl, hS36, hT36, hV36⟩
  have vz36 := vz35.step i35 hT36
  have vo36 := vo35.step i35 hT36
  have va36 := va35.step i35 hT36
  have vb36 := vb35.step i35 hT36
  have vc36 := vc35.step i35 hT36
  clear hS35 i35 c35 hT36 vz35 vo35 va35 vb35 vc35
  have i36 := hS36.inv
  have q37 := alg_or (k' := 266063) hS36 (hbox.out _ _ _ hS36) (by omega) va36 hV36
  have c36 := hbox.out _ _ _ hS36
  replace hS36 := Lib.hid hS36
  clear q36
  go_wp2_with fail
  refine q37.mono ?_
  rintro e w37 ⟨n37, s37, rfl, hS37, hT37, hV37⟩
  have vz37 := vz36.step i36 hT37
  have vo37 := vo36.step i36 hT37
  have va37 := va36.step i36 hT37
  have vb37 := vb36.step i36 hT37
  have vc37 := vc36.step i36 hT37
  have vr137 := hV36.step i36 hT37
  clear hS36 i36 c36 hT37 vz36 vo36 va36 vb36 vc36 hV36
  obtain rfl : a = n37 := va37.eq hS37.inv hV37 (fun x => by (try dsimp only); generalize F x = A; generalize G x = B; generalize H x = C; cases A <;> cases B <;> cases C <;> rfl)
  have hbw := hS37.behind hbw3.out hmw3 hbw3.out.size
  have cw := works_any w37 (hT.same (hbw.block _ hT.lt')) (hP.same (hbw.block _ hP.lt))
  replace hbw := Lib.hid hbw
  replace hS37 := Lib.hid hS37
  clear q37
  go_wp2_with fail
  refine cw.mono ?_
  rintro e wl ⟨rfl, hbl⟩
  go_wp2_with fail
  go_ret
  exact ⟨rfl, hbw.out.trans (hbl.mono hbw.out.size)⟩

/-- SddAlgebra: true, and no old block turns -/
theorem alg_any {t : List VN} {p q u : List Nat} (w : World) (ba b1 b2 b3 : Option Addr) (cap c1 c2 c3 : Nat) (hT : TzTab w) (hP : PowTab w) (h : t = [] ∨ ∃ b o, ba = some ⟨b, o, none⟩ ∧ TreeAt w b o t) (hp : InU w b1 c1 p) (hq : InU w b2 c2 q) (hu : InU w b3 c3 u) :
    Calls Tryd.prog 5 #[.slice ba t.length cap, .slice b1 p.length c1, .slice b2 q.length c2, .slice b3 u.length c3] w fun e w' => e = .returned (.bool true) ∧ Below w.heap.size w w' := by
  by_cases hn : fewB t = false ∨ 6 < p.length ∨ 6 < q.length ∨ 6 < u.length
  · exact alg_works w ba b1 b2 b3 cap c1 c2 c3 hT hP h hn
  · simp only [not_or] at hn
    have hf : fewB t = true := by simpa using hn.1
    rcases h with rfl | ⟨b, o, rfl, ht⟩
    · cases hf
    · exact alg_ok w b o cap b1 b2 b3 c1 c2 c3 hT hP ht hp hq hu hf (by omega) (by omega) (by omega)
end Go.Proofs.YtgphkbnoflfneaaDoor
