import Derived.Test.YteikmmfjhabijaaGreatDoorCanon
import Derived.Test.YteikmmfjhabijaaGreatDoorKeep5
set_option linter.unusedSimpArgs false
set_option linter.unusedVariables false
namespace Go.Proofs.YteikmmfjhabijaaGreatDoor
open Go Go.RowKit Go.Shelf

/-! SddKeeps. -/
set_option maxRecDepth 100000 in
set_option maxHeartbeats 4000000 in
theorem keeps_works {t : List VN} {ps qs : List Nat} (w : World) (ba bp bq : Option Addr) (cap cp cq : Nat) (hT : TzTab w) (hP : PowTab w) (h : t = [] ∨ ∃ b o, ba = some ⟨b, o, none⟩ ∧ TreeAt w b o t) (hn : fewB t = false ∨ 8 < ps.length ∨ 8 < qs.length) :
    Calls Tryz.prog 4 #[.slice ba t.length cap, .slice bp ps.length cp, .slice bq qs.length cq] w fun e w' => e = .returned (.bool true) ∧ Below w.heap.size w w' := by
  have hf := few_any w ba cap h
  have hw : ∀ w', Ext w w' → Calls Tryz.prog 16 #[] w' fun e w'' => e = .returned (.bool true) ∧ Below w'.heap.size w' w'' := fun w' hx => works_any w' (hT.same (hx.below.block _ hT.lt')) (hP.same (hx.below.block _ hP.lt))
  by_cases h0 : fewB t = false
  · rw [h0] at hf
    go_enter Tryz.func4, Tryz.ntmps4
    go_wp2_with fail
    refine hf.mono ?_
    rintro e w1 ⟨rfl, hx1⟩
    go_wp2_with fail
    refine (hw w1 hx1).mono ?_
    rintro e w2 ⟨rfl, hb2⟩
    go_wp2_with fail
    go_ret
    exact ⟨rfl, hx1.below.trans (hb2.mono hx1.size)⟩
  · have h1 : fewB t = true := by simpa using h0
    rw [h1] at hf
    by_cases h7 : 8 < ps.length
    · have d1 : decide ((ps.length : Int) > 8) = true := decide_eq_true (by omega)
      go_enter Tryz.func4, Tryz.ntmps4
      go_wp2_with fail
      refine hf.mono ?_
      rintro e w1 ⟨rfl, hx1⟩
      go_wp2_with fail
      refine (hw w1 hx1).mono ?_
      rintro e w2 ⟨rfl, hb2⟩
      go_wp2_with fail
      go_ret
      exact ⟨rfl, hx1.below.trans (hb2.mono hx1.size)⟩
    · have h12 : 8 < qs.length := (hn.resolve_left h0).resolve_left h7
      have d1 : decide ((ps.length : Int) > 8) = false := decide_eq_false (by omega)
      have d2 : decide ((qs.length : Int) > 8) = true := decide_eq_true (by omega)
      go_enter Tryz.func4, Tryz.ntmps4
      go_wp2_with fail
      refine hf.mono ?_
      rintro e w1 ⟨rfl, hx1⟩
      go_wp2_with fail
      refine (hw w1 hx1).mono ?_
      rintro e w2 ⟨rfl, hb2⟩
      go_wp2_with fail
      go_ret
      exact ⟨rfl, hx1.below.trans (hb2.mono hx1.size)⟩
theorem own_keep_at {B : Blks} {w : World} {s : St} {base n : Nat} {v : Value} {xs : List Value} (ho : w.ownsRow base 3 1 v n xs) (hne : xs ≠ []) (hR : Rep B s w) : ∃ g cp, v = .slice (some ⟨g, 0, none⟩) n cp ∧ KeepR B w (some ⟨g, 0, none⟩) xs := by
  rcases ho.2 with ⟨rfl, rfl⟩ | ⟨g, cap, cur, rfl, hg, hh, h1, h2, h3, h4⟩
  · have := ho.1
    simp at this
    exact absurd this hne
  · refine ⟨g, cap, rfl, .inr ⟨g, 0, rfl, hR.not_mut hh (by decide) (by decide), fun j hj => ?_⟩⟩
    have hj2 : xs[j]? = some xs[j] := List.getElem?_eq_getElem hj
    generalize xs[j] = u at *
    rw [← h4, List.getElem?_take] at hj2
    split at hj2
    · rw [Nat.zero_add]
      simpa [World.cell?, hh] using hj2
    · cases hj2
theorem KeepR.cell {t : List VN} {B0 : Blks} {w0 w : World} {k : Nat} {s : St} {b o : Nat} {vs : List Value} (h : KeepR B0 w0 (some ⟨b, o, none⟩) vs) (hS : SS t B0 w0 k s w) {j : Nat} {v : Value} (hj : vs[j]? = some v) : w.cell? ⟨b, o + j, none⟩ = some v := by
  obtain ⟨hjl, rfl⟩ := List.getElem?_eq_some_iff.1 hj
  obtain ⟨b', o', e, hc⟩ := h.at hS hjl
  cases e; exact hc
theorem four_SlI {w : World} {k : Nat} {a b c d : Int} (h : w.heap[k]? = some (.cells #[.int .i64 a, .int .i64 b, .int .i64 c, .int .i64 d] 3 (0, 0))) : SlI w (.slice (some ⟨k, 0, none⟩) 4 4) [a, b, c, d] := ⟨_, 4, rfl, .inr ⟨_, 0, rfl, fun j hj => by
    match j, hj with
    | 0, _ => simp [World.cell?, h]
    | 1, _ => simp [World.cell?, h]
    | 2, _ => simp [World.cell?, h]
    | 3, _ => simp [World.cell?, h]⟩⟩
theorem closed_two {ns : List SNode} {b : List Nat} (h : L.Closed ns b) (hm : ∀ x ∈ b, ∃ a ∈ [0, 1], x ≤ a) : b.length ≤ 2 :=
  L.nodup_lt b 2 h.nd fun x hx => by
    obtain ⟨a, ha, hxa⟩ := hm x hx
    simp at ha
    omega
set_option maxRecDepth 100000 in
set_option maxHeartbeats 8000000 in
theorem keeps_ok {t : List VN} {ps qs : List Nat} (w : World) (b o cap : Nat) (bp bq : Option Addr) (cp cq : Nat) (hT : TzTab w) (hP : PowTab w) (h : TreeAt w b o t) (hp : InU w bp cp ps) (hqu : InU w bq cq qs) (hf : fewB t = true) (h8 : ps.length ≤ 8) (h8' : qs.length ≤ 8) :
    Calls Tryz.prog 4 #[.slice (some ⟨b, o, none⟩) t.length cap, .slice bp ps.length cp, .slice bq qs.length cq] w fun e w' => e = .returned (.bool true) ∧ Below w.heap.size w w' := by
  have hq := few_any w (some ⟨b, o, none⟩) cap (.inr ⟨b, o, rfl, h⟩)
  rw [hf] at hq
  unfold fewB at hf
  simp only [Bool.and_eq_true, decide_eq_true_eq] at hf
  obtain ⟨t0, t11, hc⟩ := hf
  obtain ⟨l, hl, hl6, _, hlv⟩ := vars_few hc t11
  have hpu := hp.1
  have hqq := hqu.1
  have d1 : decide ((ps.length : Int) > 8) = false := decide_eq_false (by omega)
  have d2 : decide ((qs.length : Int) > 8) = false := decide_eq_false (by omega)
  replace hl := Lib.hid hl
  replace hc := Lib.hid hc
  replace h := Lib.hid h
  replace hp := Lib.hid hp
  replace hqu := Lib.hid hqu
  go_enter Tryz.func4, Tryz.ntmps4
  go_wp2_with fail
  refine hq.mono ?_
  rintro e w1 ⟨rfl, hx1⟩
  have q1 := new_v w1 b o cap (hT.same (hx1.below.block _ hT.lt')) (hP.same (hx1.below.block _ hP.lt)) (h.out.ext hx1) hc.out t11
  clear hq
  go_wp2_with fail
  refine q1.mono ?_
  rintro e w2 ⟨B, rfl, hS2, hz2, ho2, hm2, hb2⟩
  have hbw2 := hx1.below.trans (hb2.mono hx1.size)
  have hmw : ∀ k ∈ B.mut, w.heap.size ≤ k := fun k hk => Nat.le_trans hx1.size (hm2 k hk)
  have q2 := refVars_any w2 b o cap l (h.out.below hbw2) t0 (by omega) hl.out
  replace hS2 := Lib.hid hS2
  clear q1 hx1 hb2 hm2
  go_wp2_with fail
  refine q2.mono ?_
  rintro e w3 ⟨vl, rfl, ho3, hb3⟩
  obtain ⟨B3, hsb, hR3, hS3, hSt⟩ := (hS2.out.below hb3).here
  obtain ⟨bl, cl, rfl, hkl⟩ := own_keep ho3 hR3
  have hmw3 : ∀ k ∈ B3.mut, w.heap.size ≤ k := fun k hk => (hSt.new k hk).elim (hmw k) (fun h => Nat.le_trans hbw2.size h)
  have hbw3 := hbw2.trans (hb3.mono hbw2.size)
  have hkp := hp.out.keep hbw3 hmw3
  have hkq := hqu.out.keep hbw3 hmw3
  have q3 := terms_v false (k' := 280000) (cl := cl) (cp := cp) hS3 hz2 ho2 (by omega) hkl hkp hl6 hlv hpu (by omega)
  rw [hsb] at q3
  have hi3 := hS3.inv
  replace hS3 := Lib.hid hS3
  clear q2 hb3 ho3 hR3 hSt hS2
  go_wp2_with fail
  refine q3.mono ?_
  rintro e w4 ⟨a, s4, rfl, hS4, hT4, hV4⟩
  have q4 := terms_v false (k' := 260000) (cl := cl) (cp := cq) hS4 (hz2.step hi3 hT4) (ho2.step hi3 hT4) (by omega) hkl hkq hl6 hlv hqq (by omega)
  rw [hsb] at q4
  have hi4 := hS4.inv
  replace hS4 := Lib.hid hS4
  clear q3
  go_wp2_with fail
  refine q4.mono ?_
  rintro e w5 ⟨a2, s5, rfl, hS5, hT5, hV5⟩
  have hV4' := hV4.step hi4 hT5
  have hi5 := hS5.inv
  have q5 := and_v (k' := 250000) hS5 (by omega) hV4' hV5
  rw [hsb] at q5
  replace hS5 := Lib.hid hS5
  clear q4
  go_wp2_with fail
  refine q5.mono ?_
  rintro e w6 ⟨c, s6, rfl, hS6, hT6, hVc⟩
  have hVa := hV4'.step hi5 hT6
  have hVb := hV5.step hi5 hT6
  have q6 := text_v hS6 hVa.lt
  rw [hsb] at q6
  have hi6 := hS6.inv
  replace hS6 := Lib.hid hS6
  clear q5
  go_wp2_with fail
  refine q6.mono ?_
  rintro e w7 ⟨rfl, hb7⟩
  have hS7 := hS6.out.below hb7
  have q7 := text_v hS7 hVb.lt
  rw [hsb] at q7
  replace hS7 := Lib.hid hS7
  clear q6
  go_wp2_with fail
  refine q7.mono ?_
  rintro e w8 ⟨rfl, hb8⟩
  have hS8 := hS7.out.below hb8
  have q8 := text_v hS8 hVc.lt
  rw [hsb] at q8
  replace hS8 := Lib.hid hS8
  clear q7
  go_wp2_with fail
  refine q8.mono ?_
  rintro e w9 ⟨rfl, hb9⟩
  have hS9 := hS8.out.below hb9
  have hS9' := hS9.below ((Below.refl _ _).alloc (Nat.le_refl _) (.cells #[.int .i64 (a2 : Nat), .int .i64 (a : Nat), .int .i64 (a2 : Nat), .int .i64 1] 3))
  have hrow := heap_alloc_new w9 (.cells #[.int .i64 (a2 : Nat), .int .i64 (a : Nat), .int .i64 (a2 : Nat), .int .i64 1] 3)
  have q9 := keep_v (l := [a2, a, a2, 1]) hS9' (four_SlI hrow) (by simp) (fun x hx => by
    have hx : x = a2 ∨ x = a ∨ x = a2 ∨ x = 1 := by simpa using hx
    rcases hx with rfl | rfl | rfl | rfl
    · exact hVb.lt
    · exact hVa.lt
    · exact hVb.lt
    · have := hi6.len; omega)
  rw [hsb] at q9
  generalize htA : L.tx s6.nodes a = TA at *
  generalize htB : L.tx s6.nodes a2 = TB at *
  generalize htC : L.tx s6.nodes c = TC at *
  replace hS9 := Lib.hid hS9
  replace hS9' := Lib.hid hS9'
  replace hrow := Lib.hid hrow
  replace htA := Lib.hid htA
  replace htB := Lib.hid htB
  replace htC := Lib.hid htC
  clear q8 hS6 hS7 hS8
  go_wp2_with fail
  generalize w9.alloc (.cells #[.int .i64 (a2 : Nat), .int .i64 (a : Nat), .int .i64 (a2 : Nat), .int .i64 1] 3) = w90 at *
  refine q9.mono ?_
  rintro e w10 ⟨kb, vm, rfl, hcl, hmem, _, hom, hS10⟩
  have hka : a ∈ kb := hmem a (by simp)
  have hkb : a2 ∈ kb := hmem a2 (by simp)
  have hWa := hVa.keep hi6 hcl hka
  have hWb := hVb.keep hi6 hcl hkb
  have eta := (tx_keep hi6 hcl hka).trans htA.out
  have etb := (tx_keep hi6 hcl hkb).trans htB.out
  have er1 := hcl.rank1
  have hmap : ([a2, a, a2, 1].map (L.rankN kb)).map encI = [encI (L.rankN kb a2), encI (L.rankN kb a), encI (L.rankN kb a2), encI 1] := by simp [er1]
  rw [hmap] at hom
  have hi10 := hS10.inv
  have hz10 : Val (L.keepS s6 kb) 0 (fun _ => false) := ⟨by have := hi10.len; omega, hi10.sem0⟩
  have ho10 : Val (L.keepS s6 kb) 1 (fun _ => true) := ⟨by have := hi10.len; omega, hi10.sem1⟩
  obtain ⟨B10, hsb10, hR10, hSS10, hSt10⟩ := hS10.here
  have hmm : ∀ b', b' < w3.heap.size → b' ∉ B3.mut → b' ∉ B10.mut := fun b' hb' hnb hcm => (hSt10.new b' hcm).elim hnb (fun h => by omega)
  have hkl10 := KeepR.stay hkl hS10 hmm
  have hkp10 := KeepR.stay hkp hS10 hmm
  replace hom : w10.ownsRow w90.heap.size 3 1 vm 4 [encI (L.rankN kb a2), encI (L.rankN kb a), encI (L.rankN kb a2), encI 1] := hom
  obtain ⟨gm, cm, rfl, hkm⟩ := own_keep_at hom (by simp) hR10
  have F : Hid (∀ (k' : Nat) (s' : St) (W : World), SS t B10 w10 k' s' W → W.cell? ⟨gm, 0, none⟩ = some (.int .i64 (L.rankN kb a2 : Nat)) ∧ W.cell? ⟨gm, 1, none⟩ = some (.int .i64 (L.rankN kb a : Nat)) ∧ W.cell? ⟨gm, 2, none⟩ = some (.int .i64 (L.rankN kb a2 : Nat)) ∧ W.cell? ⟨gm, 3, none⟩ = some (.int .i64 1)) := Lib.hid fun k' s' W hS => by
    have e0 := hkm.cell hS (j := 0) rfl
    have e1 := hkm.cell hS (j := 1) rfl
    have e2 := hkm.cell hS (j := 2) rfl
    have e3 := hkm.cell hS (j := 3) rfl
    rw [Nat.zero_add] at e0 e1 e2 e3
    exact ⟨e0, e1, e2, e3⟩
  have hbw10 := hS10.behind hbw3 hmw3 hbw3.size
  have hmw10 : ∀ k ∈ B10.mut, w.heap.size ≤ k := fun k hk => (hSt10.new k hk).elim (hmw3 k) (fun h => Nat.le_trans hbw3.size h)
  have hF1 : Hid (∀ wq, Ext w10 wq → wq.cell? ⟨gm, 0, none⟩ = some (.int .i64 (L.rankN kb a2 : Nat)) ∧ wq.cell? ⟨gm, 1, none⟩ = some (.int .i64 (L.rankN kb a : Nat)) ∧ wq.cell? ⟨gm, 2, none⟩ = some (.int .i64 (L.rankN kb a2 : Nat)) ∧ wq.cell? ⟨gm, 3, none⟩ = some (.int .i64 1)) := Lib.hid fun wq hq => F.out _ _ _ (hSS10.below hq.below)
  generalize hra : L.rankN kb a = ra at *
  generalize hrb : L.rankN kb a2 = rb at *
  generalize hs10 : L.keepS s6 kb = s10 at *
  have hTr : s10.tree = s6.tree := by rw [← hs10]; rfl
  replace hra := Lib.hid hra
  replace hrb := Lib.hid hrb
  replace hs10 := Lib.hid hs10
  replace hTr := Lib.hid hTr
  replace hcl := Lib.hid hcl
  replace hom := Lib.hid hom
  replace hkm := Lib.hid hkm
  replace hSS10 := Lib.hid hSS10
  replace hS10 := Lib.hid hS10
  replace hR10 := Lib.hid hR10
  replace hSt10 := Lib.hid hSt10
  replace hkl10 := Lib.hid hkl10
  replace hkp10 := Lib.hid hkp10
  replace eta := Lib.hid eta
  replace etb := Lib.hid etb
  replace hmem := Lib.hid hmem
  clear er1 hmap q9 hmm hkl hkp
  go_wp2_with fail
  (refine wp_region_below (by kernel_rfl) (by kernel_rfl) ?_
   repeat (refine wpQuiet_step (fun K hK => ?_)
           go_simp
           first
             | (refine hK _ ?_; clear hK K)
             | (replace hK := Lib.hid hK
                apply Exists.intro
                refine ⟨fun wq hq => ?_, hK.out _ ?_⟩
                · (obtain ⟨f1, f2, f3, f4⟩ := hF1.out wq hq)
                  go_simp
                  first
                    | done
                    | rfl
                    | exact ⟨rfl, rfl⟩
                    | fail
                clear hK K))
   refine wpQuiet_nil ?_)
  intro w11 hx11
  have hS11 := hSS10.out.below hx11.below
  have q11 := text_v hS11 hWa.lt
  rw [hsb10, hsb, eta.out] at q11
  obtain ⟨f1, f2, f3, f4⟩ := F.out _ _ _ hS11
  replace hS11 := Lib.hid hS11
  go_wp2_with fail
  refine q11.mono ?_
  rintro e w12 ⟨rfl, hb12⟩
  have hS12 := hS11.out.below hb12
  have q12 := text_v hS12 hWb.lt
  rw [hsb10, hsb, etb.out] at q12
  clear f1 f2 f3 f4 q11
  obtain ⟨f1, f2, f3, f4⟩ := F.out _ _ _ hS12
  replace hS12 := Lib.hid hS12
  go_wp2_with fail
  refine q12.mono ?_
  rintro e w13 ⟨rfl, hb13⟩
  have hS13 := hS12.out.below hb13
  have hS13d := hS13.below (Below.refl _ _).drew
  have q13 := and_v (k' := 240000) hS13d (by omega) hWb hWa
  rw [hsb10, hsb] at q13
  clear f1 f2 f3 f4 q12
  replace hS13 := Lib.hid hS13
  replace hS13d := Lib.hid hS13d
  go_wp2_with fail
  (refine wp_region_held_drew (S := (fun W => W.cell? ⟨gm, 0, none⟩ = some (.int .i64 (rb : Nat)) ∧ W.cell? ⟨gm, 1, none⟩ = some (.int .i64 (ra : Nat)))) (by kernel_rfl) ?_ (fun hHeld => ?_))
  · exact ⟨(F.out _ _ _ hS13d.out).1, (F.out _ _ _ hS13d.out).2.1⟩
  (refine takeL (i := 0) (v := ?_) rfl (by kernel_rfl) (by kernel_rfl) (by kernel_rfl) (fun _ _ _ h => h) (Or.inl ⟨by rfl, ?_⟩) (by assumption) ?_)
  rotate_left
  · (intro w hSw; (try dsimp only at hSw); go_simp; first | done | with_reducible rfl)
  (try simp only [Act.put, List.setIfInBounds_toArray, List.set_cons_zero, List.set_cons_succ])
  (refine takeL (i := 1) (v := ?_) rfl (by kernel_rfl) (by kernel_rfl) (by kernel_rfl) (fun _ _ _ h => h) (Or.inl ⟨by rfl, ?_⟩) (by assumption) ?_)
  rotate_left
  · (intro w hSw; (try dsimp only at hSw); go_simp; first | done | with_reducible rfl)
  (try simp only [Act.put, List.setIfInBounds_toArray, List.set_cons_zero, List.set_cons_succ])
  (refine takeL (i := 2) (v := ?_) rfl (by kernel_rfl) (by kernel_rfl) (by kernel_rfl) (fun _ _ _ h => h) (Or.inl ⟨by rfl, ?_⟩) (by assumption) ?_)
  rotate_left
  · (intro w hSw; (try dsimp only at hSw); go_simp; first | done | with_reducible rfl)
  (try simp only [Act.put, List.setIfInBounds_toArray, List.set_cons_zero, List.set_cons_succ])
  (refine takeL (i := 3) (v := ?_) rfl (by kernel_rfl) (by kernel_rfl) (by kernel_rfl) (fun _ _ _ h => h) (Or.inl ⟨by rfl, ?_⟩) (by assumption) ?_)
  rotate_left
  · (intro w hSw; (try dsimp only at hSw); go_simp; first | done | with_reducible rfl)
  (try simp only [Act.put, List.setIfInBounds_toArray, List.set_cons_zero, List.set_cons_succ])
  (refine takeL (i := 4) (v := ?_) rfl (by kernel_rfl) (by kernel_rfl) (by kernel_rfl) (fun _ _ _ h => h) (Or.inl ⟨by rfl, ?_⟩) (by assumption) ?_)
  rotate_left
  · (intro w hSw; (try dsimp only at hSw); go_simp; first | done | with_reducible rfl)
  (try simp only [Act.put, List.setIfInBounds_toArray, List.set_cons_zero, List.set_cons_succ])
  (refine takeL (i := 5) (v := ?_) rfl (by kernel_rfl) (by kernel_rfl) (by kernel_rfl) (fun _ _ _ h => h) (Or.inl ⟨by rfl, ?_⟩) (by assumption) ?_)
  rotate_left
  · (intro w hSw; (try dsimp only at hSw); go_simp; first | done | with_reducible rfl)
  (try simp only [Act.put, List.setIfInBounds_toArray, List.set_cons_zero, List.set_cons_succ])
  (refine takeL (i := 6) (v := ?_) rfl (by kernel_rfl) (by kernel_rfl) (by kernel_rfl) (fun _ _ _ h => h) (Or.inl ⟨by rfl, ?_⟩) (by assumption) ?_)
  rotate_left
  · (intro w hSw; (try dsimp only at hSw); go_simp; first | done | with_reducible rfl)
  (try simp only [Act.put, List.setIfInBounds_toArray, List.set_cons_zero, List.set_cons_succ])
  (refine wpAnyH_ready (rs := [7]) (by kernel_rfl) (by simp) ?_)
  (refine consL rfl (fun K hK => ?_))
  ((rw [if_pos (by rfl)]); go_simp; (go_at_call 25); refine q13.mono ?_; rintro e w14 ⟨d, s14, rfl, hS14, hT14, hV14⟩; have hS14 := Lib.hid hS14; have hT14 := Lib.hid hT14; refine hK.out _ _ ⟨(F.out _ _ _ hS14.out).1, (F.out _ _ _ hS14.out).2.1⟩ (fun hHeld => ?_))
  (clear hK K)
  (try simp only [Act.put, List.setIfInBounds_toArray, List.set_cons_zero, List.set_cons_succ])
  (refine takeL (i := 8) (v := ?_) rfl (by kernel_rfl) (by kernel_rfl) (by kernel_rfl) (fun _ _ _ h => h) (Or.inl ⟨by rfl, ?_⟩) (by assumption) ?_)
  rotate_left
  · (intro w hSw; (try dsimp only at hSw); go_simp; first | done | with_reducible rfl)
  (try simp only [Act.put, List.setIfInBounds_toArray, List.set_cons_zero, List.set_cons_succ])
  (refine takeL (i := 9) (v := ?_) rfl (by kernel_rfl) (by kernel_rfl) (by kernel_rfl) (fun _ _ _ h => h) (Or.inl ⟨by rfl, ?_⟩) (by assumption) ?_)
  rotate_left
  · (intro w hSw; (try dsimp only at hSw); go_simp; first | done | with_reducible rfl)
  (try simp only [Act.put, List.setIfInBounds_toArray, List.set_cons_zero, List.set_cons_succ])
  (refine takeL (i := 10) (v := ?_) rfl (by kernel_rfl) (by kernel_rfl) (by kernel_rfl) (fun _ _ _ h => h) (Or.inl ⟨by rfl, ?_⟩) (by assumption) ?_)
  rotate_left
  · (intro w hSw; (try dsimp only at hSw); go_simp; first | done | with_reducible rfl)
  (try simp only [Act.put, List.setIfInBounds_toArray, List.set_cons_zero, List.set_cons_succ])
  (refine takeL (i := 11) (v := ?_) rfl (by kernel_rfl) (by kernel_rfl) (by kernel_rfl) (fun _ _ _ h => h) (Or.inl ⟨by rfl, ?_⟩) (by assumption) ?_)
  rotate_left
  · (intro w hSw; (try dsimp only at hSw); go_simp; first | done | with_reducible rfl)
  (try simp only [Act.put, List.setIfInBounds_toArray, List.set_cons_zero, List.set_cons_succ])
  (refine takeL (i := 12) (v := ?_) rfl (by kernel_rfl) (by kernel_rfl) (by kernel_rfl) (fun _ _ _ h => h) (Or.inl ⟨by rfl, ?_⟩) (by assumption) ?_)
  rotate_left
  · (intro w hSw; (try dsimp only at hSw); go_simp; first | done | with_reducible rfl)
  (try simp only [Act.put, List.setIfInBounds_toArray, List.set_cons_zero, List.set_cons_succ])
  (refine wpAnyH_done (by kernel_rfl) ?_ _)
  have hi14 := hS14.out.inv
  have q14 := text_v hS14.out hV14.lt
  have etc : L.tx s14.nodes d = TC := (L.tx_eq hi14 hi6 (by rw [hT14.out.tree, hTr.out]) d c hV14.lt hVc.lt (funext fun x => by rw [hV14.sem, hVc.sem, Bool.and_comm])).trans htC.out
  rw [hsb10, hsb, etc] at q14
  clear q13
  replace etc := Lib.hid etc
  go_wp2_with fail
  refine q14.mono ?_
  rintro e w15 ⟨rfl, hb15⟩
  have hS15 := hS14.out.below hb15
  have q15 := terms_v true (k' := 220000) (cl := cl) (cp := cp) hS15 (hz10.step hi10 hT14.out) (ho10.step hi10 hT14.out) (by omega) hkl10.out hkp10.out hl6 hlv hpu (by omega)
  rw [hsb10, hsb] at q15
  replace hS15 := Lib.hid hS15
  clear q14
  go_wp2_with fail
  refine q15.mono ?_
  rintro e w16 ⟨r16, s16, rfl, hS16, hT16, hV16⟩
  obtain rfl : ra = r16 := ((hWa.step hi10 hT14.out).step hi14 hT16).eq hS16.inv hV16 (fun _ => rfl)
  have q16 := keep_v (l := []) (v := .slice none 0 0) hS16 ⟨none, 0, rfl, .inl ⟨rfl, rfl, rfl⟩⟩ (by simp) (fun x hx => by cases hx)
  rw [hsb10, hsb] at q16
  replace hS16 := Lib.hid hS16
  clear q15
  go_wp2_with fail
  refine q16.mono ?_
  rintro e w17 ⟨kb2, v2, rfl, hcl2, _, hmx2, hom2, hS17⟩
  obtain ⟨cc2, bb2, rfl⟩ : ∃ cc bb, v2 = .slice bb 0 cc := by
    rcases hom2.2 with ⟨e, _⟩ | ⟨g2, cap2, cur2, e, _⟩
    · exact ⟨0, none, e⟩
    · exact ⟨cap2, some ⟨g2, 0, none⟩, e⟩
  have hlen2 : (L.keepS s16 kb2).nodes.length ≤ 2 := by
    show (L.keepNodes s16.nodes kb2).length ≤ 2
    rw [L.keep_len]
    exact closed_two hcl2 hmx2
  obtain ⟨B17, hR17, hS17'⟩ := hS17.held
  have q17 := not_bad (a := 2) hR17 hS17.ne (by omega)
  rw [hS17'.sb, hsb10, hsb] at q17
  replace hS17 := Lib.hid hS17
  replace hR17 := Lib.hid hR17
  replace hS17' := Lib.hid hS17'
  replace hom2 := Lib.hid hom2
  replace hcl2 := Lib.hid hcl2
  replace hmx2 := Lib.hid hmx2
  clear q16
  go_wp2_with fail
  refine q17.mono ?_
  rintro e w18 ⟨rfl, hx18⟩
  have hS18 := hS17.out.below hx18.below
  obtain ⟨f1, f2, f3, f4⟩ := F.out _ _ _ hS18
  have hbw18 := hS18.behind hbw10 hmw10 hbw10.size
  have cw := works_any w18 (hT.same (hbw18.block _ hT.lt')) (hP.same (hbw18.block _ hP.lt))
  replace hS18 := Lib.hid hS18
  clear q17
  go_wp2_with fail
  refine cw.mono ?_
  rintro e w19 ⟨rfl, hb19⟩
  go_wp2_with fail
  go_ret
  exact ⟨rfl, hbw18.trans (hb19.mono hbw18.size)⟩
theorem keeps_any {t : List VN} {ps qs : List Nat} (w : World) (ba bp bq : Option Addr) (cap cp cq : Nat) (hT : TzTab w) (hP : PowTab w) (h : t = [] ∨ ∃ b o, ba = some ⟨b, o, none⟩ ∧ TreeAt w b o t) (hp : InU w bp cp ps) (hq : InU w bq cq qs) :
    Calls Tryz.prog 4 #[.slice ba t.length cap, .slice bp ps.length cp, .slice bq qs.length cq] w fun e w' => e = .returned (.bool true) ∧ Below w.heap.size w w' := by
  by_cases hn : fewB t = false ∨ 8 < ps.length ∨ 8 < qs.length
  · exact keeps_works w ba bp bq cap cp cq hT hP h hn
  · rw [not_or, not_or] at hn
    have hf : fewB t = true := by simpa using hn.1
    rcases h with rfl | ⟨b, o, rfl, ht⟩
    · cases hf
    · exact keeps_ok w b o cap bp bq cp cq hT hP ht hp hq hf (by omega) (by omega)
end Go.Proofs.YteikmmfjhabijaaGreatDoor
