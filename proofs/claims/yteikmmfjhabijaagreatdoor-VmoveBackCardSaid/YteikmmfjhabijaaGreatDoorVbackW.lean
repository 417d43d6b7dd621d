import Derived.Test.YteikmmfjhabijaaGreatDoorVref
set_option linter.unusedSimpArgs false
set_option linter.unusedVariables false
namespace Go.Proofs.YteikmmfjhabijaaGreatDoor
open Go Go.RowKit Go.Shelf

/-! VmoveBack: a move and the opposite one. -/
theorem Rot_can {t : List VN} {kd n : Nat} {S S' : L.Tr} (h : L.IsT L.idc t n S) (hr : L.Rot kd S S') : canM kd t n = true := by
  have key : ∀ {l r : L.Tr}, L.IsT L.idc t n (.node l r) → ∃ (a b : Nat) (y : VN), t[n]? = some y ∧ leafB y = false ∧ y.left = a ∧ y.right = b ∧ L.IsT L.idc t a l ∧ L.IsT L.idc t b r := fun h => by
    cases h with
    | @node _ a b y _ _ h1 h2 h3 h4 g1 g2 => exact ⟨a, b, y, h1, h2, h3, h4, g1, g2⟩
  have inn : ∀ {k : Nat} {l r : L.Tr}, L.IsT L.idc t k (.node l r) → innerB t k = true := fun h => by
    cases h with
    | @node _ a b y _ _ h1 h2 h3 h4 g1 g2 => exact innerB_mk h1 h2
  cases hr with
  | right a b c =>
    obtain ⟨x, y, z, h1, h2, h3, h4, g1, g2⟩ := key h
    unfold canM
    rw [if_pos rfl, kidL_get h1, h3, innerB_mk h1 h2, inn g1]; rfl
  | left a b c =>
    obtain ⟨x, y, z, h1, h2, h3, h4, g1, g2⟩ := key h
    unfold canM
    rw [if_neg (by decide), if_pos rfl, kidR_get h1, h4, innerB_mk h1 h2, inn g2]; rfl
  | swap a b =>
    obtain ⟨x, y, z, h1, h2, h3, h4, g1, g2⟩ := key h
    unfold canM
    rw [if_neg (by decide), if_neg (by decide), innerB_mk h1 h2]; rfl
/-- the opposite move, by the law's number -/
def oppZ (z : Int) : Int := if z = 1 ∨ z = 2 then 3 - z else z
theorem kd_opp (z : Int) : kdOf (oppZ z) = L.oppK (kdOf z) := by
  unfold oppZ kdOf L.oppK
  by_cases h1 : z = 1
  · subst h1; rfl
  · by_cases h2 : z = 2
    · subst h2; rfl
    · simp [h1, h2]
theorem move_back {T U : L.Tr} {kd n : Nat} (hT : L.IsT L.idc (T.post 0) ((T.post 0).length - 1) T) (hM : L.Mv (T.post 0) kd n ((T.post 0).length - 1) T U) : L.Mv (U.post 0) (L.oppK kd) n ((U.post 0).length - 1) U T := by
  have e1 : (T.post 0).length - 1 = 0 + T.size - 1 := by rw [L.Tr.post_len]; omega
  have e2 : (U.post 0).length - 1 = 0 + U.size - 1 := by rw [L.Tr.post_len]; omega
  rw [e1] at hM
  rw [e2]
  exact L.mv_post T U 0 [] [] [] [] (by simp) rfl (by simp) rfl hM
set_option maxRecDepth 100000 in
set_option maxHeartbeats 4000000 in
theorem vback_any {t : List VN} {bits : Nat} {i z : Int} (w : World) (ba : Option Addr) (cap : Nat) (hT : TzTab w) (hP : PowTab w) (h : t = [] ∨ ∃ b o, ba = some ⟨b, o, none⟩ ∧ TreeAt w b o t) (hbt : bits < 65536) (hz : -9223372036854775808 ≤ z ∧ z ≤ 9223372036854775807) :
    Calls Tryz.prog 9 #[.slice ba t.length cap, .int .u16 (bits : Nat), .int .i64 i, .int .i64 z] w fun e w' => e = .returned (.bool true) ∧ Below w.heap.size w w' := by
  have hw : ∀ w', Below w.heap.size w w' → Calls Tryz.prog 37 #[] w' fun e w'' => e = .returned (.bool true) ∧ Below w'.heap.size w' w'' := fun w' hx => vworks_any w' (hT.same (hx.block _ hT.lt')) (hP.same (hx.block _ hP.lt))
  have hq := few7_any w ba cap h
  cases hf : few7 t
  · rw [hf] at hq
    replace hw := Lib.hid hw
    go_enter Tryz.func9, Tryz.ntmps9
    go_wp2_with fail
    refine hq.mono ?_
    rintro e w1 ⟨rfl, hx1⟩
    have q := hw.out w1 hx1.below
    clear hq
    go_wp2_with fail
    refine q.mono ?_
    rintro e w2 ⟨rfl, hb2⟩
    go_wp2_with fail
    go_ret
    exact ⟨rfl, hx1.below.trans (hb2.mono hx1.size)⟩
  · rw [hf] at hq
    obtain ⟨h7, hc⟩ := few7_parts hf
    obtain ⟨b, o, rfl, ht⟩ := tree_some hc h
    obtain ⟨T, hTT⟩ := L.isT_exists hc t.length (t.length - 1) (by have := (check_ok hc).1; omega) (by have := (check_ok hc).1; omega)
    have hsz := hTT.size_le hc
    obtain ⟨hcP, hTP⟩ := L.post_ok (hTT.nodup hc) (hTT.range hc) (by omega)
    have hlP := L.Tr.post_len T 0
    obtain ⟨l, hl, _⟩ := vars_few hcP (by omega)
    replace hw := Lib.hid hw
    replace hTT := Lib.hid hTT
    replace hTP := Lib.hid hTP
    replace hcP := Lib.hid hcP
    replace hlP := Lib.hid hlP
    clear h hf hc
    go_enter Tryz.func9, Tryz.ntmps9
    go_wp2_with fail
    refine hq.mono ?_
    rintro e w1 ⟨rfl, hx1⟩
    have b1 := hx1.below
    have qp := refPost_any (c := cap) (ht.below b1) hTT.out (by omega) (by omega)
    clear hq
    go_wp2_with fail
    refine qp.mono ?_
    rintro e w2 ⟨g, cg, rfl, htg, hgg, hb2⟩
    have b2 := b1.trans (hb2.mono b1.size)
    have q := made_any (cap := cg) (hT.same (b2.block _ hT.lt')) (hP.same (b2.block _ hP.lt)) htg hcP.out (by have := hlP.out; omega) hbt hl
    clear qp
    go_wp2_with fail
    refine q.mono ?_
    rintro e w3 ⟨B, so, r, rfl, hS3, hv3, hm3, hb3⟩
    have b3 := b2.trans (hb3.mono b2.size)
    generalize (fun y => bits.testBit (idxF l y)) = φ at *
    have qm := move_any (i := i) (z := z) hS3 hv3 (by have := hlP.out; omega) (hT.same (b3.block _ hT.lt')) (hP.same (b3.block _ hP.lt))
    replace hS3 := Lib.hid hS3
    replace b3 := Lib.hid b3
    clear q
    cases hcm : canM (kdOf z) (T.post 0) i
    · replace hcm := Lib.hid hcm
      go_wp2_with fail
      refine qm.mono ?_
      rintro e w4 ⟨hb4, hcase⟩
      obtain ⟨_, rfl⟩ := hcase.resolve_right (fun h => by rw [hcm.out] at h; exact Bool.noConfusion h.1)
      have b4 := b3.out.trans (hb4.mono b3.out.size)
      have qw := hw.out w4 b4
      clear qm hcase
      go_wp2_with fail
      refine qw.mono ?_
      rintro e w5 ⟨rfl, hb5⟩
      go_wp2_with fail
      go_ret
      exact ⟨rfl, b4.trans (hb5.mono b4.size)⟩
    · replace hcm := Lib.hid hcm
      have hopp : Hid (kdOf (oppZ z) = L.oppK (kdOf z)) := Lib.hid (kd_opp z)
      have hdz : ∀ Q : Int → Prop, Q (oppZ z) → ((z = 1 ∨ z = 2) → Q (3 - z)) ∧ (¬ (z = 1 ∨ z = 2) → Q z) := fun Q hQ => ⟨fun h => by have := hQ; unfold oppZ at this; rwa [if_pos h] at this, fun h => by have := hQ; unfold oppZ at this; rwa [if_neg h] at this⟩
      have hwz : (z = 1 ∨ z = 2) → IntKind.i64.wrap (3 - z) = 3 - z := fun h => IntWalk.i64_in _ (by omega)
      have qback : Hid (∀ w4 n U B5 so5 r5, L.IsT L.idc (T.post 0) ((T.post 0).length - 1) T → L.Mv (T.post 0) (kdOf z) n ((T.post 0).length - 1) T U → i = (n : Nat) → SS (U.post 0) B5 w4 300000 so5 w4 → Val so5 r5 φ → Below w.heap.size w w4 →
          Calls Tryz.prog 39 #[.pointer (some ⟨B5.sb, 0, none⟩), .int .i64 (r5 : Nat), .int .i64 i, .int .i64 (oppZ z)] w4 fun e w5 => ∃ B6 so6 r6, e = .returned (.tuple #[.pointer (some ⟨B6.sb, 0, none⟩), .int .i64 (r6 : Nat), .int .i64 0]) ∧ SS (T.post 0) B6 w5 300000 so6 w5 ∧ Val so6 r6 φ ∧ Below w4.heap.size w4 w5) := Lib.hid fun w4 n U B5 so5 r5 hT0 hM hin hS hv hb => by
        subst hin
        obtain ⟨m1, m2, m3, m4⟩ := L.moved_ok hcP.out hT0 hM
        have hMb := move_back hT0 hM
        refine (move_any (i := (n : Nat)) (z := oppZ z) hS hv (by have := hlP.out; omega) (hT.same (hb.block _ hT.lt')) (hP.same (hb.block _ hP.lt))).mono ?_
        rintro e w5 ⟨hb5, hcase⟩
        have hcan : canM (kdOf (oppZ z)) (U.post 0) (n : Nat) = true := by
          rw [hopp.out]
          obtain ⟨S1, S2, h1, h2⟩ := hMb.sub m2
          exact Rot_can h1 h2
        obtain ⟨_, n2, T2, U2, B6, so6, r6, hn2, _, hT2, hM2, rfl, hS6, hv6, _⟩ := hcase.resolve_left (fun h => by rw [hcan] at h; exact Bool.noConfusion h.1)
        have e1 := hT2.uniq m2
        subst e1
        have e2 : n2 = n := by omega
        subst e2
        rw [hopp.out] at hM2
        have e3 := hMb.uniq m1 m2 hM2
        subst e3
        exact ⟨B6, so6, r6, rfl, hS6, hv6, hb5⟩
      by_cases h12 : z = 1 ∨ z = 2
      · have hoz : oppZ z = 3 - z := if_pos h12
        rw [hoz] at qback
        replace hwz := hwz h12
        replace hoz := Lib.hid hoz
        clear hdz hopp
        rcases h12 with rfl | rfl
        · go_wp2_with fail
          refine qm.mono ?_
          rintro e w4 ⟨hb4, hcase⟩
          obtain ⟨_, n, T', U, B5, so5, r5, hin, hnl, hT5, hM, rfl, hS5, hv5, hm5⟩ := hcase.resolve_left (fun h => by rw [hcm.out] at h; exact Bool.noConfusion h.1)
          have e1 := hT5.uniq hTP.out
          subst e1
          have b4 := b3.out.trans (hb4.mono b3.out.size)
          have qk := qback.out w4 n U B5 so5 r5 hT5 hM hin hS5 hv5 b4
          replace hS5 := Lib.hid hS5
          replace hM := Lib.hid hM
          replace hT5 := Lib.hid hT5
          replace hin := Lib.hid hin
          replace b4 := Lib.hid b4
          replace hb4 := Lib.hid hb4
          clear qm hcase qback
          go_wp2_with fail
          refine qk.mono ?_
          rintro e w5 ⟨B6, so6, r6, rfl, hS6, hv6, hb5⟩
          have b5 := b4.out.trans (hb5.mono b4.out.size)
          have b35 := hb4.out.trans (hb5.mono hb4.out.size)
          obtain ⟨B7, hB7, hR7, hS7, _⟩ := (hS3.out.below b35).here
          have qx := text_v hS7 hv3.lt
          rw [hB7] at qx
          have ex : L.tx so.nodes r = L.tx so6.nodes r6 := L.tx_eq hS7.inv hS6.inv (by rw [hS6.tree, hS7.tree]) r r6 hv3.lt hv6.lt (funext fun y => by rw [hv3.sem, hv6.sem])
          rw [ex] at qx
          have qh := fun W (hb : Below w5.heap.size w5 W) (hb0 : Below w2.heap.size w2 W) => (hS6.below hb).here.elim fun Bz hz => by
            have := lhas_any (cap := cg) hz.2.2.1 hv6 (htg.below hb0)
            rw [hz.1] at this
            exact this
          generalize (⟨(L.tx so6.nodes r6).toArray⟩ : ByteArray) = X at *
          have b25 := hb3.trans (b35.mono hb3.size)
          replace qh := Lib.hid qh
          replace ex := Lib.hid ex
          replace hS6 := Lib.hid hS6
          replace hS7 := Lib.hid hS7
          replace hR7 := Lib.hid hR7
          replace b5 := Lib.hid b5
          clear qk
          go_wp2_with fail
          refine qx.mono ?_
          rintro e w6 ⟨rfl, hb6⟩
          have b6 := b5.out.trans (hb6.mono b5.out.size)
          have qh' := qh.out w6 hb6 (b25.trans (hb6.mono b25.size))
          replace b6 := Lib.hid b6
          clear qx
          go_wp2_with fail
          refine qh'.mono ?_
          rintro e w7 ⟨rfl, hb7⟩
          have b7 := b6.out.trans (hb7.mono b6.out.size)
          have qw := hw.out w7 b7
          clear qh'
          go_wp2_with fail
          refine qw.mono ?_
          rintro e w8 ⟨rfl, hb8⟩
          go_wp2_with fail
          go_ret
          exact ⟨rfl, b7.trans (hb8.mono b7.size)⟩
        · go_wp2_with fail
          refine qm.mono ?_
          rintro e w4 ⟨hb4, hcase⟩
          obtain ⟨_, n, T', U, B5, so5, r5, hin, hnl, hT5, hM, rfl, hS5, hv5, hm5⟩ := hcase.resolve_left (fun h => by rw [hcm.out] at h; exact Bool.noConfusion h.1)
          have e1 := hT5.uniq hTP.out
          subst e1
          have b4 := b3.out.trans (hb4.mono b3.out.size)
          have qk := qback.out w4 n U B5 so5 r5 hT5 hM hin hS5 hv5 b4
          replace hS5 := Lib.hid hS5
          replace hM := Lib.hid hM
          replace hT5 := Lib.hid hT5
          replace hin := Lib.hid hin
          replace b4 := Lib.hid b4
          replace hb4 := Lib.hid hb4
          clear qm hcase qback
          go_wp2_with fail
          refine qk.mono ?_
          rintro e w5 ⟨B6, so6, r6, rfl, hS6, hv6, hb5⟩
          have b5 := b4.out.trans (hb5.mono b4.out.size)
          have b35 := hb4.out.trans (hb5.mono hb4.out.size)
          obtain ⟨B7, hB7, hR7, hS7, _⟩ := (hS3.out.below b35).here
          have qx := text_v hS7 hv3.lt
          rw [hB7] at qx
          have ex : L.tx so.nodes r = L.tx so6.nodes r6 := L.tx_eq hS7.inv hS6.inv (by rw [hS6.tree, hS7.tree]) r r6 hv3.lt hv6.lt (funext fun y => by rw [hv3.sem, hv6.sem])
          rw [ex] at qx
          have qh := fun W (hb : Below w5.heap.size w5 W) (hb0 : Below w2.heap.size w2 W) => (hS6.below hb).here.elim fun Bz hz => by
            have := lhas_any (cap := cg) hz.2.2.1 hv6 (htg.below hb0)
            rw [hz.1] at this
            exact this
          generalize (⟨(L.tx so6.nodes r6).toArray⟩ : ByteArray) = X at *
          have b25 := hb3.trans (b35.mono hb3.size)
          replace qh := Lib.hid qh
          replace ex := Lib.hid ex
          replace hS6 := Lib.hid hS6
          replace hS7 := Lib.hid hS7
          replace hR7 := Lib.hid hR7
          replace b5 := Lib.hid b5
          clear qk
          go_wp2_with fail
          refine qx.mono ?_
          rintro e w6 ⟨rfl, hb6⟩
          have b6 := b5.out.trans (hb6.mono b5.out.size)
          have qh' := qh.out w6 hb6 (b25.trans (hb6.mono b25.size))
          replace b6 := Lib.hid b6
          clear qx
          go_wp2_with fail
          refine qh'.mono ?_
          rintro e w7 ⟨rfl, hb7⟩
          have b7 := b6.out.trans (hb7.mono b6.out.size)
          have qw := hw.out w7 b7
          clear qh'
          go_wp2_with fail
          refine qw.mono ?_
          rintro e w8 ⟨rfl, hb8⟩
          go_wp2_with fail
          go_ret
          exact ⟨rfl, b7.trans (hb8.mono b7.size)⟩
      · have hoz : oppZ z = z := if_neg h12
        rw [hoz] at qback
        have d1 : (z == 1) = false := by simp; omega
        have d2 : (z == 2) = false := by simp; omega
        clear hdz hopp hwz h12
        replace hoz := Lib.hid hoz
        refine (fun hdum : True => ?_) trivial
        · go_wp2_with fail
          refine qm.mono ?_
          rintro e w4 ⟨hb4, hcase⟩
          obtain ⟨_, n, T', U, B5, so5, r5, hin, hnl, hT5, hM, rfl, hS5, hv5, hm5⟩ := hcase.resolve_left (fun h => by rw [hcm.out] at h; exact Bool.noConfusion h.1)
          have e1 := hT5.uniq hTP.out
          subst e1
          have b4 := b3.out.trans (hb4.mono b3.out.size)
          have qk := qback.out w4 n U B5 so5 r5 hT5 hM hin hS5 hv5 b4
          replace hS5 := Lib.hid hS5
          replace hM := Lib.hid hM
          replace hT5 := Lib.hid hT5
          replace hin := Lib.hid hin
          replace b4 := Lib.hid b4
          replace hb4 := Lib.hid hb4
          clear qm hcase qback
          go_wp2_with fail
          refine qk.mono ?_
          rintro e w5 ⟨B6, so6, r6, rfl, hS6, hv6, hb5⟩
          have b5 := b4.out.trans (hb5.mono b4.out.size)
          have b35 := hb4.out.trans (hb5.mono hb4.out.size)
          obtain ⟨B7, hB7, hR7, hS7, _⟩ := (hS3.out.below b35).here
          have qx := text_v hS7 hv3.lt
          rw [hB7] at qx
          have ex : L.tx so.nodes r = L.tx so6.nodes r6 := L.tx_eq hS7.inv hS6.inv (by rw [hS6.tree, hS7.tree]) r r6 hv3.lt hv6.lt (funext fun y => by rw [hv3.sem, hv6.sem])
          rw [ex] at qx
          have qh := fun W (hb : Below w5.heap.size w5 W) (hb0 : Below w2.heap.size w2 W) => (hS6.below hb).here.elim fun Bz hz => by
            have := lhas_any (cap := cg) hz.2.2.1 hv6 (htg.below hb0)
            rw [hz.1] at this
            exact this
          generalize (⟨(L.tx so6.nodes r6).toArray⟩ : ByteArray) = X at *
          have b25 := hb3.trans (b35.mono hb3.size)
          replace qh := Lib.hid qh
          replace ex := Lib.hid ex
          replace hS6 := Lib.hid hS6
          replace hS7 := Lib.hid hS7
          replace hR7 := Lib.hid hR7
          replace b5 := Lib.hid b5
          clear qk
          go_wp2_with fail
          refine qx.mono ?_
          rintro e w6 ⟨rfl, hb6⟩
          have b6 := b5.out.trans (hb6.mono b5.out.size)
          have qh' := qh.out w6 hb6 (b25.trans (hb6.mono b25.size))
          replace b6 := Lib.hid b6
          clear qx
          go_wp2_with fail
          refine qh'.mono ?_
          rintro e w7 ⟨rfl, hb7⟩
          have b7 := b6.out.trans (hb7.mono b6.out.size)
          have qw := hw.out w7 b7
          clear qh'
          go_wp2_with fail
          refine qw.mono ?_
          rintro e w8 ⟨rfl, hb8⟩
          go_wp2_with fail
          go_ret
          exact ⟨rfl, b7.trans (hb8.mono b7.size)⟩
end Go.Proofs.YteikmmfjhabijaaGreatDoor
