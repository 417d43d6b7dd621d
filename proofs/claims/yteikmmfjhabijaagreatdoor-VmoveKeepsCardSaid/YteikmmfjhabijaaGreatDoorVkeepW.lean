import Derived.Test.YteikmmfjhabijaaGreatDoorVcopy
set_option linter.unusedSimpArgs false
set_option linter.unusedVariables false
namespace Go.Proofs.YteikmmfjhabijaaGreatDoor
open Go Go.RowKit Go.Shelf

/-! VmoveKeeps: the store stays as it is. -/
theorem sumEl_perm (ns : List SNode) {l m : List Nat} (h : l.Perm m) : sumEl ns l = sumEl ns m := by
  induction h with
  | nil => rfl
  | cons x _ ih => simp only [sumEl, ih]
  | swap x y l => simp only [sumEl]; omega
  | trans _ _ ih1 ih2 => exact ih1.trans ih2
theorem sumEl_same (ns : List SNode) {l m : List Nat} (hl : l.Nodup) (hm : m.Nodup) (h : ∀ x, x ∈ l ↔ x ∈ m) : sumEl ns l = sumEl ns m :=
  sumEl_perm ns (by rw [List.perm_iff_count]; intro x; rw [hl.count, hm.count]; simp [h x])
set_option maxRecDepth 100000 in
set_option maxHeartbeats 4000000 in
theorem vkeeps_any {t : List VN} {bits more : Nat} {i z : Int} (w : World) (ba : Option Addr) (cap : Nat) (hT : TzTab w) (hP : PowTab w) (h : t = [] ∨ ∃ b o, ba = some ⟨b, o, none⟩ ∧ TreeAt w b o t) (hbt : bits < 65536) :
    Calls Tryz.prog 11 #[.slice ba t.length cap, .int .u16 (bits : Nat), .int .u16 (more : Nat), .int .i64 i, .int .i64 z] w fun e w' => e = .returned (.bool true) ∧ Below w.heap.size w w' := by
  have hw : ∀ w', Below w.heap.size w w' → Calls Tryz.prog 37 #[] w' fun e w'' => e = .returned (.bool true) ∧ Below w'.heap.size w' w'' := fun w' hx => vworks_any w' (hT.same (hx.block _ hT.lt')) (hP.same (hx.block _ hP.lt))
  have hq := few7_any w ba cap h
  cases hf : few7 t
  · rw [hf] at hq
    replace hw := Lib.hid hw
    go_enter Tryz.func11, Tryz.ntmps11
    go_wp2_with fail
    refine hq.mono ?_
    rintro e w1 ⟨rfl, hx1⟩
    have q := hw.out w1 hx1.below
    clear hq
    go_wp2_with fail
    refine q.mono ?_
    rintro e w2 ⟨rfl, hb2⟩
    go_wp2_with fail
    go_ret
    exact ⟨rfl, hx1.below.trans (hb2.mono hx1.size)⟩
  · rw [hf] at hq
    obtain ⟨h7, hc⟩ := few7_parts hf
    obtain ⟨b, o, rfl, ht⟩ := tree_some hc h
    obtain ⟨l, hl, _⟩ := vars_few hc (by omega)
    replace hw := Lib.hid hw
    replace hc := Lib.hid hc
    clear h hf
    go_enter Tryz.func11, Tryz.ntmps11
    go_wp2_with fail
    refine hq.mono ?_
    rintro e w1 ⟨rfl, hx1⟩
    have b1 := hx1.below
    have q := made_any (cap := cap) (hT.same (b1.block _ hT.lt')) (hP.same (b1.block _ hP.lt)) (ht.below b1) hc.out h7 hbt hl
    clear hq
    go_wp2_with fail
    refine q.mono ?_
    rintro e w2 ⟨B, so, r, rfl, hS2, hv2, hm2, hb2⟩
    have b2 := b1.trans (hb2.mono b1.size)
    generalize (fun y => bits.testBit (idxF l y)) = φ at *
    have q1 := text_v hS2 hv2.lt
    replace hS2 := Lib.hid hS2
    clear q
    go_wp2_with fail
    refine q1.mono ?_
    rintro e w3 ⟨rfl, hb3⟩
    have q2 := size_v (hS2.out.below hb3) hv2.lt
    clear q1
    go_wp2_with fail
    refine q2.mono ?_
    rintro e w4 ⟨o1, ho1, rfl, hb4⟩
    have b24 := hb3.trans (hb4.mono hb3.size)
    have b4 := b2.trans (b24.mono b2.size)
    obtain ⟨B4, hB4, hR4, hS4, hSt4⟩ := (hS2.out.below b24).here
    have qm := move_any (i := i) (z := z) hS4 hv2 h7 (hT.same (b4.block _ hT.lt')) (hP.same (b4.block _ hP.lt))
    rw [hB4] at qm
    replace hS4 := Lib.hid hS4
    replace hR4 := Lib.hid hR4
    replace b4 := Lib.hid b4
    replace ho1 := Lib.hid ho1
    clear q2 b2 b24 hb3 hb4 hSt4
    cases hcm : canM (kdOf z) t i
    · replace hcm := Lib.hid hcm
      go_wp2_with fail
      refine qm.mono ?_
      rintro e w5 ⟨hb5, hcase⟩
      obtain ⟨_, rfl⟩ := hcase.resolve_right (fun h => by rw [hcm.out] at h; exact Bool.noConfusion h.1)
      have hS5 := hS4.out.below hb5
      obtain ⟨B5, hB5, hR5, hS5', _⟩ := hS5.here
      have q3 := size_v hS5' hv2.lt
      rw [hB5, hB4] at q3
      have b5 := b4.out.trans (hb5.mono b4.out.size)
      replace hS5 := Lib.hid hS5
      replace hS5' := Lib.hid hS5'
      replace hR5 := Lib.hid hR5
      replace b5 := Lib.hid b5
      clear qm hcase hb5
      go_wp2_with fail
      refine q3.mono ?_
      rintro e w6 ⟨o2, ho2, rfl, hb6⟩
      have hsum := sumEl_same so.nodes ho2.1 ho1.out.1 (fun x => by rw [ho2.2, ho1.out.2])
      rw [hsum]
      have b6 := b5.out.trans (hb6.mono b5.out.size)
      obtain ⟨B6, hB6, hR6, hS6, _⟩ := (hS5'.out.below hb6).here
      have q4 := lhas_any (cap := cap) hS6 hv2 (ht.below b6)
      rw [hB6, hB5, hB4] at q4
      replace hS6 := Lib.hid hS6
      replace hR6 := Lib.hid hR6
      replace b6 := Lib.hid b6
      generalize sumEl so.nodes o1 = n1 at *
      clear q3 hb6 hsum ho2
      go_wp2_with fail
      refine q4.mono ?_
      rintro e w7 ⟨rfl, hb7⟩
      have b7 := b6.out.trans (hb7.mono b6.out.size)
      have qw := hw.out w7 b7
      clear q4
      go_wp2_with fail
      refine qw.mono ?_
      rintro e w8 ⟨rfl, hb8⟩
      go_wp2_with fail
      go_ret
      exact ⟨rfl, b7.trans (hb8.mono b7.size)⟩
    · replace hcm := Lib.hid hcm
      go_wp2_with fail
      refine qm.mono ?_
      rintro e w5 ⟨hb5, hcase⟩
      obtain ⟨_, n, T, U, B5, so5, r5, hin, hnl, hTT, hM, rfl, hS5, hv5, hm5⟩ := hcase.resolve_left (fun h => by rw [hcm.out] at h; exact Bool.noConfusion h.1)
      have qn := not_v (k' := 200000) hS5 (by omega) hv5
      have bm5 : ∀ j ∈ B5.mut, w4.heap.size ≤ j := hm5
      replace hS5 := Lib.hid hS5
      replace hb5 := Lib.hid hb5
      replace hM := Lib.hid hM
      replace hTT := Lib.hid hTT
      clear qm hcase
      go_wp2_with fail
      refine qn.mono ?_
      rintro e w6 ⟨r6, s6, rfl, hS6, hT6, hv6⟩
      have qa := and_v (k' := 100000) hS6 (by omega) hv6 (hv5.step hS5.out.inv hT6)
      have hin6 := hS6.inv
      replace hS6 := Lib.hid hS6
      replace hT6 := Lib.hid hT6
      clear qn
      go_wp2_with fail
      refine qa.mono ?_
      rintro e w7 ⟨r7, s7, rfl, hS7, hT7, hv7⟩
      have hi7 := hS7.inv
      have hr7 : r7 = 0 := Val.eq hi7 hv7 ⟨by have := hi7.len; omega, hi7.sem0⟩ fun x => by cases φ x <;> rfl
      subst hr7
      have b47 : Below w4.heap.size w4 w7 := hS7.behind hb5.out bm5 hb5.out.size
      obtain ⟨B8, hB8, hR8, hS8, _⟩ := (hS4.out.below b47).here
      have q3 := size_v hS8 hv2.lt
      rw [hB8, hB4] at q3
      have b7 := b4.out.trans (b47.mono b4.out.size)
      replace hS8 := Lib.hid hS8
      replace hR8 := Lib.hid hR8
      replace b7 := Lib.hid b7
      clear qa hS7 hT7 hv7 hi7 hin6 b47 hT6 hS6 hv6 hS5 hv5
      go_wp2_with fail
      refine q3.mono ?_
      rintro e w8 ⟨o2, ho2, rfl, hb8⟩
      have hsum := sumEl_same so.nodes ho2.1 ho1.out.1 (fun x => by rw [ho2.2, ho1.out.2])
      rw [hsum]
      have b8 := b7.out.trans (hb8.mono b7.out.size)
      obtain ⟨B9, hB9, hR9, hS9, _⟩ := (hS8.out.below hb8).here
      have q4 := lhas_any (cap := cap) hS9 hv2 (ht.below b8)
      rw [hB9, hB8, hB4] at q4
      replace hS9 := Lib.hid hS9
      replace hR9 := Lib.hid hR9
      replace b8 := Lib.hid b8
      generalize sumEl so.nodes o1 = n1 at *
      clear q3 hb8 hsum ho2
      go_wp2_with fail
      refine q4.mono ?_
      rintro e w9 ⟨rfl, hb9⟩
      have b9 := b8.out.trans (hb9.mono b8.out.size)
      have qw := hw.out w9 b9
      clear q4
      go_wp2_with fail
      refine qw.mono ?_
      rintro e w10 ⟨rfl, hb10⟩
      go_wp2_with fail
      go_ret
      exact ⟨rfl, b9.trans (hb10.mono b9.size)⟩
end Go.Proofs.YteikmmfjhabijaaGreatDoor
