import Derived.Test.YteikmmfjhabijaaGreatDoorVcopy2
import Derived.Test.YteikmmfjhabijaaGreatDoorRefuse
set_option linter.unusedSimpArgs false
set_option linter.unusedVariables false
namespace Go.Proofs.YteikmmfjhabijaaGreatDoor
open Go Go.RowKit Go.Shelf

/-! What is refused: moves and copies of nil stores, stores without a vtree, numbers that are none of a node. -/
section
variable {w : World} {p : Option Addr} {err : Int} {G : List Int → Prop} {root i : Int}
set_option maxRecDepth 100000 in
set_option maxHeartbeats 1000000 in
theorem apply_ref {fm : Nat} (hR : Refs p err G w) (hg : G [root]) (he : (err != 0) = true) :
    Calls Tryz.prog 96 #[.agg #[.func (.func fm) #[] #[]], .pointer p, .int .i64 root, .int .i64 i] w (RetNone err w) := by
  have hb1 := (Below.refl w.heap.size w).alloc (Nat.le_refl _) (.cells #[.func (.func fm) #[] #[]] 136)
  have q1 := size_ref (hR.ext hb1) hg he
  replace hR := Lib.hid hR
  go_enter Tryz.func96, Tryz.ntmps96
  go_wp2_with fail
  generalize w.alloc (.cells #[.func (.func fm) #[] #[]] 136) = w1 at *
  refine q1.mono ?_
  rintro e w2 ⟨rfl, hx2⟩
  go_wp2_with fail
  go_ret3
  exact ⟨rfl, hb1.trans (hx2.below.mono hb1.size)⟩
set_option maxRecDepth 100000 in
set_option maxHeartbeats 1000000 in
theorem mvright_ref (hR : Refs p err G w) (hg : G [root]) (he : (err != 0) = true) :
    Calls Tryz.prog 86 #[.pointer p, .int .i64 root, .int .i64 i] w (RetNone err w) := by
  have q := apply_ref (fm := 119) (i := i) hR hg he
  replace hR := Lib.hid hR
  go_enter Tryz.func86, Tryz.ntmps86
  go_wp2_with fail
  refine q.mono ?_
  rintro e w1 ⟨rfl, hb⟩
  clear q
  go_wp2_with fail
  go_ret3
  exact ⟨rfl, hb⟩
set_option maxRecDepth 100000 in
set_option maxHeartbeats 1000000 in
theorem mvleft_ref (hR : Refs p err G w) (hg : G [root]) (he : (err != 0) = true) :
    Calls Tryz.prog 49 #[.pointer p, .int .i64 root, .int .i64 i] w (RetNone err w) := by
  have q := apply_ref (fm := 97) (i := i) hR hg he
  replace hR := Lib.hid hR
  go_enter Tryz.func49, Tryz.ntmps49
  go_wp2_with fail
  refine q.mono ?_
  rintro e w1 ⟨rfl, hb⟩
  clear q
  go_wp2_with fail
  go_ret3
  exact ⟨rfl, hb⟩
set_option maxRecDepth 100000 in
set_option maxHeartbeats 1000000 in
theorem mvswap_ref (hR : Refs p err G w) (hg : G [root]) (he : (err != 0) = true) :
    Calls Tryz.prog 48 #[.pointer p, .int .i64 root, .int .i64 i] w (RetNone err w) := by
  have q := apply_ref (fm := 95) (i := i) hR hg he
  replace hR := Lib.hid hR
  go_enter Tryz.func48, Tryz.ntmps48
  go_wp2_with fail
  refine q.mono ?_
  rintro e w1 ⟨rfl, hb⟩
  clear q
  go_wp2_with fail
  go_ret3
  exact ⟨rfl, hb⟩
set_option maxRecDepth 100000 in
set_option maxHeartbeats 1000000 in
theorem move_ref {z : Int} (hR : Refs p err G w) (hg : G [root]) (he : (err != 0) = true) :
    Calls Tryz.prog 39 #[.pointer p, .int .i64 root, .int .i64 i, .int .i64 z] w (RetNone err w) := by
  by_cases h1 : z = 1
  · subst h1
    have q := mvright_ref (i := i) hR hg he
    replace hR := Lib.hid hR
    go_enter Tryz.func39, Tryz.ntmps39
    go_wp2_with fail
    refine q.mono ?_
    rintro e w1 ⟨rfl, hb⟩
    clear q
    go_wp2_with fail
    go_ret3
    exact ⟨rfl, hb⟩
  · have d1 : (z == 1) = false := by simpa using h1
    by_cases h2 : z = 2
    · subst h2
      have q := mvleft_ref (i := i) hR hg he
      replace hR := Lib.hid hR
      go_enter Tryz.func39, Tryz.ntmps39
      go_wp2_with fail
      refine q.mono ?_
      rintro e w1 ⟨rfl, hb⟩
      clear q
      go_wp2_with fail
      go_ret3
      exact ⟨rfl, hb⟩
    · have d2 : (z == 2) = false := by simpa using h2
      have q := mvswap_ref (i := i) hR hg he
      replace hR := Lib.hid hR
      go_enter Tryz.func39, Tryz.ntmps39
      go_wp2_with fail
      refine q.mono ?_
      rintro e w1 ⟨rfl, hb⟩
      clear q
      go_wp2_with fail
      go_ret3
      exact ⟨rfl, hb⟩
set_option maxRecDepth 100000 in
set_option maxHeartbeats 1000000 in
theorem copy_ref {ba : Option Addr} {n cap : Nat} (hR : Refs p err G w) (hg : G [root]) (he : (err != 0) = true) :
    Calls Tryz.prog 44 #[.pointer p, .int .i64 root, .slice ba n cap] w (RetNone err w) := by
  have q1 := size_ref hR hg he
  replace hR := Lib.hid hR
  go_enter Tryz.func44, Tryz.ntmps44
  go_wp2_with fail
  refine q1.mono ?_
  rintro e w2 ⟨rfl, hx2⟩
  go_wp2_with fail
  go_ret3
  exact ⟨rfl, hx2.below⟩
end
theorem bool_eqB {a b : Bool} (h : a = b) : Value.bool a = Value.bool b := by rw [h]
theorem few7_parts {t : List VN} (hf : few7 t = true) : t.length ≤ 7 ∧ checkF t = 0 := by
  unfold few7 at hf
  simpa only [Bool.and_eq_true, decide_eq_true_eq] using hf
theorem tree_some {W : World} {t : List VN} {ba : Option Addr} (hc : checkF t = 0) (h : t = [] ∨ ∃ b o, ba = some ⟨b, o, none⟩ ∧ TreeAt W b o t) : ∃ b o, ba = some ⟨b, o, none⟩ ∧ TreeAt W b o t :=
  h.resolve_left (fun e => by have := (check_ok hc).1; rw [e] at this; simp at this)
set_option maxRecDepth 100000 in
set_option maxHeartbeats 4000000 in
theorem verrs_any {t : List VN} {root i z : Int} (w : World) (ba : Option Addr) (cap : Nat) (hT : TzTab w) (hP : PowTab w) (h : t = [] ∨ ∃ b o, ba = some ⟨b, o, none⟩ ∧ TreeAt w b o t) :
    Calls Tryz.prog 13 #[.slice ba t.length cap, .int .i64 root, .int .i64 i, .int .i64 z] w fun e w' => e = .returned (.bool true) ∧ Below w.heap.size w w' := by
  have hw : ∀ w', Below w.heap.size w w' → Calls Tryz.prog 37 #[] w' fun e w'' => e = .returned (.bool true) ∧ Below w'.heap.size w' w'' := fun w' hx => vworks_any w' (hT.same (hx.block _ hT.lt')) (hP.same (hx.block _ hP.lt))
  have hq := few7_any w ba cap h
  cases hf : few7 t
  · rw [hf] at hq
    replace hw := Lib.hid hw
    go_enter Tryz.func13, Tryz.ntmps13
    go_wp2_with fail
    refine hq.mono ?_
    rintro e w1 ⟨rfl, hx1⟩
    have q := hw.out w1 hx1.below
    clear hq
    go_wp2_with fail
    refine q.mono ?_
    rintro e w2 ⟨rfl, hb2⟩
    go_wp2_with fail
    go_ret
    exact ⟨rfl, hx1.below.trans (hb2.mono hx1.size)⟩
  · rw [hf] at hq
    obtain ⟨h7, hc⟩ := few7_parts hf
    obtain ⟨b, o, rfl, ht⟩ := tree_some hc h
    replace hw := Lib.hid hw
    replace hc := Lib.hid hc
    clear h hf
    go_enter Tryz.func13, Tryz.ntmps13
    go_wp2_with fail
    refine hq.mono ?_
    rintro e w1 ⟨rfl, hx1⟩
    have b1 := hx1.below
    have q := new_v w1 b o cap (hT.same (b1.block _ hT.lt')) (hP.same (b1.block _ hP.lt)) (ht.below b1) hc.out (by omega)
    clear hq
    go_wp2_with fail
    refine q.mono ?_
    rintro e w2 ⟨B, rfl, hS2, v0, v1, hm2, hb2⟩
    have b2 := b1.trans (hb2.mono b1.size)
    have q1 := move_ref (root := root) (i := i) (z := z) (check_nil w2) trivial (by decide)
    replace hS2 := Lib.hid hS2
    clear q
    go_wp2_with fail
    refine q1.mono ?_
    rintro e w3 ⟨rfl, hb3⟩
    have q2 := copy_ref (root := root) (ba := some ⟨b, o, none⟩) (n := t.length) (cap := cap) (check_nil w3) trivial (by decide)
    clear q1
    go_wp2_with fail
    refine q2.mono ?_
    rintro e w4 ⟨rfl, hb4⟩
    have hbx := heap_alloc_new w4 (.cells #[.slice none 0 0, .map none, .slice none 0 0, .map none, .map none, .map none] 70)
    have hb5 := (Below.refl w4.heap.size w4).alloc (Nat.le_refl _) (.cells #[.slice none 0 0, .map none, .slice none 0 0, .map none, .map none, .map none] 70)
    have hc5 : (w4.alloc (.cells #[.slice none 0 0, .map none, .slice none 0 0, .map none, .map none, .map none] 70)).cell? ⟨w4.heap.size, 0, none⟩ = some (.slice none 0 0) := by rw [World.cell?, hbx]; rfl
    have q3 := move_ref (root := root) (i := i) (z := z) (check_zero hc5) trivial (by decide)
    have b34 := hb3.trans (hb4.mono hb3.size)
    have b35 := b34.trans (hb5.mono b34.size)
    clear q2 hbx hc5
    replace b35 := Lib.hid b35
    go_wp2_with fail
    generalize w4.alloc (.cells #[.slice none 0 0, .map none, .slice none 0 0, .map none, .map none, .map none] 70) = w5 at *
    refine q3.mono ?_
    rintro e w6 ⟨rfl, hb6⟩
    have b36 := b35.out.trans (hb6.mono b35.out.size)
    have b6 := b2.trans (b36.mono b2.size)
    obtain ⟨B6, hB6, hR6, hS6, hSt6⟩ := (hS2.out.below b36).here
    clear q3 b34 b35 hb3 hb4 hb5 hb6
    replace b36 := Lib.hid b36
    replace b6 := Lib.hid b6
    replace hR6 := Lib.hid hR6
    replace hS6 := Lib.hid hS6
    by_cases h01 : root = 0 ∨ root = 1
    · have hT6 := hT.same (b6.out.block _ hT.lt')
      have hP6 := hP.same (b6.out.block _ hP.lt)
      rcases h01 with rfl | rfl
      · have qc := copy_any (cap := cap) hS6.out v0 (ht.below b6.out) hc.out h7 (fun v => Iff.rfl) hT6 hP6
        rw [hB6] at qc
        go_wp2_with fail
        refine qc.mono ?_
        rintro e w7 ⟨B7, so, r, rfl, hS7, hv7, hm7, hb7⟩
        have b7 := b6.out.trans (hb7.mono b6.out.size)
        have hin := hS7.inv
        have hr : r = 0 := Val.eq hin hv7 ⟨by have := hin.len; omega, hin.sem0⟩ fun _ => rfl
        subst hr
        have qw := hw.out w7 b7
        replace hS7 := Lib.hid hS7
        replace b7 := Lib.hid b7
        clear qc hin
        go_wp2_with fail
        refine qw.mono ?_
        rintro e w8 ⟨rfl, hb8⟩
        go_wp2_with fail
        go_ret
        exact ⟨rfl, b7.out.trans (hb8.mono b7.out.size)⟩
      · have qc := copy_any (cap := cap) hS6.out v1 (ht.below b6.out) hc.out h7 (fun v => Iff.rfl) hT6 hP6
        rw [hB6] at qc
        go_wp2_with fail
        refine qc.mono ?_
        rintro e w7 ⟨B7, so, r, rfl, hS7, hv7, hm7, hb7⟩
        have b7 := b6.out.trans (hb7.mono b6.out.size)
        have hin := hS7.inv
        have hr : r = 1 := Val.eq hin hv7 ⟨by have := hin.len; omega, hin.sem1⟩ fun _ => rfl
        subst hr
        have qw := hw.out w7 b7
        replace hS7 := Lib.hid hS7
        replace b7 := Lib.hid b7
        clear qc hin
        go_wp2_with fail
        refine qw.mono ?_
        rintro e w8 ⟨rfl, hb8⟩
        go_wp2_with fail
        go_ret
        exact ⟨rfl, b7.out.trans (hb8.mono b7.out.size)⟩
    · have d0 : (root == 0) = false := by simp; omega
      have d1 : (root == 1) = false := by simp; omega
      have hno : ¬ (0 ≤ root ∧ root < ((newSt t).nodes.length : Int)) := by
        have : (newSt t).nodes.length = 2 := rfl
        rw [this]; omega
      have hbad := check_bad hS6.out root hno
      rw [hB6] at hbad
      have qm := move_ref (root := root) (i := i) (z := z) hbad (by simp) (by decide)
      replace hbad := Lib.hid hbad
      go_wp2_with fail
      refine qm.mono ?_
      rintro e w7 ⟨rfl, hb7⟩
      have qc := copy_ref (root := root) (ba := some ⟨b, o, none⟩) (n := t.length) (cap := cap) (hbad.out.ext hb7) (by simp) (by decide)
      clear qm
      go_wp2_with fail
      refine qc.mono ?_
      rintro e w8 ⟨rfl, hb8⟩
      have b78 := hb7.trans (hb8.mono hb7.size)
      have b8 := b6.out.trans (b78.mono b6.out.size)
      have qw := hw.out w8 b8
      clear qc
      go_wp2_with fail
      refine qw.mono ?_
      rintro e w9 ⟨rfl, hb9⟩
      go_wp2_with fail
      go_ret
      exact ⟨rfl, b8.trans (hb9.mono b8.size)⟩
end Go.Proofs.YteikmmfjhabijaaGreatDoor
