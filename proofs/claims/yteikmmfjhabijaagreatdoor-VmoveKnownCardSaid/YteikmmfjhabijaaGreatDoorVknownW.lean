import Derived.Test.YteikmmfjhabijaaGreatDoorVcopy
set_option linter.unusedSimpArgs false
set_option linter.unusedVariables false
namespace Go.Proofs.YteikmmfjhabijaaGreatDoor
open Go Go.RowKit Go.Shelf

/-! VmoveKnown: the examples of the chapter. -/
def vk1 : List VN := [⟨-1, -1, 1⟩, ⟨-1, -1, 2⟩, ⟨0, 1, 0⟩]
def vk2 : List VN := [⟨-1, -1, 2⟩, ⟨-1, -1, 1⟩, ⟨0, 1, 0⟩]
def vk3 : List VN := [⟨-1, -1, 1⟩, ⟨-1, -1, 3⟩, ⟨0, 1, 0⟩]
def vkText : List UInt8 := [40, 45, 50, 32, 70, 59, 32, 50, 32, 49, 41]
def vkB : Bool := match literalF (newSt vk2) 1 1 with
  | none => false
  | some (a, s1) => decide (L.tx s1.nodes a = [49]) && match literalF s1 2 0 with
    | none => false
    | some (b, s2) => match andF 14 s2 a b with
      | none => false
      | some (c, s3) => decide (L.tx s3.nodes c = vkText)
theorem vk_data : vkB = true := by kernel_rfl
theorem vk_chk : checkF vk1 = 0 ∧ checkF vk2 = 0 ∧ checkF vk3 = 0 := ⟨by kernel_rfl, by kernel_rfl, by kernel_rfl⟩
theorem vk_texts : ∃ s1 a s3 c, DS vk2 s1 ∧ (Val s1 a fun y => y 1) ∧ L.tx s1.nodes a = [49] ∧ DS vk2 s3 ∧ (Val s3 c fun y => y 1 && y 2) ∧ L.tx s3.nodes c = vkText := by
  have hc := vk_chk.2.1
  have h0 : DS vk2 (newSt vk2) := ⟨⟨new_inv hc, by show vk2.length ≤ 11; decide, by rw [new_big]; exact Nat.le_refl _⟩, rfl⟩
  obtain ⟨a, s1, e1, d1, st1, v1⟩ := ds_lit (l := 1) (u := 1) h0 (y := ⟨-1, -1, 1⟩) rfl rfl rfl
  obtain ⟨b, s2, e2, d2, st2, v2⟩ := ds_lit (l := 2) (u := 0) d1 (y := ⟨-1, -1, 2⟩) rfl rfl rfl
  obtain ⟨c, s3, e3, d3, st3, v3⟩ := ds_and d2 hc (by decide) (v1.step d1.room.inv st2) v2
  have e1 : literalF (newSt vk2) 1 1 = some (a, s1) := e1
  have e2 : literalF s1 2 0 = some (b, s2) := e2
  have hd := vk_data
  unfold vkB at hd
  rw [e1] at hd
  simp only at hd
  rw [e2] at hd
  simp only at hd
  rw [e3] at hd
  simp only [Bool.and_eq_true, decide_eq_true_eq] at hd
  exact ⟨s1, a, s3, c, d1, v1.congr fun y => by simp [litφ], hd.1, d3, v3.congr fun y => by simp [litφ], hd.2⟩
theorem vk_fun8 (y : L.Asg) : (8 : Nat).testBit (idxF [1, 2] y) = (y 1 && y 2) := by
  simp only [idxF, idxK, List.length_cons, List.length_nil, List.getD_cons_zero, List.getD_cons_succ]
  cases y 1 <;> cases y 2 <;> rfl
theorem vk_fun12 (y : L.Asg) : (12 : Nat).testBit (idxF [1, 2] y) = y 1 := by
  simp only [idxF, idxK, List.length_cons, List.length_nil, List.getD_cons_zero, List.getD_cons_succ]
  cases y 1 <;> cases y 2 <;> rfl
theorem vk_tree {T U : L.Tr} (hT : L.IsT L.idc vk1 (vk1.length - 1) T) (hM : L.Mv vk1 3 2 (vk1.length - 1) T U) : U.post 0 = vk2 := by
  have hc := vk_chk.1
  have h1 : L.IsT L.idc vk1 2 (.node (.leaf 1) (.leaf 2)) :=
    .node (y := ⟨0, 1, 0⟩) (a := 0) (b := 1) rfl rfl rfl rfl (.leaf (y := ⟨-1, -1, 1⟩) rfl rfl) (.leaf (y := ⟨-1, -1, 2⟩) rfl rfl)
  have e := L.IsT.uniq hT h1
  subst e
  have e2 := hM.uniq hc hT (.here (.swap _ _))
  subst e2
  rfl
theorem vk_other : ¬ ∀ v, VarOf vk1 v ↔ VarOf vk3 v := fun h => by
  obtain ⟨u, y, h1, h2, h3⟩ := (h 2).1 ⟨1, ⟨-1, -1, 2⟩, rfl, rfl, rfl⟩
  have hu : u < 3 := (List.getElem?_eq_some_iff.1 h1).1
  have hu' : u = 0 ∨ u = 1 ∨ u = 2 := by omega
  rcases hu' with rfl | rfl | rfl
  · cases h1; cases h3
  · cases h1; cases h3
  · cases h1; cases h3
set_option maxRecDepth 100000 in
set_option maxHeartbeats 4000000 in
theorem vknown_any (w : World) (hT : TzTab w) (hP : PowTab w) : Calls Tryz.prog 14 #[] w fun e w' => e = .returned (.bool true) ∧ Below w.heap.size w w' := by
  obtain ⟨c1, c2, c3⟩ := vk_chk
  obtain ⟨sx, ax, sy, ay, dx, vx, tx1, dy, vy, tx2⟩ := vk_texts
  have hv1 : varsR vk1 = some [1, 2] := by kernel_rfl
  obtain ⟨g0, g1, g2⟩ := three_all w (.cells (treeCells vk1).toArray 96) (.cells (treeCells vk2).toArray 96) (.cells (treeCells vk3).toArray 96)
  obtain ⟨w1, hw1⟩ : ∃ w1, w1 = ((w.alloc (.cells (treeCells vk1).toArray 96)).alloc (.cells (treeCells vk2).toArray 96)).alloc (.cells (treeCells vk3).toArray 96) := ⟨_, rfl⟩
  rw [← hw1] at g0 g1 g2
  have b1 : Below w.heap.size w w1 := by rw [hw1]; exact ((((Ext.refl w).alloc _).alloc _).alloc _).below
  have mk : ∀ (k : Nat) (t : List VN), w1.heap[k]? = some (.cells (treeCells t).toArray 96 (0, 0)) → TreeAt w1 k 0 t := fun k t hk j u hj => by
    rw [World.cell?, hk, Nat.zero_add]
    simpa using hj
  have t1 := mk _ _ g0
  have t2 := mk _ _ g1
  have t3 := mk _ _ g2
  have hW1 : w1 = ((w.alloc (.cells #[.int .i64 (-1), .int .i64 (-1), .int .i64 1, .int .i64 (-1), .int .i64 (-1), .int .i64 2, .int .i64 0, .int .i64 1, .int .i64 0] 96)).alloc (.cells #[.int .i64 (-1), .int .i64 (-1), .int .i64 2, .int .i64 (-1), .int .i64 (-1), .int .i64 1, .int .i64 0, .int .i64 1, .int .i64 0] 96)).alloc (.cells #[.int .i64 (-1), .int .i64 (-1), .int .i64 1, .int .i64 (-1), .int .i64 (-1), .int .i64 3, .int .i64 0, .int .i64 1, .int .i64 0] 96) := hw1
  have q1 := made_any (cap := 3) (bits := 8) (hT.same (b1.block _ hT.lt')) (hP.same (b1.block _ hP.lt)) t1 c1 (by decide) (by omega) hv1
  have hw : ∀ w', Below w.heap.size w w' → Calls Tryz.prog 37 #[] w' fun e w'' => e = .returned (.bool true) ∧ Below w'.heap.size w' w'' := fun w' hx => vworks_any w' (hT.same (hx.block _ hT.lt')) (hP.same (hx.block _ hP.lt))
  replace hw := Lib.hid hw
  replace b1 := Lib.hid b1
  replace t1 := Lib.hid t1
  replace t2 := Lib.hid t2
  replace t3 := Lib.hid t3
  replace dx := Lib.hid dx
  replace vx := Lib.hid vx
  replace dy := Lib.hid dy
  replace vy := Lib.hid vy
  replace tx1 := Lib.hid tx1
  replace tx2 := Lib.hid tx2
  replace hv1 := Lib.hid hv1
  replace c1 := Lib.hid c1
  replace c2 := Lib.hid c2
  replace c3 := Lib.hid c3
  replace hW1 := Lib.hid hW1
  clear mk g0 g1 g2 hw1
  go_enter Tryz.func14, Tryz.ntmps14
  go_wp2_with fail
  rw [← hW1.out]
  refine q1.mono ?_
  rintro e w2 ⟨B2, s2, r2, rfl, hS2, hv2, hm2, hb2⟩
  have b2 := b1.out.trans (hb2.mono b1.out.size)
  have q2 := made_any (cap := 3) (bits := 12) (hT.same (b2.block _ hT.lt')) (hP.same (b2.block _ hP.lt)) (t1.out.below hb2) c1.out (by decide) (by omega) hv1.out
  replace hS2 := Lib.hid hS2
  replace hb2 := Lib.hid hb2
  clear q1
  go_wp2_with fail
  refine q2.mono ?_
  rintro e w3 ⟨B3, s3, r3, rfl, hS3, hv3, hm3, hb3⟩
  have b3 := b2.trans (hb3.mono b2.size)
  have b13 := hb2.out.trans (hb3.mono hb2.out.size)
  obtain ⟨D3, hD3, hR3, hT3, _⟩ := (hS2.out.below hb3).here
  have q3 := mvswap_any (i := 2) hT3 hv2 (by decide) (hT.same (b3.block _ hT.lt')) (hP.same (b3.block _ hP.lt))
  rw [hD3] at q3
  replace hS3 := Lib.hid hS3
  replace hT3 := Lib.hid hT3
  replace hR3 := Lib.hid hR3
  clear q2
  go_wp2_with fail
  refine q3.mono ?_
  rintro e w4 ⟨hb4, ⟨hcm, _⟩ | ⟨_, n4, T4, U4, B4, s4, r4, hin4, _, hTT4, hM4, rfl, hS4, hv4, hm4⟩⟩
  · exact absurd hcm (by decide)
  obtain rfl : n4 = 2 := by omega
  clear hin4
  have e4 := vk_tree hTT4 hM4
  rw [e4] at hS4
  have x4 : L.tx s4.nodes r4 = vkText := by
    rw [← tx2.out]
    exact L.tx_eq hS4.inv dy.out.room.inv (by rw [dy.out.tree, hS4.tree]) r4 ay hv4.lt vy.out.lt (funext fun y => by rw [hv4.sem, vy.out.sem, vk_fun8])
  have b4 := b3.trans (hb4.mono b3.size)
  have b14 := b13.trans (hb4.mono b13.size)
  obtain ⟨D4, hD4, hR4, hT4, _⟩ := (hS3.out.below hb4).here
  have q4 := mvswap_any (i := 2) hT4 hv3 (by decide) (hT.same (b4.block _ hT.lt')) (hP.same (b4.block _ hP.lt))
  rw [hD4] at q4
  replace hS4 := Lib.hid hS4
  replace hT4 := Lib.hid hT4
  replace hR4 := Lib.hid hR4
  replace x4 := Lib.hid x4
  replace hM4 := Lib.hid hM4
  replace hTT4 := Lib.hid hTT4
  replace e4 := Lib.hid e4
  clear q3
  go_wp2_with fail
  refine q4.mono ?_
  rintro e w5 ⟨hb5, ⟨hcm, _⟩ | ⟨_, n5, T5, U5, B5, s5, r5, hin5, _, hTT5, hM5, rfl, hS5, hv5, hm5⟩⟩
  · exact absurd hcm (by decide)
  obtain rfl : n5 = 2 := by omega
  clear hin5
  have e5 := vk_tree hTT5 hM5
  rw [e5] at hS5
  have x5 : L.tx s5.nodes r5 = [49] := by
    rw [← tx1.out]
    exact L.tx_eq hS5.inv dx.out.room.inv (by rw [dx.out.tree, hS5.tree]) r5 ax hv5.lt vx.out.lt (funext fun y => by rw [hv5.sem, vx.out.sem, vk_fun12])
  have b5 := b4.trans (hb5.mono b4.size)
  have b15 := b14.trans (hb5.mono b14.size)
  have b35 := hb4.trans (hb5.mono hb4.size)
  obtain ⟨D5, hD5, hR5, hT5, _⟩ := (hT3.out.below b35).here
  have hin := hT5.inv
  have q5 := mvleft_any (i := 2) hT5 (root := 0) (φ := fun _ => false) ⟨by have := hin.len; omega, hin.sem0⟩ (by decide) (hT.same (b5.block _ hT.lt')) (hP.same (b5.block _ hP.lt))
  rw [hD5, hD3] at q5
  replace hS5 := Lib.hid hS5
  replace hT5 := Lib.hid hT5
  replace hR5 := Lib.hid hR5
  replace x5 := Lib.hid x5
  replace hM5 := Lib.hid hM5
  replace hTT5 := Lib.hid hTT5
  replace e5 := Lib.hid e5
  clear q4 hin
  go_wp2_with fail
  refine q5.mono ?_
  rintro e w6 ⟨hb6, ⟨hcm, rfl⟩ | ⟨hcm, _⟩⟩
  rotate_left
  · exact absurd hcm (by decide)
  have b6 := b5.trans (hb6.mono b5.size)
  have b16 := b15.trans (hb6.mono b15.size)
  have b46 := hb5.trans (hb6.mono hb5.size)
  obtain ⟨D6, hD6, hR6, hT6, _⟩ := (hT4.out.below b46).here
  have q6 := copy_no (cap := 3) hT6 hv3 (t3.out.below b16) c3.out vk_other
  rw [hD6, hD4] at q6
  replace hT6 := Lib.hid hT6
  replace hR6 := Lib.hid hR6
  clear q5
  go_wp2_with fail
  refine q6.mono ?_
  rintro e w7 ⟨rfl, hb7⟩
  have b7 := b6.trans (hb7.mono b6.size)
  have b17 := b16.trans (hb7.mono b16.size)
  have b57 := hb6.trans (hb7.mono hb6.size)
  have b47 := hb5.trans (b57.mono hb5.size)
  obtain ⟨D7, hD7, hR7, hT7, _⟩ := (hS4.out.below b47).here
  have q7 := lhas_any (cap := 3) hT7 hv4 (t2.out.below b17)
  rw [hD7, x4.out] at q7
  unfold vkText at q7
  have q8 := fun W (hb : Below w7.heap.size w7 W) => (hS5.out.below (b57.trans (hb.mono b57.size))).here.elim fun Bz hz => by
    have := lhas_any (cap := 3) hz.2.2.1 hv5 (t2.out.below (b17.trans (hb.mono b17.size)))
    rw [hz.1, x5.out] at this
    exact this
  replace q8 := Lib.hid q8
  replace hT7 := Lib.hid hT7
  replace hR7 := Lib.hid hR7
  replace b7 := Lib.hid b7
  clear q6
  go_wp2_with fail
  refine q7.mono ?_
  rintro e w8 ⟨rfl, hb8⟩
  have q8' := q8.out w8 hb8
  have b8 := b7.out.trans (hb8.mono b7.out.size)
  clear q7
  go_wp2_with fail
  refine q8'.mono ?_
  rintro e w9 ⟨rfl, hb9⟩
  have b9 := b8.trans (hb9.mono b8.size)
  have qw := hw.out w9 b9
  clear q8'
  go_wp2_with fail
  refine qw.mono ?_
  rintro e w10 ⟨rfl, hb10⟩
  go_wp2_with fail
  go_ret
  exact ⟨rfl, b9.trans (hb10.mono b9.size)⟩
end Go.Proofs.YteikmmfjhabijaaGreatDoor
