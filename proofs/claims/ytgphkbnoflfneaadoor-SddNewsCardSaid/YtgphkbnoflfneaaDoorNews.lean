import Derived.Test.YtgphkbnoflfneaaDoorWorks
namespace Go.Proofs.YtgphkbnoflfneaaDoor
open Go Go.RowKit Go.Shelf

theorem wp_region_belowB {P : Program} {l : List Oper} {id : Nat} {Q : Exit → Act → World → Prop} {a : Act} {w : World} (hm : P.follows .mixedOrders = true) (hB : Region.lexB .any l.toArray = true)
    (h : wpQuiet P l.toArray (Below w.heap.size w) (fun a' => ∀ w', Below w.heap.size w w' → Q .normal a' w') l a) : (Code.region id l.toArray true).wp P Q a w :=
  wp_region_quiet (C := Below w.heap.size w) hm hB (Below.refl _ w).drew (by simpa using h)
theorem vnSame (a1 a2 a3 : Int) (w : World) : (Op.equalIn 10000 32 (.agg #[.int .i64 a1, .int .i64 a2, .int .i64 a3]) (.agg #[.int .i64 a1, .int .i64 a2, .int .i64 a3])).run Tryd.prog w = .ok true w := by
  have h : (Op.equalIn 10000 32 (.agg #[.int .i64 a1, .int .i64 a2, .int .i64 a3]) (.agg #[.int .i64 a1, .int .i64 a2, .int .i64 a3])).run Tryd.prog w = .ok (decide (a1 = a1) && decide (a2 = a2) && decide (a3 = a3)) w := vnEq a1 a2 a3 a1 a2 a3 w
  rw [h]; simp
/-- what holds in the loop of SddNews: the rest of the clone is as it was -/
def NewsLoop (w4 : World) (g : Nat) (t : List VN) (k : Nat) (wr : World) : Prop :=
  Below w4.heap.size w4 wr ∧ ∃ cs, wr.heap[g]? = some (.cells cs 32 (0, 0)) ∧ ∀ m (hm : m < t.length), k ≤ m → cs[m * 3]? = some (.int .i64 t[m].left) ∧ cs[m * 3 + 1]? = some (.int .i64 t[m].right) ∧ cs[m * 3 + 2]? = some (.int .i64 t[m].var)

set_option maxRecDepth 100000 in
set_option maxHeartbeats 4000000 in
theorem news_long {t : List VN} (w : World) (ba : Option Addr) (cap : Nat) (hT : TzTab w) (hP : PowTab w) (hl : 300 < t.length) :
    Calls Tryd.prog 3 #[.slice ba t.length cap] w fun e w' => e = .returned (.bool true) ∧ Below w.heap.size w w' := by
  have d0 : decide ((t.length : Int) > 300) = true := decide_eq_true (by omega)
  have d1 : decide ((300 : Int) < t.length) = true := decide_eq_true (by omega)
  have hq := works_any w hT hP
  go_enter Tryd.func3, Tryd.ntmps3
  go_wp2_with fail
  refine hq.mono ?_
  rintro e w1 ⟨rfl, hb⟩
  go_wp2_with fail
  go_ret
  exact ⟨rfl, hb⟩

set_option maxRecDepth 100000 in
set_option maxHeartbeats 4000000 in
theorem news_bad {t : List VN} (w : World) (ba : Option Addr) (cap : Nat) (hT : TzTab w) (hP : PowTab w) (h : t = [] ∨ ∃ b o, ba = some ⟨b, o, none⟩ ∧ TreeAt w b o t) (hl : t.length ≤ 300) (hc : checkF t ≠ 0) :
    Calls Tryd.prog 3 #[.slice ba t.length cap] w fun e w' => e = .returned (.bool true) ∧ Below w.heap.size w w' := by
  have d0 : decide ((t.length : Int) > 300) = false := decide_eq_false (by omega)
  have d1 : decide ((300 : Int) < t.length) = false := decide_eq_false (by omega)
  have hq := new_bad w ba cap h hc
  have hd : (checkF t != 0) = true := by simpa using hc
  have hq2 := fun w' (hx : Ext w w') => refchk_any (t := t) w' ba cap (h.imp id (fun ⟨b, o, e, ht⟩ => ⟨b, o, e, ht.ext hx⟩)) hl
  generalize checkF t = z at *
  clear hc h
  replace hq2 := Lib.hid hq2
  go_enter Tryd.func3, Tryd.ntmps3
  go_wp2_with fail
  refine hq.mono ?_
  rintro e w1 ⟨rfl, hx1⟩
  have hq3 := hq2.out w1 hx1
  go_wp2_with fail
  refine hq3.mono ?_
  rintro e w2 ⟨rfl, hx2⟩
  have hx := hx1.trans hx2
  have hq4 := works_any w2 (hT.same (hx.below.block _ hT.lt')) (hP.same (hx.below.block _ hP.lt))
  go_wp2_with fail
  refine hq4.mono ?_
  rintro e w3 ⟨rfl, hb3⟩
  go_wp2_with fail
  go_ret
  exact ⟨rfl, hx.below.trans (hb3.mono hx.size)⟩

set_option maxRecDepth 100000 in
set_option maxHeartbeats 4000000 in
theorem news_ok {t : List VN} (w : World) (b o cap : Nat) (hT : TzTab w) (hP : PowTab w) (h : TreeAt w b o t) (hl : t.length ≤ 300) (hc : checkF t = 0) :
    Calls Tryd.prog 3 #[.slice (some ⟨b, o, none⟩) t.length cap] w fun e w' => e = .returned (.bool true) ∧ Below w.heap.size w w' := by
  obtain ⟨ht0, ht1, _⟩ := check_ok hc
  have d0 : decide ((t.length : Int) > 300) = false := decide_eq_false (by omega)
  have d1 : decide ((300 : Int) < t.length) = false := decide_eq_false (by omega)
  have d2 : ((t.length : Int) == 0) = false := by simp; intro e; simp [e] at ht0
  have d3 : ((t.length : Int) != t.length) = false := by simp
  have hq := new_ok w b o cap hT hP h hc
  have hq2 := fun w' (hx : TreeAt w' b o t) => refchk_any (t := t) w' (some ⟨b, o, none⟩) cap (.inr ⟨b, o, rfl, hx⟩) hl
  rw [hc] at hq2
  have hbl : b < w.heap.size := World.block_lt_of_cell? w _ (h.node ht0).1
  replace hq2 := Lib.hid hq2
  replace hc := Lib.hid hc
  replace h := Lib.hid h
  go_enter Tryd.func3, Tryd.ntmps3
  go_wp2_with fail
  refine hq.mono ?_
  rintro e w1 ⟨B, rfl, hR, hm, _, _, hb1⟩
  have htr : ∀ w', Below w.heap.size w w' → TreeAt w' b o t := fun w' hb j u hj => (hb.cell (p := ⟨b, o + j, none⟩) hbl).trans (h.out j u hj)
  have hq3 := hq2.out w1 (htr w1 hb1)
  replace hR := Lib.hid hR
  replace htr := Lib.hid htr
  clear hq
  go_wp2_with fail
  refine hq3.mono ?_
  rintro e w2 ⟨rfl, hx2⟩
  have hR2 := hR.out.below hx2.below
  have hq4 : Calls Tryd.prog 10 #[.pointer (some ⟨B.sb, 0, none⟩)] w2 (RetTree t w2) := tree_any hR2 (by show t.length ≤ 1048576; omega)
  have hb2 := hb1.trans (hx2.below.mono hb1.size)
  replace hR2 := Lib.hid hR2
  clear hq3
  go_wp2_with fail
  refine hq4.mono ?_
  rintro e w3 ⟨g, cap3, cs, rfl, hg1, hg2, hg3, hb3⟩
  have hg3' : ∀ m (hm : m < t.length), 0 ≤ m → cs[m * 3]? = some (.int .i64 t[m].left) ∧ cs[m * 3 + 1]? = some (.int .i64 t[m].right) ∧ cs[m * 3 + 2]? = some (.int .i64 t[m].var) := fun m hm _ => by
    obtain ⟨q1, q2, q3⟩ := treeCells_get t m hm
    have r1 := hg3 _ _ q1
    have r2 := hg3 _ _ q2
    have r3 := hg3 _ _ q3
    simp only [Nat.zero_add] at r1 r2 r3
    exact ⟨r1, r2, r3⟩
  have hloop0 : Hid (NewsLoop w2 g t 0 w3) := Lib.hid ⟨hb3, cs, hg2, hg3'⟩
  have hgz : w2.heap.size ≤ g := hg1
  clear hg2 hg3 hg3' hb3 hq4
  have hrep : ∀ w', Below w2.heap.size w2 w' → Rep B (newSt t) w' := fun w' hb => hR2.out.below hb
  replace hrep := Lib.hid hrep
  have hn1 : ∃ n', t.length = n' + 1 := ⟨t.length - 1, by omega⟩
  go_wp2_with fail
  go_loopw [6] (fun i wr => ∃ k : Nat, k ≤ t.length ∧ i = .int .i64 k ∧ Hid (NewsLoop w2 g t k wr)) (fun i _ => t.length - (intOf i).toNat)
  case atStart => exact ⟨0, Nat.zero_le _, rfl, hloop0⟩
  case round =>
    clear hloop0
    obtain ⟨k, hk, rfl, hI⟩ := hrel
    obtain ⟨hbk, cs, hgk, hck⟩ := hI.out
    clear hI
    by_cases hlt : k < t.length
    · obtain ⟨n0, n1, n2⟩ := (htr.out wr (hb2.trans (hbk.mono hb2.size))).node hlt
      obtain ⟨m0, m1, m2⟩ := hck k hlt (Nat.le_refl _)
      have q0 : (0 : Int) ≤ k := by omega
      have q1 : (k : Int) < t.length := by omega
      have hnextc : ∀ m (hm : m < t.length), k + 1 ≤ m → ∀ u v z, (((cs.setIfInBounds (k * 3) u).setIfInBounds (k * 3 + 1) v).setIfInBounds (k * 3 + 2) z)[m * 3]? = some (.int .i64 t[m].left) ∧ (((cs.setIfInBounds (k * 3) u).setIfInBounds (k * 3 + 1) v).setIfInBounds (k * 3 + 2) z)[m * 3 + 1]? = some (.int .i64 t[m].right) ∧ (((cs.setIfInBounds (k * 3) u).setIfInBounds (k * 3 + 1) v).setIfInBounds (k * 3 + 2) z)[m * 3 + 2]? = some (.int .i64 t[m].var) := fun m hm hkm u v z => by
        obtain ⟨r0, r1, r2⟩ := hck m hm (by omega)
        refine ⟨?_, ?_, ?_⟩ <;> rw [Array.getElem?_setIfInBounds_ne (by omega), Array.getElem?_setIfInBounds_ne (by omega), Array.getElem?_setIfInBounds_ne (by omega)] <;> assumption
      generalize t[k] = x at *
      obtain ⟨x1, x2, x3⟩ := x
      simp only at n0 n1 n2 m0 m1 m2
      have F1 : ∀ w', Ext wr w' → w'.cell? ⟨b, o + k * 3, none⟩ = some (.int .i64 x1) ∧ w'.cell? ⟨b, o + k * 3 + 1, none⟩ = some (.int .i64 x2) ∧ w'.cell? ⟨b, o + k * 3 + 2, none⟩ = some (.int .i64 x3) ∧ w'.cell? ⟨g, k * 3, none⟩ = some (.int .i64 x1) ∧ w'.cell? ⟨g, k * 3 + 1, none⟩ = some (.int .i64 x2) ∧ w'.cell? ⟨g, k * 3 + 2, none⟩ = some (.int .i64 x3) ∧
          (Op.equalIn 10000 32 (.agg #[.int .i64 x1, .int .i64 x2, .int .i64 x3]) (.agg #[.int .i64 x1, .int .i64 x2, .int .i64 x3])).run Tryd.prog w' = .ok true w' := fun w' hx =>
        ⟨hx.cell n0, hx.cell n1, hx.cell n2, hx.cell (by simp [World.cell?, hgk, m0]), hx.cell (by simp [World.cell?, hgk, m1]), hx.cell (by simp [World.cell?, hgk, m2]), vnSame _ _ _ w'⟩
      replace F1 := Lib.hid F1
      replace hck := Lib.hid hck
      replace hgk := Lib.hid hgk
      replace hnextc := Lib.hid hnextc
      clear n0 n1 n2 m0 m1 m2
      go_wp2_with fail
      (refine wp_region_below (by kernel_rfl) (by kernel_rfl) ?_
       repeat (refine wpQuiet_step (fun K hK => ?_)
               go_simp
               first
                 | (refine hK _ ?_; clear hK K)
                 | (replace hK := Lib.hid hK
                    apply Exists.intro
                    refine ⟨fun wq hq => ?_, hK.out _ ?_⟩
                    · (obtain ⟨f1, f2, f3, f4, f5, f6, f7⟩ := F1.out wq hq)
                      go_simp
                      first
                        | done
                        | rfl
                        | exact ⟨rfl, rfl⟩
                        | fail
                    clear hK K))
       refine wpQuiet_nil ?_)
      intro w5 hx5
      obtain ⟨f1, f2, f3, f4, f5, f6, _⟩ := F1.out w5 hx5
      have hg5 := (hx5.below.block g (Array.getElem?_eq_some_iff.1 hgk.out).1).trans hgk.out
      have z0 : w5.frozen? ⟨g, k * 3, none⟩ = false := by simp [World.frozen?, hg5]
      have z1 : w5.frozen? ⟨g, k * 3 + 1, none⟩ = false := by simp [World.frozen?, hg5]
      have z2 : w5.frozen? ⟨g, k * 3 + 2, none⟩ = false := by simp [World.frozen?, hg5]
      have hb5 := hbk.trans (hx5.below.mono hbk.size)
      have hnext : Hid (NewsLoop w2 g t (k + 1) (((w5.setCell ⟨g, k * 3, none⟩ (.int .i64 0)).setCell ⟨g, k * 3 + 1, none⟩ (.int .i64 0)).setCell ⟨g, k * 3 + 2, none⟩ (.int .i64 0))) := Lib.hid
        ⟨((hb5.setCell hgz _).setCell hgz _).setCell hgz _, _, heap_set (heap_set (heap_set hg5 (k * 3) (.int .i64 0)) (k * 3 + 1) (.int .i64 0)) (k * 3 + 2) (.int .i64 0), fun m hm hkm => hnextc.out m hm hkm _ _ _⟩
      clear hg5 F1
      go_wp2_with fail
      go_roundw
      case rel => exact ⟨k + 1, by omega, by go_num, hnext⟩
      case measure => simp [intOf]; omega
    · obtain rfl : k = t.length := by omega
      clear hck hgk
      have hRk := hrep.out wr hbk
      have hq5 : Calls Tryd.prog 10 #[.pointer (some ⟨B.sb, 0, none⟩)] wr (RetTree t wr) := tree_any hRk (by show t.length ≤ 1048576; omega)
      replace hRk := Lib.hid hRk
      go_wp2_with fail
      refine hq5.mono ?_
      rintro e w6 ⟨g6, cap6, cs6, rfl, hg61, hg62, hg63, hb6⟩
      have hR6 := hRk.out.below hb6
      have hq6 := not_bad (a := 2) hR6 (by show t ≠ []; intro e; rw [e] at ht0; simp at ht0) (by show ¬ (0 ≤ (2 : Int) ∧ (2 : Int) < ((newSt t).nodes.length : Nat)); simp [newSt])
      have hbw6 := hb2.trans ((hbk.mono hb2.size).trans (hb6.mono (Nat.le_trans hb2.size hbk.size)))
      replace hR6 := Lib.hid hR6
      replace hg62 := Lib.hid hg62
      replace hg63 := Lib.hid hg63
      clear hq5
      go_wp2_with fail
      refine hq6.mono ?_
      rintro e w7 ⟨rfl, hx7⟩
      obtain ⟨n', hn'⟩ := hn1
      have hbw7 := hbw6.trans (hx7.below.mono hbw6.size)
      obtain ⟨n0, n1, n2⟩ := (htr.out w7 hbw7).node (k := n') (by omega)
      obtain ⟨q1, q2, q3⟩ := treeCells_get t n' (by omega)
      have m0 := hg63.out _ _ q1
      have m1 := hg63.out _ _ q2
      have m2 := hg63.out _ _ q3
      simp only [Nat.zero_add] at m0 m1 m2
      generalize t[n'] = x at *
      obtain ⟨x1, x2, x3⟩ := x
      simp only at n0 n1 n2 m0 m1 m2
      have hg7 := (hx7.below.block g6 (Array.getElem?_eq_some_iff.1 hg62.out).1).trans hg62.out
      have F1 : ∀ w', Below w7.heap.size w7 w' → w'.cell? ⟨b, o + n' * 3, none⟩ = some (.int .i64 x1) ∧ w'.cell? ⟨b, o + n' * 3 + 1, none⟩ = some (.int .i64 x2) ∧ w'.cell? ⟨b, o + n' * 3 + 2, none⟩ = some (.int .i64 x3) ∧ w'.cell? ⟨g6, n' * 3, none⟩ = some (.int .i64 x1) ∧ w'.cell? ⟨g6, n' * 3 + 1, none⟩ = some (.int .i64 x2) ∧ w'.cell? ⟨g6, n' * 3 + 2, none⟩ = some (.int .i64 x3) ∧
          (Op.equalIn 10000 32 (.agg #[.int .i64 x1, .int .i64 x2, .int .i64 x3]) (.agg #[.int .i64 x1, .int .i64 x2, .int .i64 x3])).run Tryd.prog w' = .ok true w' := fun w' hx => by
        have up : ∀ {a : Addr} {v : Value}, w7.cell? a = some v → w'.cell? a = some v := fun hc => (hx.cell (World.block_lt_of_cell? w7 _ hc)).trans hc
        exact ⟨up n0, up n1, up n2, up (by simp [World.cell?, hg7, m0]), up (by simp [World.cell?, hg7, m1]), up (by simp [World.cell?, hg7, m2]), vnSame _ _ _ w'⟩
      have F2 : ∀ w', Below w7.heap.size w7 w' → Calls Tryd.prog 7 #[] w' fun e w'' => e = .returned (.bool true) ∧ Below w'.heap.size w' w'' := fun w' hx =>
        works_any w' (hT.same ((hx.block _ (Nat.lt_of_lt_of_le hT.lt' hbw7.size)).trans (hbw7.block _ hT.lt'))) (hP.same ((hx.block _ (Nat.lt_of_lt_of_le hP.lt hbw7.size)).trans (hbw7.block _ hP.lt)))
      have e1 : IntKind.i64.wrap ((t.length : Int) - 1) = (n' : Int) := by rw [IntWalk.i64_in _ (by omega)]; omega
      have g0 : (0 : Int) ≤ n' := by omega
      have g1 : (n' : Int) < t.length := by omega
      replace hn' := Lib.hid hn'
      replace F1 := Lib.hid F1
      replace F2 := Lib.hid F2
      clear n0 n1 n2 m0 m1 m2 q1 q2 q3 hg7
      go_wp2_with fail
      (refine wp_region_belowB (by kernel_rfl) (by kernel_rfl) ?_
       repeat (refine wpQuiet_step (fun K hK => ?_)
               go_simp
               first
                 | (refine hK _ ?_; clear hK K)
                 | (replace hK := Lib.hid hK
                    apply Exists.intro
                    refine ⟨fun wq hq => ?_, hK.out _ ?_⟩
                    · (obtain ⟨f1, f2, f3, f4, f5, f6, f7⟩ := F1.out wq hq)
                      go_simp
                      first
                        | done
                        | rfl
                        | exact ⟨rfl, rfl⟩
                        | (refine (F2.out wq hq).mono ?_; rintro e w' ⟨rfl, hb⟩; exact ⟨rfl, hq.trans (hb.mono hq.size)⟩)
                    clear hK K))
       refine wpQuiet_nil ?_)
      intro w8 hb8
      go_wp2_with fail
      go_ret
      exact ⟨rfl, hbw7.trans (hb8.mono hbw7.size)⟩

/-- SddNews: true, and no old block turns -/
theorem news_any {t : List VN} (w : World) (ba : Option Addr) (cap : Nat) (hT : TzTab w) (hP : PowTab w) (h : t = [] ∨ ∃ b o, ba = some ⟨b, o, none⟩ ∧ TreeAt w b o t) :
    Calls Tryd.prog 3 #[.slice ba t.length cap] w fun e w' => e = .returned (.bool true) ∧ Below w.heap.size w w' := by
  by_cases h1 : 300 < t.length
  · exact news_long w ba cap hT hP h1
  · by_cases h2 : checkF t = 0
    · rcases h with rfl | ⟨b, o, rfl, ht⟩
      · exact absurd h2 (by unfold checkF; simp)
      · exact news_ok w b o cap hT hP ht (by omega) h2
    · exact news_bad w ba cap hT hP h (by omega) h2
end Go.Proofs.YtgphkbnoflfneaaDoor
