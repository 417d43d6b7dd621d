import Derived.Test.YtgphkbnoflfneaaDoorNot3
namespace Go.Proofs.YtgphkbnoflfneaaDoor
open Go Go.RowKit Go.Shelf

theorem vnEq (a1 a2 a3 b1 b2 b3 : Int) (w : World) : (Op.equal 32 (.agg #[.int .i64 a1, .int .i64 a2, .int .i64 a3]) (.agg #[.int .i64 b1, .int .i64 b2, .int .i64 b3])).run Tryd.prog w = .ok (decide (a1 = b1) && decide (a2 = b2) && decide (a3 = b3)) w := by
  unfold Op.equal Op.maxDepth
  rw [run_equalIn_agg w _ _ _ _ (by kernel_rfl) (by kernel_rfl)]
  simp only [Program.fieldsOf, Tryd.underlying32, List.toArray, Op.eqFields]
  simp [go_sem, Op.eqFields, Tryd.underlying3]
  by_cases h1 : a1 = b1 <;> by_cases h2 : a2 = b2 <;> by_cases h3 : a3 = b3 <;> simp [h1, h2, h3]

theorem leafOf_any (v : Int) (w : World) : Calls Tryd.prog 60 #[.int .i64 v] w fun e w' => e = .returned (.agg #[.int .i64 (-1), .int .i64 (-1), .int .i64 v]) ∧ Ext w w' := by
  go_enter Tryd.func60, Tryd.ntmps60
  go_wp2_with fail
  go_returns
  exact ⟨rfl, ⟨by go_grown, Nat.le_refl _⟩⟩

def leafB (x : VN) : Bool := decide (x.left = -1) && decide (x.right = -1) && (decide (1 ≤ x.var) && decide (x.var ≤ 128))
def encVN (x : VN) : Value := .agg #[.int .i64 x.left, .int .i64 x.right, .int .i64 x.var]
theorem box3 {w : World} {k : Nat} {x y z : Value} {t : TypeId} (h : w.heap[k]? = some (.cells #[x, y, z] t (0, 0))) : w.cell? ⟨k, 0, none⟩ = some x ∧ w.cell? ⟨k, 1, none⟩ = some y ∧ w.cell? ⟨k, 2, none⟩ = some z := by
  refine ⟨?_, ?_, ?_⟩ <;> simp [World.cell?, h]

set_option maxRecDepth 100000 in
set_option maxHeartbeats 1000000 in
theorem isLeaf_any (x : VN) (w : World) : Calls Tryd.prog 45 #[.agg #[.int .i64 x.left, .int .i64 x.right, .int .i64 x.var]] w fun e w' => e = .returned (.bool (leafB x)) ∧ Ext w w' := by
  obtain ⟨l, r, v⟩ := x
  show Calls Tryd.prog 45 #[.agg #[.int .i64 l, .int .i64 r, .int .i64 v]] w fun e w' => e = .returned (.bool (leafB ⟨l, r, v⟩)) ∧ Ext w w'
  have hbox := heap_alloc_new w (.cells #[.int .i64 l, .int .i64 r, .int .i64 v] 32)
  have hx0 : Ext w (w.alloc (.cells #[.int .i64 l, .int .i64 r, .int .i64 v] 32)) := (Ext.refl w).alloc _
  have hl := Lib.hid (show leafB ⟨l, r, v⟩ = (decide (l = -1) && decide (r = -1) && (decide (1 ≤ v) && decide (v ≤ 128))) from rfl)
  have heq : ∀ w', (Op.equalIn 10000 32 (.agg #[.int .i64 l, .int .i64 r, .int .i64 v]) (.agg #[.int .i64 (-1), .int .i64 (-1), .int .i64 v])).run Tryd.prog w' = .ok (decide (l = -1) && decide (r = -1)) w' := fun w' => by
    have h2 : (Op.equalIn 10000 32 (.agg #[.int .i64 l, .int .i64 r, .int .i64 v]) (.agg #[.int .i64 (-1), .int .i64 (-1), .int .i64 v])).run Tryd.prog w' = .ok (decide (l = -1) && decide (r = -1) && decide (v = v)) w' := vnEq l r v (-1) (-1) v w'
    rw [h2]; simp
  have fin : ∀ (b : Bool), b = leafB ⟨l, r, v⟩ → leafB ⟨l, r, v⟩ = b := fun b h => h.symm
  replace fin := Lib.hid fin
  by_cases h1 : 1 ≤ v
  · by_cases h2 : v ≤ 128
    · go_enter Tryd.func45, Tryd.ntmps45
      go_wp2_with fail
      generalize w.alloc (.cells #[.int .i64 l, .int .i64 r, .int .i64 v] 32) = w1 at *
      obtain ⟨b0, b1, b2⟩ := box3 hbox
      have F1 : ∀ w' : World, Ext w1 w' → w'.cell? ⟨w.heap.size, 0, none⟩ = some (.int .i64 l) ∧ w'.cell? ⟨w.heap.size, 1, none⟩ = some (.int .i64 r) ∧ w'.cell? ⟨w.heap.size, 2, none⟩ = some (.int .i64 v) := fun w' h => ⟨h.cell b0, h.cell b1, h.cell b2⟩
      replace F1 := Lib.hid F1
      (refine wp_region_below (by kernel_rfl) (by kernel_rfl) ?_
       repeat (refine wpQuiet_step (fun K hK => ?_)
               go_simp
               first
                 | (refine hK _ ?_; clear hK K)
                 | (replace hK := Lib.hid hK
                    apply Exists.intro
                    refine ⟨fun wq hq => ?_, hK.out _ ?_⟩
                    · (obtain ⟨f1, f2, f3⟩ := F1.out wq hq)
                      go_simp
                      first
                        | done
                        | rfl
                        | exact ⟨rfl, rfl⟩
                        | (refine (leafOf_any _ _).mono ?_; rintro e w' ⟨rfl, hb⟩; exact ⟨rfl, hq.trans hb⟩)
                    clear hK K))
       refine wpQuiet_nil ?_)
      intro w2 hw2
      go_wp2_with fail
      go_ret
      exact ⟨by rw [hl.out]; simp [h1, h2], hx0.trans hw2⟩
    · have d2 : decide (v ≤ 128) = false := decide_eq_false h2
      go_enter Tryd.func45, Tryd.ntmps45
      go_wp2_with fail
      generalize w.alloc (.cells #[.int .i64 l, .int .i64 r, .int .i64 v] 32) = w1 at *
      obtain ⟨b0, b1, b2⟩ := box3 hbox
      have F1 : ∀ w' : World, Ext w1 w' → w'.cell? ⟨w.heap.size, 0, none⟩ = some (.int .i64 l) ∧ w'.cell? ⟨w.heap.size, 1, none⟩ = some (.int .i64 r) ∧ w'.cell? ⟨w.heap.size, 2, none⟩ = some (.int .i64 v) := fun w' h => ⟨h.cell b0, h.cell b1, h.cell b2⟩
      replace F1 := Lib.hid F1
      (refine wp_region_below (by kernel_rfl) (by kernel_rfl) ?_
       repeat (refine wpQuiet_step (fun K hK => ?_)
               go_simp
               first
                 | (refine hK _ ?_; clear hK K)
                 | (replace hK := Lib.hid hK
                    apply Exists.intro
                    refine ⟨fun wq hq => ?_, hK.out _ ?_⟩
                    · (obtain ⟨f1, f2, f3⟩ := F1.out wq hq)
                      go_simp
                      first
                        | done
                        | rfl
                        | exact ⟨rfl, rfl⟩
                        | (refine (leafOf_any _ _).mono ?_; rintro e w' ⟨rfl, hb⟩; exact ⟨rfl, hq.trans hb⟩)
                    clear hK K))
       refine wpQuiet_nil ?_)
      intro w2 hw2
      go_wp2_with fail
      go_ret
      exact ⟨by rw [hl.out]; simp [h1, h2], hx0.trans hw2⟩
  · have d1 : decide (1 ≤ v) = false := decide_eq_false h1
    go_enter Tryd.func45, Tryd.ntmps45
    go_wp2_with fail
    generalize w.alloc (.cells #[.int .i64 l, .int .i64 r, .int .i64 v] 32) = w1 at *
    obtain ⟨b0, b1, b2⟩ := box3 hbox
    have F1 : ∀ w' : World, Ext w1 w' → w'.cell? ⟨w.heap.size, 0, none⟩ = some (.int .i64 l) ∧ w'.cell? ⟨w.heap.size, 1, none⟩ = some (.int .i64 r) ∧ w'.cell? ⟨w.heap.size, 2, none⟩ = some (.int .i64 v) := fun w' h => ⟨h.cell b0, h.cell b1, h.cell b2⟩
    replace F1 := Lib.hid F1
    (refine wp_region_below (by kernel_rfl) (by kernel_rfl) ?_
     repeat (refine wpQuiet_step (fun K hK => ?_)
             go_simp
             first
               | (refine hK _ ?_; clear hK K)
               | (replace hK := Lib.hid hK
                  apply Exists.intro
                  refine ⟨fun wq hq => ?_, hK.out _ ?_⟩
                  · (obtain ⟨f1, f2, f3⟩ := F1.out wq hq)
                    go_simp
                    first
                      | done
                      | rfl
                      | exact ⟨rfl, rfl⟩
                      | (refine (leafOf_any _ _).mono ?_; rintro e w' ⟨rfl, hb⟩; exact ⟨rfl, hq.trans hb⟩)
                  clear hK K))
     refine wpQuiet_nil ?_)
    intro w2 hw2
    go_wp2_with fail
    go_ret
    exact ⟨by rw [hl.out]; simp [h1]; first | done | (intros; omega), hx0.trans hw2⟩
end Go.Proofs.YtgphkbnoflfneaaDoor
