import Derived.Test.YtgphkbnoflfneaaDoorAdd
import Derived.Test.YtgphkbnoflfneaaDoorOf
namespace Go.Proofs.YtgphkbnoflfneaaDoor
open Go Go.RowKit Go.Shelf

theorem elAt_nil (w : World) : ElAt w (.slice none 0 0) [] := ⟨none, 0, rfl, .inl ⟨rfl, rfl, rfl⟩⟩
theorem RetStp.after {X : List Nat} {v : Value} {B : Blks} {s' : St} {w w1 : World} (h : Below w.heap.size w w1) : ∀ e w', RetStp X v B s' w1 e w' → RetStp X v B s' w e w' := by
  rintro e w' ⟨rfl, B', hr, hs⟩
  exact ⟨rfl, B', hr, (Stp.of_below (X := []) h).trans hs⟩

theorem heap_new_at (w : World) (o : Obj) (ad : Nat) (h : ad = w.heap.size) : (w.alloc o).heap[ad]? = some o := by subst h; exact heap_alloc_new w o
theorem cells5 {w : World} {b : Nat} {a0 a1 a2 a3 a4 : Value} {t : TypeId} (h : w.heap[b]? = some (.cells #[a0, a1, a2, a3, a4] t (0, 0))) :
    w.cell? ⟨b, 0, none⟩ = some a0 ∧ w.cell? ⟨b, 1, none⟩ = some a1 ∧ w.cell? ⟨b, 2, none⟩ = some a2 ∧ w.cell? ⟨b, 3, none⟩ = some a3 ∧ w.cell? ⟨b, 4, none⟩ = some a4 ∧ ∀ j, w.frozen? ⟨b, j, none⟩ = false := by
  refine ⟨?_, ?_, ?_, ?_, ?_, fun j => ?_⟩ <;> simp [World.cell?, World.frozen?, h]

set_option maxRecDepth 100000 in
set_option maxHeartbeats 1000000 in
theorem literal_any {B : Blks} {s s' : St} {w : World} {l pl : Int} {r : Nat} (h : Rep B s w) (he : literalF s l pl = some (r, s')) :
    Calls Tryd.prog 42 #[.pointer (some ⟨B.sb, 0, none⟩), .int .i64 l, .int .i64 pl] w (RetStp [] (.int .i64 r) B s' w) := by
  replace he := Lib.hid he
  have hb0 := heap_alloc_new w (.cells #[.int .i64 pl, .int .i64 l, .slice none 0 0, .int .u64 0, .int .u64 0] 59)
  have hx0 : Ext w (w.alloc (.cells #[.int .i64 pl, .int .i64 l, .slice none 0 0, .int .u64 0, .int .u64 0] 59)) := (Ext.refl w).alloc _
  by_cases hl : 0 < l
  · have hle : Hid ((litN l pl).le = ofS [l]) := Lib.hid (if_pos hl)
    go_enter Tryd.func42, Tryd.ntmps42
    go_wp2_with fail
    have hx1 := hx0.alloc (.cells #[.int .i64 l] 3)
    have hb1 := (Below.heap_alloc (w.alloc (.cells #[.int .i64 pl, .int .i64 l, .slice none 0 0, .int .u64 0, .int .u64 0] 59)) (.cells #[.int .i64 l] 3) w.heap.size (by simp)).trans hb0
    have hn1 := heap_new_at (w.alloc (.cells #[.int .i64 pl, .int .i64 l, .slice none 0 0, .int .u64 0, .int .u64 0] 59)) (.cells #[.int .i64 l] 3) (w.heap.size + 1) (by simp)
    generalize (w.alloc (.cells #[.int .i64 pl, .int .i64 l, .slice none 0 0, .int .u64 0, .int .u64 0] 59)).alloc (.cells #[.int .i64 l] 3) = w1 at *
    refine (of_any [l] _ w1 ⟨_, 1, rfl, .inr ⟨_, 0, rfl, fun j hj => ?_⟩⟩ (by simp)).mono ?_
    · obtain rfl : j = 0 := by simpa using hj
      simp [World.cell?, hn1]
    · rintro e w2 ⟨rfl, hx⟩
      unfold encS
      have hx2 := hx1.trans hx
      have hb2 := (hx.below.block _ (Array.getElem?_eq_some_iff.1 hb1).1).trans hb1
      obtain ⟨c0, c1, c2, c3, c4, cf⟩ := cells5 hb2
      have cf3 := cf 3
      have cf4 := cf 4
      have hb3 : ((w2.setCell ⟨w.heap.size, 3, none⟩ (.int .u64 (lo (ofS [l])))).setCell ⟨w.heap.size, 4, none⟩ (.int .u64 (hi (ofS [l])))).heap[w.heap.size]? = some (.cells #[.int .i64 pl, .int .i64 l, .slice none 0 0, .int .u64 (lo (ofS [l])), .int .u64 (hi (ofS [l]))] 59 (0, 0)) := heap_set (heap_set hb2 3 _) 4 _
      obtain ⟨d0, d1, d2, d3, d4, _⟩ := cells5 hb3
      have hx3 : Ext w ((w2.setCell ⟨w.heap.size, 3, none⟩ (.int .u64 (lo (ofS [l])))).setCell ⟨w.heap.size, 4, none⟩ (.int .u64 (hi (ofS [l])))) := (hx2.setCell (by simp) _).setCell (by simp) _
      clear hb2 hb3 cf hb1 hn1 hb0
      go_wp2_with fail
      generalize (w2.setCell ⟨w.heap.size, 3, none⟩ (.int .u64 (lo (ofS [l])))).setCell ⟨w.heap.size, 4, none⟩ (.int .u64 (hi (ofS [l]))) = w3 at *
      have hq := add_any (n := litN l pl) (v := .slice none 0 0) (h.below hx3.below) (elAt_nil _) he.out
      rw [hle.out] at hq
      refine (hq.mono (RetStp.after hx3.below)).mono ?_
      rintro e w4 ⟨rfl, hR⟩
      have hR := Lib.hid hR
      go_wp2_with fail
      go_ret
      exact ⟨rfl, hR.out⟩
  · have hle : Hid ((litN l pl).le = 0) := Lib.hid (if_neg hl)
    go_enter Tryd.func42, Tryd.ntmps42
    go_wp2_with fail
    generalize w.alloc (.cells #[.int .i64 pl, .int .i64 l, .slice none 0 0, .int .u64 0, .int .u64 0] 59) = w3 at *
    have hq := add_any (n := litN l pl) (v := .slice none 0 0) (h.below hx0.below) (elAt_nil _) he.out
    rw [hle.out] at hq
    refine (hq.mono (RetStp.after hx0.below)).mono ?_
    rintro e w4 ⟨rfl, hR⟩
    have hR := Lib.hid hR
    go_wp2_with fail
    go_ret
    exact ⟨rfl, hR.out⟩
end Go.Proofs.YtgphkbnoflfneaaDoor
