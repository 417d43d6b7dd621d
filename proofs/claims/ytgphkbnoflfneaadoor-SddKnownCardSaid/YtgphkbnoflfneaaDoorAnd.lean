import Derived.Test.YtgphkbnoflfneaaDoorMake
import Derived.Test.YtgphkbnoflfneaaDoorSddF3
namespace Go.Proofs.YtgphkbnoflfneaaDoor
open Go Go.RowKit Go.Shelf

/-- two numbers, put in order -/
def Ord2 (x y a b : Nat) : Prop := (y < x ∧ a = y ∧ b = x) ∨ (¬ y < x ∧ a = x ∧ b = y)

set_option maxRecDepth 100000 in
set_option maxHeartbeats 1000000 in
theorem and_triv {B : Blks} {s : St} {w : World} {x y a b : Nat} (h : Rep B s w) (ho : Ord2 x y a b) (ha : a = 0 ∨ a = b) :
    Calls Tryd.prog 36 #[.pointer (some ⟨B.sb, 0, none⟩), .int .i64 x, .int .i64 y] w (RetStp [] (.int .i64 a) B s w) := by
  have fin : ∀ {v : Value}, v = .int .i64 a → RetStp [] (.int .i64 a) B s w (.returned v) w := fun e => ⟨by rw [e], B, h, Stp.refl _ _ _⟩
  rcases ho with ⟨hc, rfl, rfl⟩ | ⟨hc, rfl, rfl⟩
  · have d0 : decide ((b : Int) > a) = true := decide_eq_true (by omega)
    have d0' : decide ((a : Int) < b) = true := decide_eq_true (by omega)
    rcases ha with rfl | rfl
    · go_enter Tryd.func36, Tryd.ntmps36
      go_wp2_with fail
      go_ret
      exact fin (by simp)
    · omega
  · have d0' : decide ((b : Int) < a) = false := decide_eq_false (by omega)
    rcases ha with rfl | rfl
    · go_enter Tryd.func36, Tryd.ntmps36
      go_wp2_with fail
      go_ret
      exact fin (by simp)
    · by_cases hz : a = 0
      · subst hz
        go_enter Tryd.func36, Tryd.ntmps36
        go_wp2_with fail
        go_ret
        exact fin (by simp)
      · have d1 : ((a : Int) == 0) = false := by simp; omega
        go_enter Tryd.func36, Tryd.ntmps36
        go_wp2_with fail
        go_ret
        exact fin rfl

set_option maxRecDepth 100000 in
set_option maxHeartbeats 1000000 in
theorem and_one {B : Blks} {s : St} {w : World} {x y b : Nat} (h : Rep B s w) (ho : Ord2 x y 1 b) (hb : b ≠ 1) :
    Calls Tryd.prog 36 #[.pointer (some ⟨B.sb, 0, none⟩), .int .i64 x, .int .i64 y] w (RetStp [] (.int .i64 b) B s w) := by
  have d2 : ((1 : Int) == b) = false := by simp; omega
  rcases ho with ⟨hc, rfl, rfl⟩ | ⟨hc, rfl, rfl⟩
  · have d0' : decide ((1 : Int) < b) = true := decide_eq_true (by omega)
    go_enter Tryd.func36, Tryd.ntmps36
    go_wp2_with fail
    go_ret
    exact ⟨rfl, B, h, Stp.refl _ _ _⟩
  · have d0' : decide ((b : Int) < 1) = false := decide_eq_false (by omega)
    go_enter Tryd.func36, Tryd.ntmps36
    go_wp2_with fail
    go_ret
    exact ⟨rfl, B, h, Stp.refl _ _ _⟩

set_option maxRecDepth 100000 in
set_option maxHeartbeats 1000000 in
theorem and_neg {nf : St → Nat → Option (Nat × St)} (hn : NotsLaw nf) {B : Blks} {s s1 : St} {w : World} {x y a b : Nat} (h : Rep B s w) (ho : Ord2 x y a b) (ha0 : a ≠ 0) (hab : a ≠ b) (ha1 : a ≠ 1) (he : nf s a = some (b, s1)) :
    Calls Tryd.prog 36 #[.pointer (some ⟨B.sb, 0, none⟩), .int .i64 x, .int .i64 y] w (RetStp [] (.int .i64 (0 : Nat)) B s1 w) := by
  have d1 : ((a : Int) == 0) = false := by simp; omega
  have d2 : ((a : Int) == b) = false := by simp; omega
  have d3 : ((a : Int) == 1) = false := by simp; omega
  have hq := hn B s s1 w a b h he
  replace he := Lib.hid he
  rcases ho with ⟨hc, rfl, rfl⟩ | ⟨hc, rfl, rfl⟩
  · have d0' : decide ((a : Int) < b) = true := decide_eq_true (by omega)
    go_enter Tryd.func36, Tryd.ntmps36
    go_wp2_with fail
    refine hq.mono ?_
    rintro e w1 ⟨rfl, B1, hR1, hS1⟩
    replace hR1 := Lib.hid hR1
    go_wp2_with fail
    go_ret
    exact ⟨rfl, B1, hR1.out, hS1⟩
  · have d0' : decide ((b : Int) < a) = false := decide_eq_false (by omega)
    go_enter Tryd.func36, Tryd.ntmps36
    go_wp2_with fail
    refine hq.mono ?_
    rintro e w1 ⟨rfl, B1, hR1, hS1⟩
    replace hR1 := Lib.hid hR1
    go_wp2_with fail
    go_ret
    exact ⟨rfl, B1, hR1.out, hS1⟩

theorem Rep.andLook {B : Blks} {s : St} {w : World} (h : Rep B s w) (a b : Nat) :
    (Instr.lookup 62 (.map (some B.ab)) (.agg #[.int .i64 (a : Int), .int .i64 (b : Int)]) true).run Tryd.prog w = .ok (.tuple #[((asc s.ands (a, b)).map encNat).getD (.int .i64 0), .bool (asc s.ands (a, b)).isSome]) w :=
  h.ands.look pairLaw (T := 62) Tryd.underlying62 _ zeroInt (a, b)

end Go.Proofs.YtgphkbnoflfneaaDoor

namespace Go.Proofs.YtgphkbnoflfneaaDoor
open Go Go.RowKit Go.Shelf

set_option maxRecDepth 100000 in
set_option maxHeartbeats 2000000 in
theorem and_hit {nf : St → Nat → Option (Nat × St)} (hn : NotsLaw nf) {B : Blks} {s s1 : St} {w : World} {x y a b na c : Nat} (h : Rep B s w) (ho : Ord2 x y a b) (ha0 : a ≠ 0) (hab : a ≠ b) (ha1 : a ≠ 1) (he : nf s a = some (na, s1)) (hna : na ≠ b) (hc : asc s1.ands (a, b) = some c) :
    Calls Tryd.prog 36 #[.pointer (some ⟨B.sb, 0, none⟩), .int .i64 x, .int .i64 y] w (RetStp [] (.int .i64 c) B s1 w) := by
  have d1 : ((a : Int) == 0) = false := by simp; omega
  have d2 : ((a : Int) == b) = false := by simp; omega
  have d3 : ((a : Int) == 1) = false := by simp; omega
  have d4 : ((na : Int) == b) = false := by simp; omega
  have hq := hn B s s1 w a na h he
  replace he := Lib.hid he
  have hor : (decide ((y : Int) < x) = true ∧ y < x ∧ a = y ∧ b = x) ∨ (decide ((y : Int) < x) = false ∧ ¬ y < x ∧ a = x ∧ b = y) := by
    rcases ho with ⟨h1, h2, h3⟩ | ⟨h1, h2, h3⟩
    · exact .inl ⟨decide_eq_true (by omega), h1, h2, h3⟩
    · exact .inr ⟨decide_eq_false (by omega), h1, h2, h3⟩
  clear ho
  rcases hor with ⟨d0, hcc, rfl, rfl⟩ | ⟨d0, hcc, rfl, rfl⟩
  · skip
    go_enter Tryd.func36, Tryd.ntmps36
    go_wp2_with fail
    refine hq.mono ?_
    rintro e w1 ⟨rfl, B1, hR1, hS1⟩
    have hsb : B1.sb = B.sb := hS1.sb
    have hbox := heap_alloc_new w1 (.cells #[.int .i64 a, .int .i64 b] 76)
    have hx1 : Ext w1 (w1.alloc (.cells #[.int .i64 a, .int .i64 b] 76)) := (Ext.refl w1).alloc _
    clear hq
    replace hR1 := Lib.hid hR1
    go_wp2_with fail
    generalize w1.alloc (.cells #[.int .i64 a, .int .i64 b] 76) = w2 at *
    obtain ⟨b0, b1⟩ := pbox_cells hbox
    have F1 : ∀ w' : World, Ext w2 w' → w'.cell? ⟨w1.heap.size, 0, none⟩ = some (.int .i64 a) ∧ w'.cell? ⟨w1.heap.size, 1, none⟩ = some (.int .i64 b) ∧ w'.cell? ⟨B.sb, 4, none⟩ = some (.map (some B1.ab)) ∧
        (Instr.lookup 62 (.map (some B1.ab)) (.agg #[.int .i64 (a : Int), .int .i64 (b : Int)]) true).run Tryd.prog w' = .ok (.tuple #[.int .i64 c, .bool true]) w' := fun w' hw' => by
      have hR := hR1.out.below (hx1.trans hw').below
      obtain ⟨cap, _, _, _, _, c4, _⟩ := hR.cells
      rw [hsb] at c4
      have hl := hR.andLook a b
      rw [hc] at hl
      exact ⟨hw'.cell b0, hw'.cell b1, c4, hl⟩
    replace F1 := Lib.hid F1
    replace hc := Lib.hid hc
    clear b0 b1 hbox
    (refine wp_region_below (by kernel_rfl) (by kernel_rfl) ?_
     repeat (refine wpQuiet_step (fun K hK => ?_)
             go_simp
             first
               | (refine hK _ ?_; clear hK K)
               | (replace hK := Lib.hid hK
                  apply Exists.intro
                  refine ⟨fun wq hq => ?_, hK.out _ ?_⟩
                  · (obtain ⟨f1, f2, f3, f4⟩ := F1.out wq hq)
                    go_simp
                    first
                      | done
                      | rfl
                      | exact ⟨rfl, rfl⟩
                      | fail
                  clear hK K))
     refine wpQuiet_nil ?_)
    intro w3 hw3
    go_wp2_with fail
    go_ret
    exact ⟨rfl, B1, hR1.out.below (hx1.trans hw3).below, hS1.then (Stp.of_below (hx1.trans hw3).below)⟩
  · skip
    go_enter Tryd.func36, Tryd.ntmps36
    go_wp2_with fail
    refine hq.mono ?_
    rintro e w1 ⟨rfl, B1, hR1, hS1⟩
    have hsb : B1.sb = B.sb := hS1.sb
    have hbox := heap_alloc_new w1 (.cells #[.int .i64 a, .int .i64 b] 76)
    have hx1 : Ext w1 (w1.alloc (.cells #[.int .i64 a, .int .i64 b] 76)) := (Ext.refl w1).alloc _
    clear hq
    replace hR1 := Lib.hid hR1
    go_wp2_with fail
    generalize w1.alloc (.cells #[.int .i64 a, .int .i64 b] 76) = w2 at *
    obtain ⟨b0, b1⟩ := pbox_cells hbox
    have F1 : ∀ w' : World, Ext w2 w' → w'.cell? ⟨w1.heap.size, 0, none⟩ = some (.int .i64 a) ∧ w'.cell? ⟨w1.heap.size, 1, none⟩ = some (.int .i64 b) ∧ w'.cell? ⟨B.sb, 4, none⟩ = some (.map (some B1.ab)) ∧
        (Instr.lookup 62 (.map (some B1.ab)) (.agg #[.int .i64 (a : Int), .int .i64 (b : Int)]) true).run Tryd.prog w' = .ok (.tuple #[.int .i64 c, .bool true]) w' := fun w' hw' => by
      have hR := hR1.out.below (hx1.trans hw').below
      obtain ⟨cap, _, _, _, _, c4, _⟩ := hR.cells
      rw [hsb] at c4
      have hl := hR.andLook a b
      rw [hc] at hl
      exact ⟨hw'.cell b0, hw'.cell b1, c4, hl⟩
    replace F1 := Lib.hid F1
    replace hc := Lib.hid hc
    clear b0 b1 hbox
    (refine wp_region_below (by kernel_rfl) (by kernel_rfl) ?_
     repeat (refine wpQuiet_step (fun K hK => ?_)
             go_simp
             first
               | (refine hK _ ?_; clear hK K)
               | (replace hK := Lib.hid hK
                  apply Exists.intro
                  refine ⟨fun wq hq => ?_, hK.out _ ?_⟩
                  · (obtain ⟨f1, f2, f3, f4⟩ := F1.out wq hq)
                    go_simp
                    first
                      | done
                      | rfl
                      | exact ⟨rfl, rfl⟩
                      | fail
                  clear hK K))
     refine wpQuiet_nil ?_)
    intro w3 hw3
    go_wp2_with fail
    go_ret
    exact ⟨rfl, B1, hR1.out.below (hx1.trans hw3).below, hS1.then (Stp.of_below (hx1.trans hw3).below)⟩
end Go.Proofs.YtgphkbnoflfneaaDoor

