import Derived.Test.YtgphkbnoflfneaaDoorRep2
import Derived.Defers
import Derived.Recover
namespace Go.Proofs.YtgphkbnoflfneaaDoor
open Go Go.RowKit Go.Shelf

set_option maxRecDepth 100000 in
set_option maxHeartbeats 1000000 in
theorem catch_idle (c : Array Value) (hc : c.size = 4) (w : World) :
    CallsD Tryd.prog 47 c .returning w fun e u' w' => e = .returned (.tuple #[]) ∧ u' = .returning ∧ w' = w := by
  obtain ⟨a0, a1, a2, a3, rfl⟩ : ∃ a0 a1 a2 a3, c = #[a0, a1, a2, a3] := by
    obtain ⟨l⟩ := c
    match l, hc with
    | [a0, a1, a2, a3], _ => exact ⟨a0, a1, a2, a3, rfl⟩
  refine callsD_of_wpS Tryd.func47 rfl fun c₀ cs hu => ?_
  apply wpS_seq
  apply wpS_region
  simp [wpOpsS, go_sem, recoverD, hu, Tryd.ntmps47, Exit.thenS]
  apply wpS_seq
  apply wpS_region
  simp [wpOpsS, go_sem, Exit.thenS]
  refine wpS_cond (t := false) (by simp [Act.eval, Array.replicate]) ?_
  simp only [Bool.false_eq_true, if_false]
  refine wpS_of_wp (wp_skip ?_)
  cases c₀
  simp_all [bodyPostS, results, Tryd.results47]

theorem four_new (w : World) (a b c d : Obj) : ((((w.alloc a).alloc b).alloc c).alloc d).heap[w.heap.size + 1]? = some b ∧ ((((w.alloc a).alloc b).alloc c).alloc d).heap[w.heap.size + 1 + 1]? = some c := by
  constructor
  · rw [Below.heap_alloc _ _ _ (by simp), Below.heap_alloc _ _ _ (by simp)]
    exact heap_new_at _ _ _ (by simp)
  · rw [Below.heap_alloc _ _ _ (by simp)]
    exact heap_new_at _ _ _ (by simp)
/-- the end of a method that gives a number and no error -/
def RetOk (r : Nat) (B : Blks) (s' : St) (w : World) (e : Ending) (w' : World) : Prop := e = .returned (.tuple #[.int .i64 r, .int .i64 0]) ∧ ∃ B', Rep B' s' w' ∧ Stp [] B w B' w'

set_option maxRecDepth 100000 in
set_option maxHeartbeats 1000000 in
theorem try_any {B : Blks} {s s' : St} {w : World} {r K : Nat} {cap : Array Value} (h : Rep B s w) (hK : ∀ w, (callFunc K cap).run Tryd.prog w = .ok (.enter K cap) w) (hf : ∀ w', Ext w w' → Calls Tryd.prog K cap w' (RetStp [] (.int .i64 r) B s' w')) :
    Calls Tryd.prog 31 #[.pointer (some ⟨B.sb, 0, none⟩), .func (.func K) #[] cap] w (RetOk r B s' w) := by
  have hmf : ∀ (fn : Fn) (first cap : Array Value) (w : World), (Instr.makeFunc fn first cap).run Tryd.prog w = .ok (.func fn first cap) w := fun _ _ _ _ => rfl
  obtain ⟨cp, _, _, c2, _⟩ := h.cells
  have hx3 : Ext w (((w.alloc (.cells #[.pointer (some ⟨B.sb, 0, none⟩)] 25)).alloc (.cells #[.int .i64 0] 3)).alloc (.cells #[.int .i64 0] 26)) := (((Ext.refl w).alloc _).alloc _).alloc _
  have c23 := hx3.cell c2
  go_enter_defers Tryd.func31, Tryd.ntmps31
  go_wp2_with fail
  have hx : Ext w ((((w.alloc (.cells #[.pointer (some ⟨B.sb, 0, none⟩)] 25)).alloc (.cells #[.int .i64 0] 3)).alloc (.cells #[.int .i64 0] 26)).alloc (.cells #[.int .i64 s.nodes.length] 3)) := ((((Ext.refl w).alloc _).alloc _).alloc _).alloc _
  obtain ⟨hn, he⟩ := four_new w (.cells #[.pointer (some ⟨B.sb, 0, none⟩)] 25) (.cells #[.int .i64 0] 3) (.cells #[.int .i64 0] 26) (.cells #[.int .i64 s.nodes.length] 3)
  generalize (((w.alloc (.cells #[.pointer (some ⟨B.sb, 0, none⟩)] 25)).alloc (.cells #[.int .i64 0] 3)).alloc (.cells #[.int .i64 0] 26)).alloc (.cells #[.int .i64 s.nodes.length] 3) = w1 at *
  refine (hf w1 hx).mono ?_
  rintro e w2 ⟨rfl, B2, hR2, hS2⟩
  have hR1 := h.below hx.below
  have hg := h.glob B.sb (by simp [Blks.mut])
  have hl1 := h.pow.lt
  have hl2 := h.tz.lt'
  have hn2 := hS2.keep hn (hR1.not_mut hn (by decide) (by decide)) (by simp)
  have he2 := hS2.keep he (hR1.not_mut he (by decide) (by decide)) (by simp)
  have n0 : w2.cell? ⟨w.heap.size + 1, 0, none⟩ = some (.int .i64 0) := by simp [World.cell?, hn2]
  have n1 : w2.frozen? ⟨w.heap.size + 1, 0, none⟩ = false := by simp [World.frozen?, hn2]
  have e0 : w2.cell? ⟨w.heap.size + 1 + 1, 0, none⟩ = some (.int .i64 0) := by simp [World.cell?, he2]
  have e1 : w2.frozen? ⟨w.heap.size + 1 + 1, 0, none⟩ = false := by simp [World.frozen?, he2]
  have hz : w.heap.size + 1 + 1 ≠ w.heap.size + 1 := by omega
  have hz2 : w.heap.size + 1 ≠ w.heap.size + 1 + 1 := by omega
  obtain ⟨hR3, hS3⟩ := hR2.setT (o := 0) (u := .int .i64 r) hn2 (by decide) (by decide) (by decide) (by decide) (by omega)
  have he3 : (w2.setCell ⟨w.heap.size + 1, 0, none⟩ (.int .i64 r)).heap[w.heap.size + 1 + 1]? = some (.cells #[.int .i64 0] 26 (0, 0)) := (Below.heap_setCell _ _ _ _ hz).trans he2
  obtain ⟨hR4, hS4⟩ := hR3.setT (o := 0) (u := .int .i64 0) he3 (by decide) (by decide) (by decide) (by decide) (by omega)
  have r0 : ((w2.setCell ⟨w.heap.size + 1, 0, none⟩ (.int .i64 r)).setCell ⟨w.heap.size + 1 + 1, 0, none⟩ (.int .i64 0)).cell? ⟨w.heap.size + 1, 0, none⟩ = some (.int .i64 r) := by
    have := heap_set hn2 0 (.int .i64 r)
    have := (Below.heap_setCell (w2.setCell ⟨w.heap.size + 1, 0, none⟩ (.int .i64 r)) ⟨w.heap.size + 1 + 1, 0, none⟩ (.int .i64 0) (w.heap.size + 1) hz2).trans this
    simp [World.cell?, this]
  have r1 : ((w2.setCell ⟨w.heap.size + 1, 0, none⟩ (.int .i64 r)).setCell ⟨w.heap.size + 1 + 1, 0, none⟩ (.int .i64 0)).cell? ⟨w.heap.size + 1 + 1, 0, none⟩ = some (.int .i64 0) := by
    have := heap_set he3 0 (.int .i64 0)
    simp [World.cell?, this]
  have hfin : Hid (∃ B', Rep B' s' ((w2.setCell ⟨w.heap.size + 1, 0, none⟩ (.int .i64 r)).setCell ⟨w.heap.size + 1 + 1, 0, none⟩ (.int .i64 0)) ∧ Stp [] B w B' ((w2.setCell ⟨w.heap.size + 1, 0, none⟩ (.int .i64 r)).setCell ⟨w.heap.size + 1 + 1, 0, none⟩ (.int .i64 0))) :=
    Lib.hid ⟨B2, hR4, ((((Stp.of_below (X := []) hx.below).then hS2).trans hS3).trans hS4).weak (fun x hx => .inr (by simp at hx; omega))⟩
  clear hR4 hS4 hR3 hS3 hR2 hS2 hR1 hn2 he2 he3 hn he c23 c2 hf hK hx3 h
  go_wp2_with fail
  generalize (w2.setCell ⟨w.heap.size + 1, 0, none⟩ (.int .i64 r)).setCell ⟨w.heap.size + 1 + 1, 0, none⟩ (.int .i64 0) = w4 at *
  refine leaves_cons (f := 47) (args := #[.pointer (some ⟨w.heap.size, 0, none⟩), .pointer (some ⟨w.heap.size + 1 + 1 + 1, 0, none⟩), .pointer (some ⟨w.heap.size + 1, 0, none⟩), .pointer (some ⟨w.heap.size + 1 + 1, 0, none⟩)]) (by simp) (by simp [go_sem]) ?_
  refine (catch_idle _ rfl _).mono ?_
  rintro e u' w'' ⟨rfl, rfl, rfl⟩
  have hres : RetOk r B s' w (.returned (.tuple #[.int .i64 r, .int .i64 0])) w'' := ⟨rfl, hfin.out⟩
  clear hfin
  simp [Leaves, settle, results, Tryd.results31, go_sem, r0, r1]
  exact hres
example (c : Array Value) (w : World) : (callFunc 35 c).run Tryd.prog w = .ok (.enter 35 c) w := by
  simp [go_sem, Tryd.func35]
end Go.Proofs.YtgphkbnoflfneaaDoor
