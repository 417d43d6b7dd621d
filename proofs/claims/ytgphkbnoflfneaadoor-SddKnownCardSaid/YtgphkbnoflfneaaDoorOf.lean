import Derived.Test.YtgphkbnoflfneaaDoorVars
namespace Go.Proofs.YtgphkbnoflfneaaDoor
open Go Go.RowKit

theorem ofS_take (l : List Int) (k : Nat) (hk : k < l.length) : ofS (l.take (k + 1)) = withS (ofS (l.take k)) l[k] := by
  unfold ofS
  rw [List.take_succ_eq_append_getElem hk, List.foldl_append]
  rfl

set_option maxRecDepth 100000 in
set_option maxHeartbeats 1000000 in
theorem of_any (l : List Int) (v : Value) (w : World) (hv : SlI w v l) (hl : l.length ≤ 9223372036854775807) :
    Calls Tryd.prog 56 #[v] w fun e w' => e = .returned (encS (ofS l)) ∧ Ext w w' := by
  obtain ⟨ba, cp, rfl, hv⟩ := hv
  replace hv := Lib.hid hv
  unfold encS
  go_enter Tryd.func56, Tryd.ntmps56
  go_wp2_with fail
  go_loopw [8] (fun i wr => ∃ k : Nat, k ≤ l.length ∧ i = .int .i64 k ∧ (wr.heap[w.heap.size + 1]? = some (.cells #[.int .u64 (lo (ofS (l.take k))), .int .u64 (hi (ofS (l.take k)))] 54 (0, 0)) ∧ wr.heap[w.heap.size]? = some (.cells #[.int .u64 0, .int .u64 0] 54 (0, 0)) ∧ Ext w wr))
    (fun i _ => l.length - (intOf i).toNat)
  case atStart =>
    refine ⟨0, Nat.zero_le _, rfl, ?_, ?_, ((Ext.refl w).alloc _).alloc _⟩
    · have := heap_alloc_new (w.alloc (.cells #[.int .u64 0, .int .u64 0] 54)) (.cells #[.int .u64 0, .int .u64 0] 54)
      rw [World.size_alloc] at this
      rw [show lo (ofS (l.take 0)) = 0 from by simp [ofS, lo], show hi (ofS (l.take 0)) = 0 from by simp [ofS, hi]]
      exact this
    · exact (Below.heap_alloc _ _ _ (by simp)).trans (heap_alloc_new w _)
  case round =>
    obtain ⟨k, hk, rfl, hH, hz, hx⟩ := hrel
    have c0 : wr.cell? ⟨w.heap.size + 1, 0, none⟩ = some (.int .u64 (lo (ofS (l.take k)))) := by simp [World.cell?, hH]
    have c1 : wr.cell? ⟨w.heap.size + 1, 1, none⟩ = some (.int .u64 (hi (ofS (l.take k)))) := by simp [World.cell?, hH]
    have z0 : wr.cell? ⟨w.heap.size, 0, none⟩ = some (.int .u64 0) := by simp [World.cell?, hz]
    have z1 : wr.cell? ⟨w.heap.size, 1, none⟩ = some (.int .u64 0) := by simp [World.cell?, hz]
    have y0 : wr.frozen? ⟨w.heap.size, 0, none⟩ = false := by simp [World.frozen?, hz]
    have y1 : wr.frozen? ⟨w.heap.size, 1, none⟩ = false := by simp [World.frozen?, hz]
    by_cases hlt : k < l.length
    · obtain ⟨b, o, rfl, hcs⟩ : ∃ b o, ba = some ⟨b, o, none⟩ ∧ ∀ j (hj : j < l.length), w.cell? ⟨b, o + j, none⟩ = some (.int .i64 l[j]) := by
        rcases hv.out with ⟨_, rfl, _⟩ | h
        · simp at hlt
        · exact h
      have f1 := hx.cell (hcs k hlt)
      have ht := Lib.hid (ofS_take l k hlt)
      clear hcs
      generalize hs : ofS (l.take k) = s at *
      generalize hu : l[k] = u at *
      replace hs := Lib.hid hs
      replace hu := Lib.hid hu
      have hsz : w.heap.size + 1 < wr.heap.size := World.block_lt_of_cell? wr _ c0
      clear z0 z1 y0 y1
      replace hz := Lib.hid hz
      replace hH := Lib.hid hH
      have hw := with_any s u wr
      unfold encS at hw
      go_wp2_with (go_at_call 71; refine hw.mono ?_; rintro e w2 ⟨rfl, hx2⟩; have b0 := hx2.cell c0; have b1 := hx2.cell c1; have q0 := (World.frozen?_of_block (a := ⟨w.heap.size + 1, 0, none⟩) (hx2.below.block _ hsz)).trans (show wr.frozen? ⟨w.heap.size + 1, 0, none⟩ = false from by simp [World.frozen?, hH.out]); have q1 := (World.frozen?_of_block (a := ⟨w.heap.size + 1, 1, none⟩) (hx2.below.block _ hsz)).trans (show wr.frozen? ⟨w.heap.size + 1, 1, none⟩ = false from by simp [World.frozen?, hH.out]))
      go_roundw
      case rel =>
        have hh2 := (hx2.below.block _ hsz).trans hH.out
        refine ⟨k + 1, by omega, by go_num, ?_, ?_, ((hx.trans hx2).setCell (by simp) _).setCell (by simp) _⟩
        · rw [ht.out]
          exact heap_set2 hh2 _ _
        · exact ((Below.heap_setCell _ _ _ _ (by simp)).trans (Below.heap_setCell _ _ _ _ (by simp))).trans ((hx2.below.block _ (by omega)).trans hz.out)
      case measure => simp [intOf]; omega
    · obtain rfl : k = l.length := by omega
      rw [List.take_length] at c0 c1
      replace hz := Lib.hid hz
      replace hH := Lib.hid hH
      have hsz : w.heap.size + 1 < wr.heap.size := World.block_lt_of_cell? wr _ c0
      have r0 : ((wr.setCell ⟨w.heap.size, 0, none⟩ (.int .u64 (lo (ofS l)))).setCell ⟨w.heap.size, 1, none⟩ (.int .u64 (hi (ofS l)))).cell? ⟨w.heap.size, 0, none⟩ = some (.int .u64 (lo (ofS l))) := by
        rw [World.cell?, heap_set2 hz.out]; rfl
      have r1 : ((wr.setCell ⟨w.heap.size, 0, none⟩ (.int .u64 (lo (ofS l)))).setCell ⟨w.heap.size, 1, none⟩ (.int .u64 (hi (ofS l)))).cell? ⟨w.heap.size, 1, none⟩ = some (.int .u64 (hi (ofS l))) := by
        rw [World.cell?, heap_set2 hz.out]; rfl
      go_wp2_with fail
      exact bodyPost_ret (v := encS (ofS l)) (by simp [results, Tryd.results56, go_sem, r0, r1, encS]) rfl ⟨rfl, (hx.setCell (by simp) _).setCell (by simp) _⟩
end Go.Proofs.YtgphkbnoflfneaaDoor
