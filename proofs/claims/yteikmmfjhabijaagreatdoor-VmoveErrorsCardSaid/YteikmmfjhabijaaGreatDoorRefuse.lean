import Derived.Test.YteikmmfjhabijaaGreatDoorKeep5
set_option linter.unusedSimpArgs false
set_option linter.unusedVariables false
namespace Go.Proofs.YteikmmfjhabijaaGreatDoor
open Go Go.RowKit Go.Shelf

/-! What is refused: nil stores, stores without a vtree, numbers that are none of a node. -/
/-- the check refuses the numbers of which G holds, in all worlds that have grown out of w -/
def Refs (p : Option Addr) (err : Int) (G : List Int → Prop) (w : World) : Prop :=
  ∀ (W : World) (v : Value) (l : List Int), Below w.heap.size w W → SlI W v l → l.length ≤ 2 → G l → Calls Tryz.prog 61 #[.pointer p, v] W fun e w' => e = .returned (.int .i64 err) ∧ Ext W w'
theorem Refs.ext {p : Option Addr} {err : Int} {G : List Int → Prop} {w w' : World} (h : Refs p err G w) (hx : Below w.heap.size w w') : Refs p err G w' := fun W v l hb => h W v l (hx.trans (hb.mono hx.size))
theorem slI_two {w : World} {k : Nat} {a b : Int} (h : w.heap[k]? = some (.cells #[.int .i64 a, .int .i64 b] 3 (0, 0))) : SlI w (.slice (some ⟨k, 0, none⟩) 2 2) [a, b] := ⟨_, 2, rfl, .inr ⟨_, 0, rfl, fun j hj => by
    match j, hj with
    | 0, _ => simp [World.cell?, h]
    | 1, _ => simp [World.cell?, h]⟩⟩
theorem slI_none {w : World} : SlI w (.slice none 0 0) [] := ⟨none, 0, rfl, .inl ⟨rfl, rfl, rfl⟩⟩
set_option maxRecDepth 100000 in
set_option maxHeartbeats 1000000 in
theorem check_nil (w : World) : Refs none 9 (fun _ => True) w := fun W v l _ hv hl _ => by
  obtain ⟨ba, c, rfl, _⟩ := hv
  go_enter Tryz.func61, Tryz.ntmps61
  go_wp2_with fail
  go_ret
  exact ⟨rfl, Ext.refl _⟩
set_option maxRecDepth 100000 in
set_option maxHeartbeats 1000000 in
theorem check_zero {w : World} {k : Nat} (hk : w.cell? ⟨k, 0, none⟩ = some (.slice none 0 0)) : Refs (some ⟨k, 0, none⟩) 9 (fun _ => True) w := fun W v l hb hv hl _ => by
  obtain ⟨ba, c, rfl, _⟩ := hv
  have hc := (hb.cell (World.block_lt_of_cell? w _ hk)).trans hk
  clear hk
  go_enter Tryz.func61, Tryz.ntmps61
  go_wp2_with fail
  go_ret
  exact ⟨rfl, Ext.refl _⟩
theorem check_bad {t : List VN} {B0 : Blks} {w0 w : World} {k : Nat} {s : St} (h : SS t B0 w0 k s w) (a : Int) (ha : ¬ (0 ≤ a ∧ a < s.nodes.length)) : Refs (some ⟨B0.sb, 0, none⟩) 1 (fun l => a ∈ l) w := fun W v l hb hv hl hg => by
  obtain ⟨B, hR, hS⟩ := (h.below hb).held
  rw [← hS.sb]
  have hch : chkF s.nodes.length l = 1 := by
    unfold chkF
    rw [if_neg]
    rw [List.all_eq_true]
    intro hall
    have := hall a hg
    simp only [Bool.and_eq_true, decide_eq_true_eq] at this
    exact ha this
  have := sck_any hR h.ne hv (by omega)
  rw [hch] at this
  refine this.mono ?_
  rintro e w' ⟨rfl, rfl⟩
  exact ⟨rfl, Ext.refl _⟩
theorem six_all (w : World) (a : Obj) : (w.alloc a).heap[w.heap.size]? = some a := heap_alloc_new _ _
set_option maxRecDepth 100000 in
set_option maxHeartbeats 1000000 in
theorem not_ref {p : Option Addr} {err : Int} {G : List Int → Prop} {w : World} {a : Int} (hR : Refs p err G w) (hg : G [a]) (he : (err != 0) = true) :
    Calls Tryz.prog 28 #[.pointer p, .int .i64 a] w fun e w' => e = .returned (.tuple #[.int .i64 0, .int .i64 err]) ∧ Ext w w' := by
  have hx := (((Ext.refl w).alloc (.cells #[.pointer p] 31)).alloc (.cells #[.int .i64 a] 3)).alloc (.cells #[.int .i64 a] 3)
  obtain ⟨hz0, hz1, hz3⟩ := three_all w (.cells #[.pointer p] 31) (.cells #[.int .i64 a] 3) (.cells #[.int .i64 a] 3)
  go_enter Tryz.func28, Tryz.ntmps28
  go_wp2_with fail
  generalize ((w.alloc (.cells #[.pointer p] 31)).alloc (.cells #[.int .i64 a] 3)).alloc (.cells #[.int .i64 a] 3) = w1 at *
  have hq := hR w1 _ _ hx.below (slI_one hz3) (by simp) hg
  clear hz0 hz1 hz3
  refine hq.mono ?_
  rintro e w2 ⟨rfl, hx2⟩
  go_wp2_with fail
  go_ret2
  exact ⟨rfl, hx.trans hx2⟩
set_option maxRecDepth 100000 in
set_option maxHeartbeats 1000000 in
theorem and_ref {p : Option Addr} {err : Int} {G : List Int → Prop} {w : World} {a b : Int} (hR : Refs p err G w) (hg : G [a, b]) (he : (err != 0) = true) :
    Calls Tryz.prog 25 #[.pointer p, .int .i64 a, .int .i64 b] w fun e w' => e = .returned (.tuple #[.int .i64 0, .int .i64 err]) ∧ Ext w w' := by
  have hx := ((((Ext.refl w).alloc (.cells #[.pointer p] 31)).alloc (.cells #[.int .i64 a] 3)).alloc (.cells #[.int .i64 b] 3)).alloc (.cells #[.int .i64 a, .int .i64 b] 3)
  obtain ⟨hz0, hz1, hz2, hz3⟩ := four_all w (.cells #[.pointer p] 31) (.cells #[.int .i64 a] 3) (.cells #[.int .i64 b] 3) (.cells #[.int .i64 a, .int .i64 b] 3)
  go_enter Tryz.func25, Tryz.ntmps25
  go_wp2_with fail
  generalize (((w.alloc (.cells #[.pointer p] 31)).alloc (.cells #[.int .i64 a] 3)).alloc (.cells #[.int .i64 b] 3)).alloc (.cells #[.int .i64 a, .int .i64 b] 3) = w1 at *
  have hq := hR w1 _ _ hx.below (slI_two hz3) (by simp) hg
  clear hz0 hz1 hz2 hz3
  refine hq.mono ?_
  rintro e w2 ⟨rfl, hx2⟩
  go_wp2_with fail
  go_ret2
  exact ⟨rfl, hx.trans hx2⟩
set_option maxRecDepth 100000 in
set_option maxHeartbeats 1000000 in
theorem or_ref {p : Option Addr} {err : Int} {G : List Int → Prop} {w : World} {a b : Int} (hR : Refs p err G w) (hg : G [a, b]) (he : (err != 0) = true) :
    Calls Tryz.prog 55 #[.pointer p, .int .i64 a, .int .i64 b] w fun e w' => e = .returned (.tuple #[.int .i64 0, .int .i64 err]) ∧ Ext w w' := by
  have hx := ((((Ext.refl w).alloc (.cells #[.pointer p] 31)).alloc (.cells #[.int .i64 a] 3)).alloc (.cells #[.int .i64 b] 3)).alloc (.cells #[.int .i64 a, .int .i64 b] 3)
  obtain ⟨hz0, hz1, hz2, hz3⟩ := four_all w (.cells #[.pointer p] 31) (.cells #[.int .i64 a] 3) (.cells #[.int .i64 b] 3) (.cells #[.int .i64 a, .int .i64 b] 3)
  go_enter Tryz.func55, Tryz.ntmps55
  go_wp2_with fail
  generalize (((w.alloc (.cells #[.pointer p] 31)).alloc (.cells #[.int .i64 a] 3)).alloc (.cells #[.int .i64 b] 3)).alloc (.cells #[.int .i64 a, .int .i64 b] 3) = w1 at *
  have hq := hR w1 _ _ hx.below (slI_two hz3) (by simp) hg
  clear hz0 hz1 hz2 hz3
  refine hq.mono ?_
  rintro e w2 ⟨rfl, hx2⟩
  go_wp2_with fail
  go_ret2
  exact ⟨rfl, hx.trans hx2⟩
set_option maxRecDepth 100000 in
set_option maxHeartbeats 1000000 in
theorem at_ref {p : Option Addr} {err : Int} {G : List Int → Prop} {w : World} {a : Int} (hR : Refs p err G w) (hg : G [a]) (he : (err != 0) = true) :
    Calls Tryz.prog 75 #[.pointer p, .int .i64 a] w fun e w' => e = .returned (.tuple #[.int .i64 0, .int .i64 err]) ∧ Ext w w' := by
  have hx := (Ext.refl w).alloc (.cells #[.int .i64 a] 3)
  have hz := heap_alloc_new w (.cells #[.int .i64 a] 3)
  go_enter Tryz.func75, Tryz.ntmps75
  go_wp2_with fail
  generalize w.alloc (.cells #[.int .i64 a] 3) = w1 at *
  have hq := hR w1 _ _ hx.below (slI_one hz) (by simp) hg
  clear hz
  refine hq.mono ?_
  rintro e w2 ⟨rfl, hx2⟩
  go_wp2_with fail
  go_ret2
  exact ⟨rfl, hx.trans hx2⟩
set_option maxRecDepth 100000 in
set_option maxHeartbeats 1000000 in
theorem size_ref {p : Option Addr} {err : Int} {G : List Int → Prop} {w : World} {a : Int} (hR : Refs p err G w) (hg : G [a]) (he : (err != 0) = true) :
    Calls Tryz.prog 47 #[.pointer p, .int .i64 a] w fun e w' => e = .returned (.tuple #[.int .i64 0, .int .i64 err]) ∧ Ext w w' := by
  have hx := (Ext.refl w).alloc (.cells #[.int .i64 a] 3)
  have hz := heap_alloc_new w (.cells #[.int .i64 a] 3)
  go_enter Tryz.func47, Tryz.ntmps47
  go_wp2_with fail
  generalize w.alloc (.cells #[.int .i64 a] 3) = w1 at *
  have hq := hR w1 _ _ hx.below (slI_one hz) (by simp) hg
  clear hz
  refine hq.mono ?_
  rintro e w2 ⟨rfl, hx2⟩
  go_wp2_with fail
  go_ret2
  exact ⟨rfl, hx.trans hx2⟩
set_option maxRecDepth 100000 in
set_option maxHeartbeats 1000000 in
theorem elements_ref {p : Option Addr} {err : Int} {G : List Int → Prop} {w : World} {a : Int} (hR : Refs p err G w) (hg : G [a]) (he : (err != 0) = true) :
    Calls Tryz.prog 76 #[.pointer p, .int .i64 a] w fun e w' => e = .returned (.tuple #[.slice none 0 0, .int .i64 err]) ∧ Ext w w' := by
  have hx := (Ext.refl w).alloc (.cells #[.int .i64 a] 3)
  have hz := heap_alloc_new w (.cells #[.int .i64 a] 3)
  go_enter Tryz.func76, Tryz.ntmps76
  go_wp2_with fail
  generalize w.alloc (.cells #[.int .i64 a] 3) = w1 at *
  have hq := hR w1 _ _ hx.below (slI_one hz) (by simp) hg
  clear hz
  refine hq.mono ?_
  rintro e w2 ⟨rfl, hx2⟩
  go_wp2_with fail
  go_ret2
  exact ⟨rfl, hx.trans hx2⟩
set_option maxRecDepth 100000 in
set_option maxHeartbeats 1000000 in
theorem text_ref {p : Option Addr} {err : Int} {G : List Int → Prop} {w : World} {a : Int} (hR : Refs p err G w) (hg : G [a]) (he : (err != 0) = true) :
    Calls Tryz.prog 26 #[.pointer p, .int .i64 a] w fun e w' => e = .returned (.tuple #[.string ⟨#[]⟩, .int .i64 err]) ∧ Ext w w' := by
  have hx := (Ext.refl w).alloc (.cells #[.int .i64 a] 3)
  have hz := heap_alloc_new w (.cells #[.int .i64 a] 3)
  go_enter Tryz.func26, Tryz.ntmps26
  go_wp2_with fail
  generalize w.alloc (.cells #[.int .i64 a] 3) = w1 at *
  have hq := hR w1 _ _ hx.below (slI_one hz) (by simp) hg
  clear hz
  refine hq.mono ?_
  rintro e w2 ⟨rfl, hx2⟩
  go_wp2_with fail
  go_ret2
  exact ⟨rfl, hx.trans hx2⟩
set_option maxRecDepth 100000 in
set_option maxHeartbeats 1000000 in
theorem keep_ref {p : Option Addr} {err : Int} {G : List Int → Prop} {w : World} {v : Value} {l : List Int} (hR : Refs p err G w) (hv : SlI w v l) (hl : l.length ≤ 2) (hg : G l) (he : (err != 0) = true) :
    Calls Tryz.prog 27 #[.pointer p, v] w fun e w' => e = .returned (.tuple #[.slice none 0 0, .int .i64 err]) ∧ Ext w w' := by
  have hq := hR w _ _ (Below.refl _ _) hv hl hg
  obtain ⟨ba, c, rfl, _⟩ := hv
  go_enter Tryz.func27, Tryz.ntmps27
  go_wp2_with fail
  refine hq.mono ?_
  rintro e w2 ⟨rfl, hx2⟩
  go_wp2_with fail
  go_ret2
  exact ⟨rfl, hx2⟩
set_option maxRecDepth 100000 in
set_option maxHeartbeats 1000000 in
theorem eval_ref {p : Option Addr} {err : Int} {G : List Int → Prop} {w : World} {a : Int} {x y : Int} (hR : Refs p err G w) (hg : G [a]) (he : (err != 0) = true) :
    Calls Tryz.prog 21 #[.pointer p, .int .i64 a, .agg #[.int .u64 x, .int .u64 y]] w fun e w' => e = .returned (.bool false) ∧ Ext w w' := by
  have hx := ((Ext.refl w).alloc (.cells #[.int .u64 x, .int .u64 y] 29)).alloc (.cells #[.int .i64 a] 3)
  obtain ⟨_, hz⟩ := two_all w (.cells #[.int .u64 x, .int .u64 y] 29) (.cells #[.int .i64 a] 3)
  go_enter Tryz.func21, Tryz.ntmps21
  go_wp2_with fail
  generalize (w.alloc (.cells #[.int .u64 x, .int .u64 y] 29)).alloc (.cells #[.int .i64 a] 3) = w1 at *
  have hq := hR w1 _ _ hx.below (slI_one hz) (by simp) hg
  clear hz
  refine hq.mono ?_
  rintro e w2 ⟨rfl, hx2⟩
  go_wp2_with fail
  go_ret
  exact ⟨rfl, hx.trans hx2⟩
set_option maxRecDepth 100000 in
set_option maxHeartbeats 1000000 in
theorem lit_ref {p : Option Addr} {err : Int} {G : List Int → Prop} {w : World} {l : Int} (hR : Refs p err G w) (hg : G []) (he : (err != 0) = true) :
    Calls Tryz.prog 34 #[.pointer p, .int .i64 l] w fun e w' => e = .returned (.tuple #[.int .i64 0, .int .i64 err]) ∧ Ext w w' := by
  have hx := ((Ext.refl w).alloc (.cells #[.pointer p] 31)).alloc (.cells #[.int .i64 l] 3)
  go_enter Tryz.func34, Tryz.ntmps34
  go_wp2_with fail
  generalize (w.alloc (.cells #[.pointer p] 31)).alloc (.cells #[.int .i64 l] 3) = w1 at *
  have hq := hR w1 _ _ hx.below slI_none (by simp) hg
  refine hq.mono ?_
  rintro e w2 ⟨rfl, hx2⟩
  go_wp2_with fail
  go_ret2
  exact ⟨rfl, hx.trans hx2⟩
set_option maxRecDepth 100000 in
set_option maxHeartbeats 1000000 in
theorem tree_nil (w : World) : Calls Tryz.prog 33 #[.pointer none] w fun e w' => e = .returned (.slice none 0 0) ∧ w = w' := by
  go_enter Tryz.func33, Tryz.ntmps33
  go_wp2_with fail
  go_ret
  exact ⟨rfl, rfl⟩
end Go.Proofs.YteikmmfjhabijaaGreatDoor
