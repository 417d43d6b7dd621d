import Derived.Test.YtgphkbnoflfneaaDoorLit
namespace Go.Proofs.YtgphkbnoflfneaaDoor
open Go Go.RowKit Go.Shelf Go.Sort

/-- what the comparison reads: the table, the box of the store, the nodes' least models -/
structure LeRep (B : Blks) (ns : List SNode) (bx : Nat) (w : World) : Prop where
  tz : TzTab w
  box : w.cell? ⟨bx, 0, none⟩ = some (.pointer (some ⟨B.sb, 0, none⟩))
  nod : ∃ cap, w.cell? ⟨B.sb, 2, none⟩ = some (.slice (some ⟨B.nb, 0, none⟩) ns.length cap)
  le : ∀ i, i < ns.length → w.cell? ⟨B.nb, i * 5 + 3, none⟩ = some (.int .u64 (lo (leOf ns i))) ∧ w.cell? ⟨B.nb, i * 5 + 4, none⟩ = some (.int .u64 (hi (leOf ns i)))

theorem LeRep.same {B : Blks} {ns : List SNode} {bx : Nat} {w w' : World} (h : LeRep B ns bx w) (hs : ∀ k, k = gTz ∨ k = bx ∨ k = B.sb ∨ k = B.nb → w'.heap[k]? = w.heap[k]?) : LeRep B ns bx w' where
  tz := h.tz.same (hs _ (.inl rfl))
  box := (World.cell?_of_block (a := ⟨bx, 0, none⟩) (hs _ (.inr (.inl rfl)))).trans h.box
  nod := by
    obtain ⟨cap, hc⟩ := h.nod
    exact ⟨cap, (World.cell?_of_block (a := ⟨B.sb, 2, none⟩) (hs _ (.inr (.inr (.inl rfl))))).trans hc⟩
  le := fun i hi => ⟨(World.cell?_of_block (a := ⟨B.nb, i * 5 + 3, none⟩) (hs _ (.inr (.inr (.inr rfl))))).trans (h.le i hi).1, (World.cell?_of_block (a := ⟨B.nb, i * 5 + 4, none⟩) (hs _ (.inr (.inr (.inr rfl))))).trans (h.le i hi).2⟩

theorem ownsRow_cell {w : World} {b0 : Nat} {e : TypeId} {sz n : Nat} {v : Value} {xs : List Value} {b : Nat} (h : w.ownsRow b0 e sz v n xs) (hb : v.ownBlock = some b) {j : Nat} {u : Value} (hj : xs[j]? = some u) : w.cell? ⟨b, j, none⟩ = some u ∧ w.frozen? ⟨b, j, none⟩ = false := by
  obtain ⟨hl, ⟨rfl, _⟩ | ⟨g, cap, cur, rfl, hg, hh, hn, hc, hs, ht⟩⟩ := h
  · simp [Value.ownBlock] at hb
  · simp [Value.ownBlock] at hb
    subst hb
    rw [← ht, List.getElem?_take] at hj
    split at hj
    · have : cur[j]? = some u := by simpa using hj
      simp [World.cell?, World.frozen?, hh, this]
    · simp at hj

theorem NodesAt.cells {w : World} {nv : Value} {nb : Nat} {ns : List SNode} {vs : List Value} (h : NodesAt w nv nb ns vs) (i : Nat) (hi : i < ns.length) (hv : i < vs.length) :
    w.cell? ⟨nb, i * 5, none⟩ = some (.int .i64 ns[i].pl) ∧ w.cell? ⟨nb, i * 5 + 1, none⟩ = some (.int .i64 ns[i].lit) ∧ w.cell? ⟨nb, i * 5 + 2, none⟩ = some vs[i] ∧
      w.cell? ⟨nb, i * 5 + 3, none⟩ = some (.int .u64 (lo ns[i].le)) ∧ w.cell? ⟨nb, i * 5 + 4, none⟩ = some (.int .u64 (Proofs.YtgphkbnoflfneaaDoor.hi ns[i].le)) :=
  ⟨(ownsRow_cell h.own h.blk (flatN_get _ _ h.len i hi hv 0 (by omega))).1, (ownsRow_cell h.own h.blk (flatN_get _ _ h.len i hi hv 1 (by omega))).1, (ownsRow_cell h.own h.blk (flatN_get _ _ h.len i hi hv 2 (by omega))).1,
    (ownsRow_cell h.own h.blk (flatN_get _ _ h.len i hi hv 3 (by omega))).1, (ownsRow_cell h.own h.blk (flatN_get _ _ h.len i hi hv 4 (by omega))).1⟩

theorem leOf_get {ns : List SNode} {i : Nat} (hi : i < ns.length) : leOf ns i = ns[i].le := by simp [leOf, hi]

theorem Rep.leRep {B : Blks} {s : St} {w : World} (h : Rep B s w) {bx : Nat} (hb : w.cell? ⟨bx, 0, none⟩ = some (.pointer (some ⟨B.sb, 0, none⟩))) : LeRep B s.nodes bx w := by
  obtain ⟨nv, vs, hst, hns, _⟩ := h.store
  obtain ⟨cap, rfl⟩ := hns.form
  refine ⟨h.tz, hb, ⟨cap, by simp [World.cell?, hst]⟩, fun i hi => ?_⟩
  obtain ⟨_, _, _, c3, c4⟩ := hns.cells i hi (by rw [hns.len]; exact hi)
  rw [leOf_get hi]
  exact ⟨c3, c4⟩

def cmpF (ns : List SNode) (p q : Nat × Nat) : Int := if lessS (leOf ns p.1) (leOf ns q.1) = true then -1 else 1

set_option maxRecDepth 100000 in
set_option maxHeartbeats 2000000 in
theorem decide1_any {B : Blks} {ns : List SNode} {bx : Nat} {w : World} (h : LeRep B ns bx w) (p1 p2 q1 q2 : Nat) (hp : p1 < ns.length) (hq : q1 < ns.length) (hn : ns.length ≤ 1048576) :
    Calls Tryd.prog 63 #[.agg #[.int .i64 p1, .int .i64 p2], .agg #[.int .i64 q1, .int .i64 q2], .pointer (some ⟨bx, 0, none⟩)] w fun e w' => e = .returned (.int .i64 (cmpF ns (p1, p2) (q1, q2))) ∧ Ext w w' := by
  obtain ⟨cap, hnod⟩ := h.nod
  have hcf := Lib.hid (show cmpF ns (p1, p2) (q1, q2) = if lessS (leOf ns p1) (leOf ns q1) = true then -1 else 1 from rfl)
  obtain ⟨l1, l2⟩ := h.le p1 hp
  obtain ⟨l3, l4⟩ := h.le q1 hq
  have hbx := h.box
  have htz := h.tz
  have hx0 : Ext w ((w.alloc (.cells #[.int .i64 p1, .int .i64 p2] 76)).alloc (.cells #[.int .i64 q1, .int .i64 q2] 76)) := ((Ext.refl w).alloc _).alloc _
  have hw1 := heap_new_at (w.alloc (.cells #[.int .i64 p1, .int .i64 p2] 76)) (.cells #[.int .i64 q1, .int .i64 q2] 76) (w.heap.size + 1) (by simp)
  have hw0 := (Below.heap_alloc (w.alloc (.cells #[.int .i64 p1, .int .i64 p2] 76)) (.cells #[.int .i64 q1, .int .i64 q2] 76) w.heap.size (by simp)).trans (heap_alloc_new w (.cells #[.int .i64 p1, .int .i64 p2] 76))
  have hp0 : (0 : Int) ≤ p1 := by omega
  have hp1 : (p1 : Int) < ns.length := by omega
  have hq0 : (0 : Int) ≤ q1 := by omega
  have hq1 : (q1 : Int) < ns.length := by omega
  go_enter Tryd.func63, Tryd.ntmps63
  go_wp2_with fail
  generalize (w.alloc (.cells #[.int .i64 p1, .int .i64 p2] 76)).alloc (.cells #[.int .i64 q1, .int .i64 q2] 76) = w1 at *
  have b0 := (pbox_cells hw0).1
  have b1 := (pbox_cells hw1).1
  have F1 : ∀ w' : World, Ext w1 w' → w'.cell? ⟨w.heap.size, 0, none⟩ = some (.int .i64 p1) ∧ w'.cell? ⟨w.heap.size + 1, 0, none⟩ = some (.int .i64 q1) ∧ w'.cell? ⟨bx, 0, none⟩ = some (.pointer (some ⟨B.sb, 0, none⟩)) ∧
      w'.cell? ⟨B.sb, 2, none⟩ = some (.slice (some ⟨B.nb, 0, none⟩) ns.length cap) ∧ w'.cell? ⟨B.nb, p1 * 5 + 3, none⟩ = some (.int .u64 (lo (leOf ns p1))) ∧ w'.cell? ⟨B.nb, p1 * 5 + 4, none⟩ = some (.int .u64 (hi (leOf ns p1))) ∧
      w'.cell? ⟨B.nb, q1 * 5 + 3, none⟩ = some (.int .u64 (lo (leOf ns q1))) ∧ w'.cell? ⟨B.nb, q1 * 5 + 4, none⟩ = some (.int .u64 (hi (leOf ns q1))) ∧ TzTab w' := fun w' hx =>
    ⟨hx.cell b0, hx.cell b1, (hx0.trans hx).cell hbx, (hx0.trans hx).cell hnod, (hx0.trans hx).cell l1, (hx0.trans hx).cell l2, (hx0.trans hx).cell l3, (hx0.trans hx).cell l4, htz.ext (hx0.trans hx)⟩
  replace F1 := Lib.hid F1
  clear b0 b1 hbx hnod l1 l2 l3 l4 hw0 hw1
  replace htz := Lib.hid htz
  (refine wp_region_below (by kernel_rfl) (by kernel_rfl) ?_
   repeat (refine wpQuiet_step (fun K hK => ?_)
           go_simp
           first
             | (refine hK _ ?_; clear hK K)
             | (replace hK := Lib.hid hK
                apply Exists.intro
                refine ⟨fun wq hq => ?_, hK.out _ ?_⟩
                · (obtain ⟨f1, f2, f3, f4, f5, f6, f7, f8, f9⟩ := F1.out wq hq; replace f9 := Lib.hid f9)
                  go_simp
                  first
                    | done
                    | rfl
                    | exact ⟨rfl, rfl⟩
                    | (refine (less_any _ _ _ f9.out).mono ?_; rintro e w' ⟨rfl, hb⟩; exact ⟨rfl, Ext.trans hq hb⟩)
                clear hK K))
   refine wpQuiet_nil ?_)
  intro w2 hw2
  have hx2 := Lib.hid (hx0.trans hw2)
  cases hless : lessS (leOf ns p1) (leOf ns q1)
  · replace hless := Lib.hid hless
    go_wp2_with fail
    go_ret
    exact ⟨by rw [hcf.out, hless.out]; rfl, hx2.out⟩
  · replace hless := Lib.hid hless
    go_wp2_with fail
    go_ret
    exact ⟨by rw [hcf.out, hless.out]; rfl, hx2.out⟩
end Go.Proofs.YtgphkbnoflfneaaDoor
