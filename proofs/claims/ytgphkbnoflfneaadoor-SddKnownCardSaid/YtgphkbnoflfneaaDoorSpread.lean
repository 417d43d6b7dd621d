import Derived.Test.YtgphkbnoflfneaaDoorSddF3
namespace Go.Proofs.YtgphkbnoflfneaaDoor
open Go Go.RowKit Go.Shelf

/-- the end of a method that gives elements -/
def RetEl (l : List (Nat × Nat)) (B : Blks) (s' : St) (w : World) (e : Ending) (w' : World) : Prop := ∃ v, e = .returned v ∧ ElAt w' v l ∧ ∃ B', Rep B' s' w' ∧ Stp [] B w B' w'

theorem Rep.treeAt {B : Blks} {s : St} {w : World} (h : Rep B s w) : TreeAt w B.tb 0 s.tree := fun _ _ hj => h.tree.cell hj

theorem nodeBox {w : World} (pl lit : Int) (v : Value) (a b : Int) : Ext w (w.alloc (.cells #[.int .i64 pl, .int .i64 lit, v, .int .u64 a, .int .u64 b] tNode)) ∧
    (w.alloc (.cells #[.int .i64 pl, .int .i64 lit, v, .int .u64 a, .int .u64 b] tNode)).heap[w.heap.size]? = some (.cells #[.int .i64 pl, .int .i64 lit, v, .int .u64 a, .int .u64 b] tNode (0, 0)) :=
  ⟨(Ext.refl w).alloc _, heap_alloc_new w _⟩

theorem meetS_some {s : St} {a b : Int} {m : Nat} (h : meetS s a b = some m) : checkF s.tree = 0 ∧ ∃ x y : Nat, a = x ∧ b = y ∧ x < s.tree.length ∧ y < s.tree.length ∧ m = meetT s.tree x y := by
  unfold meetS at h
  split at h
  · rename_i hc
    obtain ⟨h0, h1, h2, h3, h4⟩ := hc
    simp only [Option.some.injEq] at h
    exact ⟨h0, a.toNat, b.toNat, by omega, by omega, by omega, by omega, h.symm⟩
  · cases h

set_option maxRecDepth 100000 in
set_option maxHeartbeats 4000000 in
theorem spread_same {B : Blks} {s : St} {w : World} {a pl : Nat} {n : SNode} (h : Rep B s w) (hn : s.nodes[a]? = some n) (hp : n.pl = pl) :
    Calls Tryd.prog 53 #[.pointer (some ⟨B.sb, 0, none⟩), .int .i64 a, .int .i64 pl] w (RetEl n.el B s w) := by
  obtain ⟨cap, _, _, cn, _, _, c5⟩ := h.cells
  obtain ⟨v, hv, hve, n0, n1, n2, n3, n4⟩ := h.node hn
  have hai : a < s.nodes.length := (List.getElem?_eq_some_iff.1 hn).1
  have ha0 : (0 : Int) ≤ a := by omega
  have ha1 : (a : Int) < s.nodes.length := by omega
  rw [hp] at n0
  obtain ⟨ba, cp, rfl, hv2⟩ := hv
  obtain ⟨hx0, hbox⟩ := nodeBox (w := w) pl n.lit (.slice ba n.el.length cp) (lo n.le) (hi n.le)
  unfold tNode at hx0 hbox
  replace hv2 := Lib.hid hv2
  go_enter Tryd.func53, Tryd.ntmps53
  go_wp2_with fail
  generalize w.alloc (.cells #[.int .i64 pl, .int .i64 n.lit, .slice ba n.el.length cp, .int .u64 (lo n.le), .int .u64 (hi n.le)] 59) = w1 at *
  obtain ⟨b0, b1, b2, b3, b4, _⟩ := cells5 hbox
  try go_wp2_with fail
  go_ret
  refine ⟨_, rfl, ElAt.same ⟨ba, cp, rfl, hv2.out⟩ (fun b c fz hb => hx0.below.block b (Array.getElem?_eq_some_iff.1 hb).1), B, h.below hx0.below, Stp.of_below hx0.below⟩

set_option maxRecDepth 100000 in
set_option maxHeartbeats 4000000 in
theorem spread_left {g : St → Nat → Option (Nat × St)} (ih : NotsLaw g) {B : Blks} {s s1 : St} {w : World} {a pl m b : Nat} {n : SNode} {x : VN} (h : Rep B s w) (hn : s.nodes[a]? = some n) (hp : n.pl ≠ pl) (hx : s.tree[pl]? = some x)
    (hm : meetS s n.pl x.left = some m) (hml : (m : Int) = x.left) (hg : g s a = some (b, s1)) :
    Calls Tryd.prog 53 #[.pointer (some ⟨B.sb, 0, none⟩), .int .i64 a, .int .i64 pl] w (RetEl [(a, 1), (b, 0)] B s1 w) := by
  obtain ⟨cap, ct, _, cn, _, _, c5⟩ := h.cells
  obtain ⟨v, hv, hve, n0, n1, n2, n3, n4⟩ := h.node hn
  have hai : a < s.nodes.length := (List.getElem?_eq_some_iff.1 hn).1
  have ha0 : (0 : Int) ≤ a := by omega
  have ha1 : (a : Int) < s.nodes.length := by omega
  have hpi : pl < s.tree.length := (List.getElem?_eq_some_iff.1 hx).1
  have hp0 : (0 : Int) ≤ pl := by omega
  have hp1 : (pl : Int) < s.tree.length := by omega
  have hpd : ((n.pl : Int) == pl) = false := by simpa using hp
  obtain ⟨t0, t1, t2⟩ := h.treeAt.node hpi
  have hxe : s.tree[pl] = x := (List.getElem?_eq_some_iff.1 hx).2
  rw [hxe, Nat.zero_add] at t0
  obtain ⟨hc, p, q, e1, e2, hp2, hq2, rfl⟩ := meetS_some hm
  rw [e2] at hml t0
  rw [e1] at n0 hpd
  have hmq : meetT s.tree p q = q := by omega
  obtain ⟨ba, cp, rfl, hv2⟩ := hv
  obtain ⟨hx0, hbox⟩ := nodeBox (w := w) p n.lit (.slice ba n.el.length cp) (lo n.le) (hi n.le)
  unfold tNode at hx0 hbox
  have htree := h.treeAt
  replace htree := Lib.hid htree
  replace hc := Lib.hid hc
  clear hv2 hve t1 t2 hm hml hx hxe
  go_enter Tryd.func53, Tryd.ntmps53
  go_wp2_with fail
  generalize w.alloc (.cells #[.int .i64 p, .int .i64 n.lit, .slice ba n.el.length cp, .int .u64 (lo n.le), .int .u64 (hi n.le)] 59) = w1 at *
  obtain ⟨b0, b1, b2, b3, b4, _⟩ := cells5 hbox
  try go_wp2_with fail
  have F1 : ∀ w' : World, Ext w1 w' → w'.cell? ⟨w.heap.size, 0, none⟩ = some (.int .i64 p) ∧ w'.cell? ⟨B.sb, 0, none⟩ = some (.slice (some ⟨B.tb, 0, none⟩) s.tree.length B.tc) ∧ w'.cell? ⟨B.tb, pl * 3, none⟩ = some (.int .i64 q) :=
    fun w' hw' => ⟨hw'.cell b0, hw'.cell (hx0.cell ct), hw'.cell (hx0.cell t0)⟩
  replace F1 := Lib.hid F1
  replace hn := Lib.hid hn
  replace hg := Lib.hid hg
  (refine wp_region_below (by kernel_rfl) (by kernel_rfl) ?_
   repeat (refine wpQuiet_step (fun K hK => ?_)
           go_simp
           first
             | (refine hK _ ?_; clear hK K)
             | (replace hK := Lib.hid hK
                apply Exists.intro
                refine ⟨fun wq hq => ?_, hK.out _ ?_⟩
                · (obtain ⟨f1, f2, f3⟩ := F1.out wq hq)
                  go_simp
                  first
                    | done
                    | rfl
                    | exact ⟨rfl, rfl⟩
                    | (refine (meet_any wq B.tb 0 B.tc (htree.out.ext (hx0.trans hq)) hc.out p q hp2 hq2).mono ?_; rintro e w' ⟨rfl, hb⟩; exact ⟨rfl, hq.trans hb⟩)
                clear hK K))
   refine wpQuiet_nil ?_)
  intro w2 hw2
  have hR2 := h.below (hx0.trans hw2).below
  have hS2 : Stp [] B w B w2 := Stp.of_below (hx0.trans hw2).below
  have hqm : ((meetT s.tree p q : Int) == q) = true := by rw [hmq]; simp
  have hcall := ih B s s1 w2 a b hR2 hg.out
  clear F1 b0 b1 b2 b3 b4 n0 n1 n2 n3 n4 hbox
  go_wp2_with fail
  refine hcall.mono ?_
  rintro e w3 ⟨rfl, B3, hR3, hS3⟩
  replace hR3 := Lib.hid hR3
  go_wp2_with fail
  go_ret
  have hx3 : Ext w3 (w3.alloc (.cells #[.int .i64 a, .int .i64 1, .int .i64 b, .int .i64 0] 76)) := (Ext.refl w3).alloc _
  exact ⟨_, rfl, ⟨_, _, rfl, .inr ⟨_, 0, rfl, _, _, heap_alloc_new w3 _, fun j u hj => by rw [Nat.zero_add]; simpa [flatP] using hj⟩⟩, B3, hR3.out.below hx3.below, (hS2.then hS3).then (Stp.of_below hx3.below)⟩

set_option maxRecDepth 100000 in
set_option maxHeartbeats 4000000 in
theorem spread_right {B : Blks} {s : St} {w : World} {a pl m : Nat} {n : SNode} {x : VN} (h : Rep B s w) (hn : s.nodes[a]? = some n) (hp : n.pl ≠ pl) (hx : s.tree[pl]? = some x)
    (hm : meetS s n.pl x.left = some m) (hml : ¬ (m : Int) = x.left) :
    Calls Tryd.prog 53 #[.pointer (some ⟨B.sb, 0, none⟩), .int .i64 a, .int .i64 pl] w (RetEl [(1, a)] B s w) := by
  obtain ⟨cap, ct, _, cn, _, _, c5⟩ := h.cells
  obtain ⟨v, hv, hve, n0, n1, n2, n3, n4⟩ := h.node hn
  have hai : a < s.nodes.length := (List.getElem?_eq_some_iff.1 hn).1
  have ha0 : (0 : Int) ≤ a := by omega
  have ha1 : (a : Int) < s.nodes.length := by omega
  have hpi : pl < s.tree.length := (List.getElem?_eq_some_iff.1 hx).1
  have hp0 : (0 : Int) ≤ pl := by omega
  have hp1 : (pl : Int) < s.tree.length := by omega
  have hpd : ((n.pl : Int) == pl) = false := by simpa using hp
  obtain ⟨t0, t1, t2⟩ := h.treeAt.node hpi
  have hxe : s.tree[pl] = x := (List.getElem?_eq_some_iff.1 hx).2
  rw [hxe, Nat.zero_add] at t0
  obtain ⟨hc, p, q, e1, e2, hp2, hq2, rfl⟩ := meetS_some hm
  rw [e2] at hml t0
  rw [e1] at n0 hpd
  have hmq : ¬ (meetT s.tree p q = q) := by omega
  obtain ⟨ba, cp, rfl, hv2⟩ := hv
  obtain ⟨hx0, hbox⟩ := nodeBox (w := w) p n.lit (.slice ba n.el.length cp) (lo n.le) (hi n.le)
  unfold tNode at hx0 hbox
  have htree := h.treeAt
  replace htree := Lib.hid htree
  replace hc := Lib.hid hc
  clear hv2 hve t1 t2 hm hml hx hxe
  go_enter Tryd.func53, Tryd.ntmps53
  go_wp2_with fail
  generalize w.alloc (.cells #[.int .i64 p, .int .i64 n.lit, .slice ba n.el.length cp, .int .u64 (lo n.le), .int .u64 (hi n.le)] 59) = w1 at *
  obtain ⟨b0, b1, b2, b3, b4, _⟩ := cells5 hbox
  try go_wp2_with fail
  have F1 : ∀ w' : World, Ext w1 w' → w'.cell? ⟨w.heap.size, 0, none⟩ = some (.int .i64 p) ∧ w'.cell? ⟨B.sb, 0, none⟩ = some (.slice (some ⟨B.tb, 0, none⟩) s.tree.length B.tc) ∧ w'.cell? ⟨B.tb, pl * 3, none⟩ = some (.int .i64 q) :=
    fun w' hw' => ⟨hw'.cell b0, hw'.cell (hx0.cell ct), hw'.cell (hx0.cell t0)⟩
  replace F1 := Lib.hid F1
  replace hn := Lib.hid hn
  (refine wp_region_below (by kernel_rfl) (by kernel_rfl) ?_
   repeat (refine wpQuiet_step (fun K hK => ?_)
           go_simp
           first
             | (refine hK _ ?_; clear hK K)
             | (replace hK := Lib.hid hK
                apply Exists.intro
                refine ⟨fun wq hq => ?_, hK.out _ ?_⟩
                · (obtain ⟨f1, f2, f3⟩ := F1.out wq hq)
                  go_simp
                  first
                    | done
                    | rfl
                    | exact ⟨rfl, rfl⟩
                    | (refine (meet_any wq B.tb 0 B.tc (htree.out.ext (hx0.trans hq)) hc.out p q hp2 hq2).mono ?_; rintro e w' ⟨rfl, hb⟩; exact ⟨rfl, hq.trans hb⟩)
                clear hK K))
   refine wpQuiet_nil ?_)
  intro w3 hw2
  have hR2 := h.below (hx0.trans hw2).below
  have hS2 : Stp [] B w B w3 := Stp.of_below (hx0.trans hw2).below
  have hqm : ((meetT s.tree p q : Int) == q) = false := by simp; omega
  clear F1 b0 b1 b2 b3 b4 n0 n1 n2 n3 n4 hbox
  replace hR2 := Lib.hid hR2
  go_wp2_with fail
  go_ret
  have hx3 : Ext w3 (w3.alloc (.cells #[.int .i64 1, .int .i64 a] 76)) := (Ext.refl w3).alloc _
  exact ⟨_, rfl, ⟨_, _, rfl, .inr ⟨_, 0, rfl, _, _, heap_alloc_new w3 _, fun j u hj => by rw [Nat.zero_add]; simpa [flatP] using hj⟩⟩, B, hR2.out.below hx3.below, hS2.then (Stp.of_below hx3.below)⟩

theorem spread_any {g : St → Nat → Option (Nat × St)} (ih : NotsLaw g) {B : Blks} {s s1 : St} {w : World} {a pl : Nat} {l : List (Nat × Nat)} (h : Rep B s w) (he : spreadF g s a pl = some (l, s1)) :
    Calls Tryd.prog 53 #[.pointer (some ⟨B.sb, 0, none⟩), .int .i64 a, .int .i64 pl] w (RetEl l B s1 w) := by
  unfold spreadF at he
  split at he
  · cases he
  · rename_i n hn
    split at he
    · rename_i hp
      simp only [Option.some.injEq, Prod.mk.injEq] at he
      obtain ⟨rfl, rfl⟩ := he
      exact spread_same h hn hp
    · rename_i hp
      split at he
      · cases he
      · rename_i x hx
        split at he
        · cases he
        · rename_i m hm
          split at he
          · rename_i hml
            split at he
            · cases he
            · rename_i b s2 hg
              simp only [Option.some.injEq, Prod.mk.injEq] at he
              obtain ⟨rfl, rfl⟩ := he
              exact spread_left ih h hn hp hx hm hml hg
          · rename_i hml
            simp only [Option.some.injEq, Prod.mk.injEq] at he
            obtain ⟨rfl, rfl⟩ := he
            exact spread_right h hn hp hx hm hml
end Go.Proofs.YtgphkbnoflfneaaDoor
