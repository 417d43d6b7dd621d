import Derived.Test.YtgphkbnoflfneaaDoorCmp
namespace Go.Proofs.YtgphkbnoflfneaaDoor
open Go Go.RowKit Go.Shelf

theorem Rep.cells {B : Blks} {s : St} {w : World} (h : Rep B s w) : ∃ cap, w.cell? ⟨B.sb, 0, none⟩ = some (.slice (some ⟨B.tb, 0, none⟩) s.tree.length B.tc) ∧ w.cell? ⟨B.sb, 1, none⟩ = some (.map (some B.lb)) ∧
    w.cell? ⟨B.sb, 2, none⟩ = some (.slice (some ⟨B.nb, 0, none⟩) s.nodes.length cap) ∧ w.cell? ⟨B.sb, 3, none⟩ = some (.map (some B.ub)) ∧ w.cell? ⟨B.sb, 4, none⟩ = some (.map (some B.ab)) ∧ w.cell? ⟨B.sb, 5, none⟩ = some (.map (some B.mb)) := by
  obtain ⟨nv, vs, hst, hns, _⟩ := h.store
  obtain ⟨cap, rfl⟩ := hns.form
  exact ⟨cap, by simp [World.cell?, hst], by simp [World.cell?, hst], by simp [World.cell?, hst], by simp [World.cell?, hst], by simp [World.cell?, hst], by simp [World.cell?, hst]⟩
theorem Rep.node {B : Blks} {s : St} {w : World} (h : Rep B s w) {i : Nat} {n : SNode} (hn : s.nodes[i]? = some n) : ∃ v, ElAt w v n.el ∧ (∀ b, v.ownBlock = some b → b ∈ B.eb) ∧
    w.cell? ⟨B.nb, i * 5, none⟩ = some (.int .i64 n.pl) ∧ w.cell? ⟨B.nb, i * 5 + 1, none⟩ = some (.int .i64 n.lit) ∧ w.cell? ⟨B.nb, i * 5 + 2, none⟩ = some v ∧
      w.cell? ⟨B.nb, i * 5 + 3, none⟩ = some (.int .u64 (lo n.le)) ∧ w.cell? ⟨B.nb, i * 5 + 4, none⟩ = some (.int .u64 (hi n.le)) := by
  obtain ⟨nv, vs, hst, hns, he⟩ := h.store
  obtain ⟨hi, rfl⟩ := List.getElem?_eq_some_iff.1 hn
  have hv : i < vs.length := by rw [hns.len]; exact hi
  exact ⟨vs[i], hns.els i hi hv, fun b hb => he _ (List.getElem_mem hv) b hb, hns.cells i hi hv⟩

/-- a block of cells of a kind that no store has may turn -/
theorem Rep.offT {B : Blks} {s : St} {w w' : World} {blk : Nat} {c0 : Array Value} {t : TypeId} {f0 : Nat × Nat} (h : Rep B s w) (hk : w.heap[blk]? = some (.cells c0 t f0)) (h1 : t ≠ tPair) (h2 : t ≠ tNode) (h3 : t ≠ tStore) (h4 : t ≠ 32) (hg : blk ≠ gPow ∧ blk ≠ gTz)
    (hs : ∀ (k : Nat), k ≠ blk → w'.heap[k]? = w.heap[k]?) : Rep B s w' := by
  obtain ⟨nv, vs, hst, hn, he⟩ := h.store
  obtain ⟨c', hc⟩ := hn.nbk
  have n1 : B.sb ≠ blk := fun e => by rw [e, hk] at hst; simp at hst; exact h3 hst.2.1
  have n2 : B.nb ≠ blk := fun e => by rw [e, hk] at hc; simp at hc; exact h2 hc.2.1
  have nm : ∀ {α β : Type} [DecidableEq α] {enc : α → Value} {encV : β → Value} {b : Nat} {m : α → Option β}, MapAt enc encV w b m → MapAt enc encV w' b m := fun {α β _ enc encV b m} hm => by
    obtain ⟨L, cl, hb, hm2⟩ := hm
    refine ⟨L, cl, (hs b (fun e => ?_)).trans hb, hm2⟩
    rw [e, hk] at hb; simp at hb
  exact {
    tz := h.tz.same (hs _ (Ne.symm hg.2))
    pow := h.pow.same (hs _ (Ne.symm hg.1))
    glob := h.glob
    store := by
      refine ⟨nv, vs, (hs _ n1).trans hst, ⟨hn.len, ownsRow_same hn.own ?_, hn.blk, fun i hi hv => ?_⟩, he⟩
      · intro k hk2
        rw [hn.blk] at hk2
        cases hk2
        exact hs _ n2
      · obtain ⟨ba, c, hve, hrow⟩ := hn.els i hi hv
        refine ⟨ba, c, hve, hrow.imp id ?_⟩
        rintro ⟨b, o, rfl, cs, fz, hb, hcs⟩
        exact ⟨b, o, rfl, cs, fz, (hs b (fun e => by rw [e, hk] at hb; simp at hb; exact h1 hb.2.1)).trans hb, hcs⟩
    tree := by
      obtain ⟨c, fz, hb, hcs⟩ := h.tree
      refine ⟨c, fz, (hs _ (fun e => ?_)).trans hb, hcs⟩
      rw [e, hk] at hb; simp at hb; exact h4 hb.2.1
    leaf := nm h.leaf
    uniq := nm h.uniq
    ands := nm h.ands
    nots := nm h.nots
    apart := h.apart
    small := h.small }
/-- one cell of such a block is set -/
theorem Rep.setT {B : Blks} {s : St} {w : World} {blk o : Nat} {c0 : Array Value} {t : TypeId} {f0 : Nat × Nat} {u : Value} (h : Rep B s w) (hk : w.heap[blk]? = some (.cells c0 t f0)) (h1 : t ≠ tPair) (h2 : t ≠ tNode) (h3 : t ≠ tStore) (h4 : t ≠ 32) (hg : blk ≠ gPow ∧ blk ≠ gTz) :
    Rep B s (w.setCell ⟨blk, o, none⟩ u) ∧ Stp [blk] B w B (w.setCell ⟨blk, o, none⟩ u) :=
  ⟨h.offT hk h1 h2 h3 h4 hg (fun k hk => Below.heap_setCell _ _ _ _ hk), Stp.of_but ⟨rfl, rfl, rfl⟩ (by simp [World.setCell]) (fun k _ hX => Below.heap_setCell _ _ _ _ (by simpa using hX))⟩

/-- the end of a method that gives a number and an error -/
def chkF (n : Nat) (l : List Int) : Int := if l.all (fun a => decide (0 ≤ a) && decide (a < n)) then 0 else 1

set_option maxRecDepth 100000 in
set_option maxHeartbeats 1000000 in
theorem sck_any {B : Blks} {s : St} {w : World} {v : Value} {l : List Int} (h : Rep B s w) (ht : s.tree ≠ []) (hv : SlI w v l) (hl : l.length ≤ 1048576) :
    Calls Tryd.prog 30 #[.pointer (some ⟨B.sb, 0, none⟩), v] w fun e w' => e = .returned (.int .i64 (chkF s.nodes.length l)) ∧ w = w' := by
  obtain ⟨cap, c0, _, c2, _⟩ := h.cells
  have htl : 0 < s.tree.length := List.length_pos_iff.2 ht
  have hns := h.small.1
  obtain ⟨ba, c, rfl, hv2⟩ := hv
  have hv3 : ∀ j (hj : j < l.length), ∃ b o, ba = some ⟨b, o, none⟩ ∧ w.cell? ⟨b, o + j, none⟩ = some (.int .i64 l[j]) := fun j hj => by
    rcases hv2 with ⟨_, e, _⟩ | ⟨b, o, e, hc⟩
    · rw [e] at hj; simp at hj
    · exact ⟨b, o, e, hc j hj⟩
  clear hv2
  have d0 : ((s.tree.length : Int) == 0) = false := by simp; omega
  replace hv3 := Lib.hid hv3
  clear h ht
  go_enter Tryd.func30, Tryd.ntmps30
  go_wp2_with fail
  go_loop [19] (fun i => ∃ k : Nat, k ≤ l.length ∧ i = .int .i64 k ∧ Hid ((l.take k).all (fun a => decide (0 ≤ a) && decide (a < s.nodes.length)) = true)) (fun i => l.length - (intOf i).toNat)
  case atStart => exact ⟨0, Nat.zero_le _, rfl, Lib.hid rfl⟩
  case round =>
    obtain ⟨k, hk, rfl, hI⟩ := hrel
    by_cases hlt : k < l.length
    · obtain ⟨b, o, rfl, hc⟩ := hv3.out k hlt
      have hts : l.take (k + 1) = l.take k ++ [l[k]] := List.take_succ_eq_append_getElem hlt
      have hall : Hid (∀ P : Int → Bool, (l.take (k + 1)).all P = ((l.take k).all P && P l[k])) := Lib.hid (fun P => by rw [hts, List.all_append, List.all_cons, List.all_nil, Bool.and_true])
      have hbad : Hid (∀ P : Int → Bool, P l[k] = false → l.all P = false) := Lib.hid (fun P hP => by
        rw [List.all_eq_false]; exact ⟨l[k], List.getElem_mem hlt, by simp [hP]⟩)
      clear hts
      generalize l[k] = x at *
      by_cases hx : 0 ≤ x ∧ x < s.nodes.length
      · obtain ⟨hx0, hx1⟩ := hx
        have e1 : decide (x < 0) = false := decide_eq_false (by omega)
        have e2 : decide (x ≥ (s.nodes.length : Int)) = false := decide_eq_false (by omega)
        go_wp2_with fail
        go_round
        case rel => exact ⟨k + 1, by omega, by go_num, Lib.hid (by rw [hall.out, hI.out]; simp [hx0, hx1])⟩
        case measure => simp [intOf]; omega
      · have hf : chkF s.nodes.length l = 1 := by
          unfold chkF
          rw [hbad.out _ (by simp; omega)]
          rfl
        replace hf := Lib.hid hf
        by_cases hx0 : x < 0
        · have e1 : decide (x < 0) = true := decide_eq_true hx0
          go_wp2_with fail
          go_ret
          exact ⟨by rw [hf.out] <;> rfl, rfl⟩
        · have e1 : decide (x < 0) = false := decide_eq_false hx0
          have e2 : decide (x ≥ (s.nodes.length : Int)) = true := decide_eq_true (by omega)
          go_wp2_with fail
          go_ret
          exact ⟨by rw [hf.out] <;> rfl, rfl⟩
    · obtain rfl : k = l.length := by omega
      have hf : chkF s.nodes.length l = 0 := by
        have := hI.out
        rw [List.take_length] at this
        unfold chkF
        rw [this]; rfl
      replace hf := Lib.hid hf
      go_wp2_with fail
      go_ret
      exact ⟨by rw [hf.out] <;> rfl, rfl⟩
end Go.Proofs.YtgphkbnoflfneaaDoor
