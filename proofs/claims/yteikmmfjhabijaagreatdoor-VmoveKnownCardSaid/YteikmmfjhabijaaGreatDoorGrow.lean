import Derived.Test.YteikmmfjhabijaaGreatDoorSem
set_option linter.unusedSimpArgs false
set_option linter.unusedVariables false
namespace Go.Proofs.YteikmmfjhabijaaGreatDoor
open Go Go.RowKit Go.Shelf

theorem Rep.grownT {B : Blks} {s : St} {w w' : World} {blk : Nat} {c0 : Array Value} {t : TypeId} {f0 : Nat × Nat} (h : Rep B s w) (hk : w.heap[blk]? = some (.cells c0 t f0)) (h1 : t ≠ tPair) (h2 : t ≠ tNode) (h3 : t ≠ tStore) (h4 : t ≠ 96) (hg : blk ≠ gPow ∧ blk ≠ gTz)
    (hs : ∀ (k : Nat) (o : Obj), k ≠ blk → w.heap[k]? = some o → w'.heap[k]? = some o) : Rep B s w' := by
  obtain ⟨nv, vs, hst, hn, he⟩ := h.store
  obtain ⟨c', hc⟩ := hn.nbk
  have n1 : B.sb ≠ blk := fun e => by rw [e, hk] at hst; simp at hst; exact h3 hst.2.1
  have n2 : B.nb ≠ blk := fun e => by rw [e, hk] at hc; simp at hc; exact h2 hc.2.1
  have nm : ∀ {α β : Type} [DecidableEq α] {enc : α → Value} {encV : β → Value} {b : Nat} {m : α → Option β}, MapAt enc encV w b m → MapAt enc encV w' b m := fun {α β _ enc encV b m} hm => by
    obtain ⟨L, cl, hb, hm2⟩ := hm
    refine ⟨L, cl, hs b _ (fun e => ?_) hb, hm2⟩
    rw [e, hk] at hb; simp at hb
  have same : ∀ k, k ≠ blk → k < w.heap.size → w'.heap[k]? = w.heap[k]? := fun k h1 h2 => by
    rw [Array.getElem?_eq_getElem h2]; exact hs k _ h1 (Array.getElem?_eq_getElem h2)
  exact {
    tz := h.tz.same (same _ (Ne.symm hg.2) h.tz.lt')
    pow := h.pow.same (same _ (Ne.symm hg.1) h.pow.lt)
    glob := h.glob
    store := by
      refine ⟨nv, vs, hs _ _ n1 hst, ⟨hn.len, ownsRow_same hn.own ?_, hn.blk, fun i hi hv => ?_⟩, he⟩
      · intro k hk2
        rw [hn.blk] at hk2
        cases hk2
        rw [hs _ _ n2 hc, hc]
      · obtain ⟨ba, c, hve, hrow⟩ := hn.els i hi hv
        refine ⟨ba, c, hve, hrow.imp id ?_⟩
        rintro ⟨b, o, rfl, cs, fz, hb, hcs⟩
        exact ⟨b, o, rfl, cs, fz, hs b _ (fun e => by rw [e, hk] at hb; simp at hb; exact h1 hb.2.1) hb, hcs⟩
    tree := by
      obtain ⟨c, fz, hb, hcs⟩ := h.tree
      refine ⟨c, fz, hs _ _ (fun e => ?_) hb, hcs⟩
      rw [e, hk] at hb; simp at hb; exact h4 hb.2.1
    leaf := nm h.leaf
    uniq := nm h.uniq
    ands := nm h.ands
    nots := nm h.nots
    apart := h.apart
    small := h.small }
end Go.Proofs.YteikmmfjhabijaaGreatDoor
