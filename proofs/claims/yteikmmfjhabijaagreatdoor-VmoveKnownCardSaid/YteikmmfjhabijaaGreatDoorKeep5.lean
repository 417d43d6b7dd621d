import Derived.Test.YteikmmfjhabijaaGreatDoorKeep4
set_option linter.unusedSimpArgs false
set_option linter.unusedVariables false
namespace Go.Proofs.YteikmmfjhabijaaGreatDoor
open Go Go.RowKit Go.Shelf

/-! Keep, told by what nodes say. -/
theorem Val.keep {s : St} {b : List Nat} {a : Nat} {φ : L.Asg → Bool} (h : Val s a φ) (hi : L.Inv s) (hc : L.Closed s.nodes b) (ha : a ∈ b) : Val (L.keepS s b) (L.rankN b a) φ :=
  ⟨by show _ < (L.keepNodes s.nodes b).length; rw [L.keep_len]; exact L.rank_lt ha, fun x => (L.sem_keep hc hi.kids x a ha).trans (h.sem x)⟩
theorem tx_keep {s : St} {b : List Nat} {a : Nat} (hi : L.Inv s) (hc : L.Closed s.nodes b) (ha : a ∈ b) : L.tx (L.keepS s b).nodes (L.rankN b a) = L.tx s.nodes a := by
  have hv : Val (L.keepS s b) (L.rankN b a) (L.sem s.nodes a) := Val.keep ⟨hc.lt a ha, fun _ => rfl⟩ hi hc ha
  exact L.tx_eq (L.keep_inv hi hc) hi rfl _ _ hv.lt (hc.lt a ha) (funext fun x => hv.sem x)
/-- what Keep ends with -/
def RetKeepV (t : List VN) (B0 : Blks) (w0 : World) (k : Nat) (s : St) (l : List Nat) (n : Nat) (e : Ending) (w' : World) : Prop :=
  ∃ (b : List Nat) (v : Value), e = .returned (.tuple #[v, .int .i64 0]) ∧ L.Closed s.nodes b ∧ (∀ a ∈ l, a ∈ b) ∧ (∀ x ∈ b, ∃ a ∈ 0 :: 1 :: l, x ≤ a) ∧ w'.ownsRow n 3 1 v l.length ((l.map (L.rankN b)).map encI) ∧ SS t B0 w0 k (L.keepS s b) w'
theorem keep_v {t : List VN} {B0 : Blks} {w0 w : World} {k : Nat} {s : St} {v : Value} {l : List Nat} (h : SS t B0 w0 k s w) (hv : SlI w v (l.map fun n : Nat => (n : Int))) (hl : l.length ≤ 1000000) (hla : ∀ a ∈ l, a < s.nodes.length) :
    Calls Tryz.prog 27 #[.pointer (some ⟨B0.sb, 0, none⟩), v] w (RetKeepV t B0 w0 k s l w.heap.size) := by
  obtain ⟨B, hR, hS⟩ := h.held
  rw [← hS.sb]
  refine (keep_any hR h.ne h.inv hv hl hla).mono ?_
  rintro e w' ⟨b, v', B', rfl, hc, hm, hmx, ho, hR', hS'⟩
  have hbig := L.keep_big hc
  exact ⟨b, v', rfl, hc, hm, hmx, ho, ⟨B', hR', hS.then hS'⟩, ⟨L.keep_inv h.inv hc, h.room.few, by have := h.room.room; omega⟩, h.tree⟩
end Go.Proofs.YteikmmfjhabijaaGreatDoor
