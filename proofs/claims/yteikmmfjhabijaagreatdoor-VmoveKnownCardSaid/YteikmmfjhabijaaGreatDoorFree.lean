import Derived.Test.YteikmmfjhabijaaGreatDoorSem
set_option linter.unusedSimpArgs false
set_option linter.unusedVariables false
namespace Go.Proofs.YteikmmfjhabijaaGreatDoor
open Go Go.RowKit Go.Shelf

/-! And, Or at given costs: free where there are at most seven places. -/
theorem and_c {t : List VN} {B0 : Blks} {w0 w : World} {k k' c a b : Nat} {s : St} {φ ψ : L.Asg → Bool} (h : SS t B0 w0 k s w) (hc : L.ca (L.nv t (t.length - 1)) ≤ c) (hk : k' + c ≤ k) (ha : Val s a φ) (hb : Val s b ψ) :
    Calls Tryz.prog 25 #[.pointer (some ⟨B0.sb, 0, none⟩), .int .i64 a, .int .i64 b] w (RetV t B0 w0 k' s fun x => φ x && ψ x) := by
  obtain ⟨B, hR, hS⟩ := h.held
  obtain ⟨g1, g2, g3⟩ := root_cost h.chk h.few
  have hd := L.and_spec h.chk h.few _ g1 14 (by have := h.few; omega) s a b h.tree (h.room.less (by omega)) ha.lt hb.lt (by rw [← h.tree]; exact dep_root h.inv ha.lt) (by rw [← h.tree]; exact dep_root h.inv hb.lt)
  obtain ⟨r, s', e, hr⟩ := ret_did h hR hS (k' := k') (c := c) hk (hd.mono hc) (fun _ _ _ _ _ h => h)
  rw [← hS.sb]
  refine (and_top (andF_law 14) hR h.ne ha.lt hb.lt e).mono fun e w' hh => ?_
  obtain ⟨r, s', h1, h2, h3, h4⟩ := hr e w' hh
  exact ⟨r, s', h1, h2, h3, h4.congr fun x => by rw [ha.sem, hb.sem]⟩
theorem or_c {t : List VN} {B0 : Blks} {w0 w : World} {k k' c d a b : Nat} {s : St} {φ ψ : L.Asg → Bool} (h : SS t B0 w0 k s w) (hc : L.ca (L.nv t (t.length - 1)) ≤ c) (hd' : L.cn (L.nv t (t.length - 1)) ≤ d) (hk : k' + (3 * d + c) ≤ k) (ha : Val s a φ) (hb : Val s b ψ) :
    Calls Tryz.prog 55 #[.pointer (some ⟨B0.sb, 0, none⟩), .int .i64 a, .int .i64 b] w (RetV t B0 w0 k' s fun x => φ x || ψ x) := by
  obtain ⟨B, hR, hS⟩ := h.held
  obtain ⟨g1, g2, g3⟩ := root_cost h.chk h.few
  have hd := L.or_spec (L.not_spec h.chk h.few _ g1 14 (by have := h.few; omega)) (L.and_spec h.chk h.few _ g1 14 (by have := h.few; omega)) s a b h.tree (h.room.less (by omega)) ha.lt hb.lt (by rw [← h.tree]; exact dep_root h.inv ha.lt) (by rw [← h.tree]; exact dep_root h.inv hb.lt)
  obtain ⟨r, s', e, hr⟩ := ret_did h hR hS (k' := k') (c := 3 * d + c) hk (hd.mono (by omega)) (fun _ _ _ _ _ h => h)
  rw [← hS.sb]
  refine (or_top (orF_law (notF_law 14) (andF_law 14)) hR h.ne ha.lt hb.lt e).mono fun e w' hh => ?_
  obtain ⟨r, s', h1, h2, h3, h4⟩ := hr e w' hh
  exact ⟨r, s', h1, h2, h3, h4.congr fun x => by rw [ha.sem, hb.sem]⟩
theorem free_cost {t : List VN} (hc : checkF t = 0) (h7 : t.length ≤ 7) : L.ca (L.nv t (t.length - 1)) ≤ 0 ∧ L.cn (L.nv t (t.length - 1)) ≤ 0 := by
  have h0 := (check_ok hc).1
  have h1 := L.nv_le hc (v := t.length - 1) (by omega)
  constructor
  · unfold L.ca; rw [if_pos (by omega)]; exact Nat.le_refl _
  · unfold L.cn; rw [if_pos (by omega)]; exact Nat.le_refl _
end Go.Proofs.YteikmmfjhabijaaGreatDoor
