import Derived.Test.YtgphkbnoflfneaaGreatDoorParts2
set_option linter.unusedSimpArgs false
set_option linter.unusedVariables false
namespace Go.Proofs.YtgphkbnoflfneaaGreatDoor
open Go Go.RowKit Go.Shelf

theorem and_c {t : List VN} {B0 : Blks} {w0 w : World} {k k' c a b : Nat} {s : St} {φ ψ : L.Asg → Bool} (h : SS t B0 w0 k s w) (hc : L.ca (L.nv t (t.length - 1)) ≤ c) (hk : k' + c ≤ k) (ha : Val s a φ) (hb : Val s b ψ) :
    Calls Tryz.prog 17 #[.pointer (some ⟨B0.sb, 0, none⟩), .int .i64 a, .int .i64 b] w (RetV t B0 w0 k' s fun x => φ x && ψ x) := by
  obtain ⟨B, hR, hS⟩ := h.held
  obtain ⟨g1, g2, g3⟩ := root_cost h.chk h.few
  have hd := L.and_spec h.chk h.few _ g1 14 (by have := h.few; omega) s a b h.tree (h.room.less (by omega)) ha.lt hb.lt (by rw [← h.tree]; exact dep_root h.inv ha.lt) (by rw [← h.tree]; exact dep_root h.inv hb.lt)
  obtain ⟨r, s', e, hr⟩ := ret_did h hR hS (k' := k') (c := c) hk (hd.mono hc) (fun _ _ _ _ _ h => h)
  rw [← hS.sb]
  refine (and_top (andF_law 14) hR h.ne ha.lt hb.lt e).mono fun e w' hh => ?_
  obtain ⟨r, s', h1, h2, h3, h4⟩ := hr e w' hh
  exact ⟨r, s', h1, h2, h3, h4.congr fun x => by rw [ha.sem, hb.sem]⟩
theorem or_c {t : List VN} {B0 : Blks} {w0 w : World} {k k' c d a b : Nat} {s : St} {φ ψ : L.Asg → Bool} (h : SS t B0 w0 k s w) (hc : L.ca (L.nv t (t.length - 1)) ≤ c) (hd' : L.cn (L.nv t (t.length - 1)) ≤ d) (hk : k' + (3 * d + c) ≤ k) (ha : Val s a φ) (hb : Val s b ψ) :
    Calls Tryz.prog 23 #[.pointer (some ⟨B0.sb, 0, none⟩), .int .i64 a, .int .i64 b] w (RetV t B0 w0 k' s fun x => φ x || ψ x) := by
  obtain ⟨B, hR, hS⟩ := h.held
  obtain ⟨g1, g2, g3⟩ := root_cost h.chk h.few
  have hd := L.or_spec (L.not_spec h.chk h.few _ g1 14 (by have := h.few; omega)) (L.and_spec h.chk h.few _ g1 14 (by have := h.few; omega)) s a b h.tree (h.room.less (by omega)) ha.lt hb.lt (by rw [← h.tree]; exact dep_root h.inv ha.lt) (by rw [← h.tree]; exact dep_root h.inv hb.lt)
  obtain ⟨r, s', e, hr⟩ := ret_did h hR hS (k' := k') (c := 3 * d + c) hk (hd.mono (by omega)) (fun _ _ _ _ _ h => h)
  rw [← hS.sb]
  refine (or_top (orF_law (notF_law 14) (andF_law 14)) hR h.ne ha.lt hb.lt e).mono fun e w' hh => ?_
  obtain ⟨r, s', h1, h2, h3, h4⟩ := hr e w' hh
  exact ⟨r, s', h1, h2, h3, h4.congr fun x => by rw [ha.sem, hb.sem]⟩
theorem free_cost {t : List VN} (hc : checkF t = 0) (h7 : t.length ≤ 7) : L.ca (L.nv t (t.length - 1)) ≤ 0 ∧ L.cn (L.nv t (t.length - 1)) ≤ 0 := by
  have h0 := (check_ok hc).1
  have h1 := L.nv_le hc (v := t.length - 1) (by omega)
  constructor
  · unfold L.ca; rw [if_pos (by omega)]; exact Nat.le_refl _
  · unfold L.cn; rw [if_pos (by omega)]; exact Nat.le_refl _
/-- the set of the variables below a place, as the reference makes it -/
theorem below_set {t : List VN} (hc : checkF t = 0) {v : Nat} (hv : v < t.length) : ∃ l, belowR t (t.length + 1) v = some l ∧ L.SortedBel t v l ∧ ∀ u, hasS (ofS l) u = true ↔ L.Bel t v u := by
  obtain ⟨l, h1, h2⟩ := L.belowR_spec hc v hv (t.length + 1) (by omega)
  refine ⟨l, h1, h2, fun u => ?_⟩
  rw [L.hasS_ofS, h2.mem]
  exact ⟨fun h => h.2, fun h => ⟨h.range, h⟩⟩
/-- a call that makes the set of the variables below a place -/
theorem flat_at (l : List (Nat × Nat)) (i : Nat) (hi : i < l.length) : (flatP l).length = l.length * 2 ∧ (flatP l)[i * 2]? = some (.int .i64 (l[i].1 : Nat)) ∧ (flatP l)[i * 2 + 1]? = some (.int .i64 (l[i].2 : Nat)) := by
  obtain ⟨h1, h2⟩ := flatP_get l i hi
  exact ⟨by rw [flatP_len]; omega, h1, h2⟩
theorem KeepR.get {t : List VN} {B0 : Blks} {w0 w : World} {k : Nat} {s : St} {b o : Nat} {vs : List Value} (h : KeepR B0 w0 (some ⟨b, o, none⟩) vs) (hS : SS t B0 w0 k s w) {j : Nat} {v : Value} (hj : vs[j]? = some v) : w.cell? ⟨b, o + j, none⟩ = some v := by
  obtain ⟨hjl, rfl⟩ := List.getElem?_eq_some_iff.1 hj
  obtain ⟨b', o', e, hc⟩ := h.at hS hjl
  cases e; exact hc
theorem KeepR.some {B0 : Blks} {w0 : World} {ba : Option Addr} {vs : List Value} (h : KeepR B0 w0 ba vs) (hne : vs ≠ []) : ∃ b o, ba = some ⟨b, o, none⟩ := by
  rcases h with e | ⟨b, o, e, _⟩
  · exact absurd e hne
  · exact ⟨b, o, e⟩
theorem Step.node {s s' : St} (h : L.Step s s') {b : Nat} {n : SNode} (hn : s.nodes[b]? = some n) : s'.nodes[b]? = some n := by
  obtain ⟨m, hm⟩ := h.ext
  rw [hm, List.getElem?_append_left (List.getElem?_eq_some_iff.1 hn).1]; exact hn
/-- primes and subs of a decision node: where they lie -/
theorem el_facts {s : St} (hi : L.Inv s) {a : Nat} {n : SNode} (hn : s.nodes[a]? = some n) (hd : L.DecOK s.tree s.nodes a n) {P : Nat} {y : VN} {l r : Nat} (hP : n.pl = P) (hy : s.tree[P]? = some y) (hl : y.left = l) (hr : y.right = r) :
    ∀ p ∈ n.el, (∃ (Q : Nat) (m : SNode), s.nodes[p.1]? = some m ∧ m.pl = Q ∧ Q < s.tree.length ∧ L.Und s.tree l Q) ∧ ((∃ m : SNode, s.nodes[p.2]? = some m ∧ m.pl = -1) ∨ ∃ (Q : Nat) (m : SNode), s.nodes[p.2]? = some m ∧ m.pl = Q ∧ Q < s.tree.length ∧ L.Und s.tree r Q) := by
  obtain ⟨P', y', l', r', e1, e2, e3, e4, e5, e6, _⟩ := hi.facts hn hd
  obtain rfl : P' = P := by omega
  rw [hy] at e2; cases e2
  obtain rfl : l' = l := by omega
  obtain rfl : r' = r := by omega
  intro p hp
  have hk := hd.kids p hp
  have ha : a < s.nodes.length := (List.getElem?_eq_some_iff.1 hn).1
  constructor
  · have h0 : p.1 ≠ 0 := by have := hi.ne0 (e6.pne p hp); omega
    have h1 : p.1 ≠ 1 := fun e => by
      obtain ⟨q, hq, hne⟩ : ∃ q ∈ n.el, p ≠ q := by
        have h2 := e6.two
        have hnd := e6.nd
        match hel : n.el, h2, hnd with
        | u :: v :: k, _, hnd =>
          rw [List.pairwise_cons] at hnd
          by_cases e : p = u
          · exact ⟨v, by simp, fun e' => hnd.1 v (List.mem_cons_self ..) (by rw [← e, ← e'])⟩
          · exact ⟨u, by simp, e⟩
      obtain ⟨x, hx⟩ := e6.pne q hq
      exact L.pairwise_mem (R := L.DisjS s.nodes) (fun a b hab x hx => hab x ⟨hx.2, hx.1⟩) e6.disj p hp q hq hne x ⟨by rw [e]; exact hi.sem1 x, hx⟩
    have hm : s.nodes[p.1]? = some s.nodes[p.1] := List.getElem?_eq_getElem (by omega)
    obtain ⟨Q, q1, q2, q3⟩ := hi.at_und (by omega) hm (e6.pdep p hp)
    exact ⟨Q, _, hm, q1, q2, q3⟩
  · by_cases h2 : p.2 < 2
    · refine .inl ⟨L.constN, ?_, rfl⟩
      have : p.2 = 0 ∨ p.2 = 1 := by omega
      rcases this with e | e <;> rw [e]
      · exact hi.zero
      · exact hi.one
    · have hm : s.nodes[p.2]? = some s.nodes[p.2] := List.getElem?_eq_getElem (by omega)
      obtain ⟨Q, q1, q2, q3⟩ := hi.at_und (by omega) hm (e6.sdep p hp)
      exact .inr ⟨Q, _, hm, q1, q2, q3⟩
def anyφ (s : St) (el : List (Nat × Nat)) (i : Nat) : L.Asg → Bool := fun x => (el.take i).any fun p => L.sem s.nodes p.1 x
/-- the set of a place lies in that of a place above it -/
theorem sub_sets {t : List VN} {v u : Nat} {lv lu : List Int} (hv : ∀ x, hasS (ofS lv) x = true ↔ L.Bel t v x) (hu : ∀ x, hasS (ofS lu) x = true ↔ L.Bel t u x) (h : L.Und t v u) : subS (ofS lu) (ofS lv) = true :=
  (subS_iff _ _).2 fun x hx => (hv x).2 (((hu x).1 hx).up h)
end Go.Proofs.YtgphkbnoflfneaaGreatDoor
