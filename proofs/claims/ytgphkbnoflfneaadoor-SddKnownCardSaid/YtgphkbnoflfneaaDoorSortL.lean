import Derived.Test.YtgphkbnoflfneaaDoorSddF
namespace Go.Proofs.YtgphkbnoflfneaaDoor
open Go Go.RowKit

theorem insF_perm {α : Type} (lt : α → α → Bool) (p : α) : ∀ l, (insF lt p l).Perm (p :: l)
  | [] => by simp [insF]
  | q :: r => by
    unfold insF
    split
    · exact .refl _
    · exact ((insF_perm lt p r).cons q).trans (.swap p q r)
theorem sortF_perm {α : Type} (lt : α → α → Bool) : ∀ l, (sortF lt l).Perm l
  | [] => .refl _
  | p :: r => (insF_perm lt p _).trans ((sortF_perm lt r).cons p)

/-- a sorted list of parts apart is the only one -/
theorem sorted_unique {α : Type} (lt : α → α → Bool) (irr : ∀ x, lt x x = false) (tr : ∀ x y z, lt x y = true → lt y z = true → lt x z = true) :
    ∀ l l' : List α, l.Perm l' → l.Pairwise (fun a b => lt a b = true) → l'.Pairwise (fun a b => lt a b = true) → l = l'
  | [], l', h, _, _ => (List.nil_perm.1 h).symm ▸ rfl
  | a :: l, [], h, _, _ => by simpa using h.length_eq
  | a :: l, b :: l', h, h1, h2 => by
    have asym : ∀ x y, lt x y = true → lt y x = true → False := fun x y e1 e2 => by have := tr x y x e1 e2; rw [irr] at this; cases this
    have hab : a = b := by
      rw [List.pairwise_cons] at h1 h2
      have ha : a ∈ b :: l' := h.mem_iff.1 (List.mem_cons_self ..)
      have hb : b ∈ a :: l := h.mem_iff.2 (List.mem_cons_self ..)
      rcases List.mem_cons.1 ha with e | e
      · exact e
      · rcases List.mem_cons.1 hb with e' | e'
        · exact e'.symm
        · exact (asym _ _ (h2.1 a e) (h1.1 b e')).elim
    subst hab
    rw [List.pairwise_cons] at h1 h2
    rw [sorted_unique lt irr tr l l' (List.Perm.cons_inv h) h1.2 h2.2]

theorem insF_sorted {α : Type} (lt : α → α → Bool) (tr : ∀ x y z, lt x y = true → lt y z = true → lt x z = true) (p : α) : ∀ l : List α, l.Pairwise (fun a b => lt a b = true) → (∀ q ∈ l, lt p q = true ∨ lt q p = true) → (insF lt p l).Pairwise (fun a b => lt a b = true)
  | [], _, _ => by simp [insF]
  | q :: r, h, ha => by
    unfold insF
    rw [List.pairwise_cons] at h
    split
    · rename_i hpq
      rw [List.pairwise_cons]
      refine ⟨fun x hx => ?_, by rw [List.pairwise_cons]; exact h⟩
      rcases List.mem_cons.1 hx with rfl | hx
      · exact hpq
      · exact tr _ _ _ hpq (h.1 x hx)
    · rename_i hpq
      rw [List.pairwise_cons]
      refine ⟨fun x hx => ?_, insF_sorted lt tr p r h.2 (fun x hx => ha x (List.mem_cons_of_mem _ hx))⟩
      rcases List.mem_cons.1 ((insF_perm lt p r).mem_iff.1 hx) with rfl | hx
      · exact (ha q (List.mem_cons_self ..)).resolve_left hpq
      · exact h.1 x hx
theorem aparts_mem {α : Type} (lt : α → α → Bool) (p : α) (r : List α) (h : aparts lt (p :: r) = true) : (∀ q ∈ r, lt p q = true ∨ lt q p = true) ∧ aparts lt r = true := by
  unfold aparts at h
  simp only [Bool.and_eq_true, List.all_eq_true, Bool.or_eq_true] at h
  exact h
theorem sortF_sorted {α : Type} (lt : α → α → Bool) (tr : ∀ x y z, lt x y = true → lt y z = true → lt x z = true) : ∀ l : List α, aparts lt l = true → (sortF lt l).Pairwise (fun a b => lt a b = true)
  | [], _ => by simp [sortF]
  | p :: r, h => by
    obtain ⟨h1, h2⟩ := aparts_mem lt p r h
    exact insF_sorted lt tr p _ (sortF_sorted lt tr r h2) (fun q hq => h1 q ((sortF_perm lt r).mem_iff.1 hq))

theorem aparts_iff {α : Type} (lt : α → α → Bool) : ∀ l : List α, aparts lt l = true ↔ l.Pairwise (fun a b => lt a b = true ∨ lt b a = true)
  | [] => by simp [aparts]
  | p :: r => by
    rw [List.pairwise_cons, ← aparts_iff lt r]
    simp [aparts]
theorem aparts_perm {α : Type} (lt : α → α → Bool) {l l' : List α} (h : l.Perm l') (ha : aparts lt l = true) : aparts lt l' = true := by
  rw [aparts_iff] at *
  exact (h.pairwise_iff (fun h => h.symm)).1 ha
theorem sorted_of {α : Type} (lt : α → α → Bool) (l : List α) (ha : aparts lt l = true) (h : l.Pairwise (fun a b => lt b a = false)) : l.Pairwise (fun a b => lt a b = true) := by
  rw [aparts_iff] at ha
  refine List.Pairwise.imp (fun {a b} h => ?_) (ha.and h)
  rcases h with ⟨h1 | h1, h2⟩
  · exact h1
  · rw [h1] at h2; cases h2
/-- the order of models is a strict total order -/
theorem firstS_spec (s : VSet) : (firstS s = 0 ∧ s = 0) ∨ (∃ i, firstS s = i + 1 ∧ i < 128 ∧ s.getLsbD i = true ∧ ∀ j, j < i → s.getLsbD j = false) := by
  unfold firstS
  split
  · rename_i i h
    rw [List.find?_eq_some_iff_append] at h
    obtain ⟨hi, pr, bs, hr, hall⟩ := h
    have hlen : pr.length = i := by
      have h1 : (List.range 128)[pr.length]? = some i := by rw [hr]; simp
      rw [List.getElem?_range] at h1
      · simpa using h1
      · rw [List.getElem?_eq_some_iff] at h1
        obtain ⟨h, _⟩ := h1
        simpa using h
    have hi128 : i < 128 := by
      have : pr.length < (List.range 128).length := by rw [hr]; simp
      simp at this; omega
    refine .inr ⟨i, rfl, hi128, hi, fun j hj => ?_⟩
    have hj2 : pr[j]? = some j := by
      have h1 : (List.range 128)[j]? = some j := List.getElem?_range (by omega)
      rw [hr, List.getElem?_append_left (by omega)] at h1
      exact h1
    have := hall j (List.mem_of_getElem? hj2)
    simpa using this
  · rename_i h
    left
    refine ⟨rfl, ?_⟩
    rw [List.find?_eq_none] at h
    apply BitVec.eq_of_getLsbD_eq
    intro i hi
    have := h i (by simpa using hi)
    simpa using this

theorem lessS_iff (a b : VSet) : lessS a b = true ↔ ∃ i, i < 128 ∧ a.getLsbD i = false ∧ b.getLsbD i = true ∧ ∀ j, j < i → a.getLsbD j = b.getLsbD j := by
  unfold lessS
  rcases firstS_spec ((a &&& ~~~b) ||| (b &&& ~~~a)) with ⟨h1, h2⟩ | ⟨i, h1, h2, h3, h4⟩
  · simp only [h1]
    constructor
    · intro h; simp at h
    · rintro ⟨i, hi, ha, hb, _⟩
      have := congrArg (fun s => s.getLsbD i) h2
      simp only [BitVec.getLsbD_or, BitVec.getLsbD_and, BitVec.getLsbD_not, hi, ha, hb] at this
      simp at this
  · simp only [h1, hasS]
    have e : ((i + 1 : Nat) : Int) - 1 = i := by omega
    have d : ∀ j, j < 128 → ((a &&& ~~~b) ||| (b &&& ~~~a)).getLsbD j = (a.getLsbD j != b.getLsbD j) := fun j hj => by
      simp only [BitVec.getLsbD_or, BitVec.getLsbD_and, BitVec.getLsbD_not, hj, decide_true, Bool.true_and]
      cases a.getLsbD j <;> cases b.getLsbD j <;> rfl
    rw [e]
    simp only [Int.toNat_natCast]
    constructor
    · intro h
      simp at h
      have ha : a.getLsbD i = false := by
        rcases h with h | h
        · omega
        · exact h
      refine ⟨i, h2, ha, ?_, fun j hj => ?_⟩
      · rw [d i h2, ha] at h3; simpa using h3
      · have := h4 j hj
        rw [d j (by omega)] at this
        simpa using this
    · rintro ⟨k, hk, ka, kb, kj⟩
      have hik : i = k := by
        rcases Nat.lt_trichotomy i k with h | h | h
        · rw [d i h2, kj i h] at h3; simp at h3
        · exact h
        · have := h4 k h; rw [d k hk, ka, kb] at this; simp at this
      subst hik
      simp [ka]
theorem lessS_irr (x : VSet) : lessS x x = false := by
  rw [Bool.eq_false_iff]
  intro h
  obtain ⟨i, _, h1, h2, _⟩ := (lessS_iff x x).1 h
  rw [h1] at h2; cases h2
theorem lessS_tr (x y z : VSet) (h1 : lessS x y = true) (h2 : lessS y z = true) : lessS x z = true := by
  obtain ⟨i, hi, a1, a2, a3⟩ := (lessS_iff x y).1 h1
  obtain ⟨j, hj, b1, b2, b3⟩ := (lessS_iff y z).1 h2
  rw [lessS_iff]
  rcases Nat.lt_trichotomy i j with h | h | h
  · exact ⟨i, hi, a1, by rw [← b3 i h]; exact a2, fun k hk => (a3 k hk).trans (b3 k (by omega))⟩
  · subst h; rw [a2] at b1; cases b1
  · exact ⟨j, hj, by rw [a3 j h]; exact b1, b2, fun k hk => (a3 k (by omega)).trans (b3 k hk)⟩
theorem lessS_tot (x y : VSet) (h1 : lessS x y = false) (h2 : lessS y x = false) : x = y := by
  rcases firstS_spec ((x &&& ~~~y) ||| (y &&& ~~~x)) with ⟨_, h⟩ | ⟨i, _, hi, h3, h4⟩
  · apply BitVec.eq_of_getLsbD_eq
    intro i hi
    have := congrArg (fun s => s.getLsbD i) h
    simp [hi] at this
    cases hx : x.getLsbD i <;> cases hy : y.getLsbD i <;> simp_all
  · exfalso
    have d : ∀ j, j < 128 → ((x &&& ~~~y) ||| (y &&& ~~~x)).getLsbD j = (x.getLsbD j != y.getLsbD j) := fun j hj => by
      simp only [BitVec.getLsbD_or, BitVec.getLsbD_and, BitVec.getLsbD_not, hj, decide_true, Bool.true_and]
      cases x.getLsbD j <;> cases y.getLsbD j <;> rfl
    have heq : ∀ j, j < i → x.getLsbD j = y.getLsbD j := fun j hj => by
      have := h4 j hj; rw [d j (by omega)] at this; simpa using this
    rw [d i hi] at h3
    cases hx : x.getLsbD i <;> cases hy : y.getLsbD i
    · rw [hx, hy] at h3; cases h3
    · rw [(lessS_iff x y).2 ⟨i, hi, hx, hy, heq⟩] at h1; cases h1
    · rw [(lessS_iff y x).2 ⟨i, hi, hy, hx, fun j hj => (heq j hj).symm⟩] at h2; cases h2
    · rw [hx, hy] at h3; cases h3
theorem lessS_ntr (x y z : VSet) (h1 : lessS x y = false) (h2 : lessS y z = false) : lessS x z = false := by
  cases h : lessS x z
  · rfl
  · exfalso
    cases h3 : lessS y x
    · rw [lessS_tot x y h1 h3, h2] at h; cases h
    · rw [lessS_tr y x z h3 h] at h2; cases h2
end Go.Proofs.YtgphkbnoflfneaaDoor
