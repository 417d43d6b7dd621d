import Derived.Test.YtgphkbnoflfneaaGreatDoorLaw3
set_option linter.unusedSimpArgs false
set_option linter.unusedVariables false
namespace Go.Proofs.YtgphkbnoflfneaaGreatDoor.L

/-! The sets of some variables, one after the other. -/
/-- x is subset number i of the sorted list l -/
def SubNo (l : List Int) (i : Nat) (x : VSet) : Prop := ∀ u, hasS x u = true ↔ ∃ k, ∃ hk : k < l.length, l[k] = u ∧ i.testBit (l.length - 1 - k) = true
theorem sorted_lt {l : List Int} (h : l.Pairwise (· < ·)) {i j : Nat} (hi : i < l.length) (hj : j < l.length) (hij : i < j) : l[i] < l[j] :=
  (List.pairwise_iff_getElem.1 h) i j hi hj hij
theorem sorted_inj {l : List Int} (h : l.Pairwise (· < ·)) {i j : Nat} (hi : i < l.length) (hj : j < l.length) (e : l[i] = l[j]) : i = j := by
  rcases Nat.lt_trichotomy i j with h1 | h1 | h1
  · have := sorted_lt h hi hj h1; omega
  · exact h1
  · have := sorted_lt h hj hi h1; omega
theorem SubNo.bit {l : List Int} (hs : l.Pairwise (· < ·)) {i : Nat} {x : VSet} (h : SubNo l i x) {k : Nat} (hk : k < l.length) : hasS x l[k] = i.testBit (l.length - 1 - k) := by
  rw [Bool.eq_iff_iff, h]
  constructor
  · rintro ⟨k', hk', e, hb⟩
    rw [sorted_inj hs hk' hk e] at hb; exact hb
  · intro hb; exact ⟨k, hk, rfl, hb⟩
theorem hasS_ext {a b : VSet} (h : ∀ u, hasS a u = hasS b u) : a = b := set_ext fun i hi => by
  have := h ((i : Int) + 1)
  rwa [hasS_bit _ _ hi, hasS_bit _ _ hi] at this
theorem SubNo.uniq {l : List Int} {i : Nat} {x y : VSet} (hx : SubNo l i x) (hy : SubNo l i y) : x = y := hasS_ext fun u => by
  rw [Bool.eq_iff_iff, hx, hy]
theorem lt_bits {x y b : Nat} (hx : x.testBit b = false) (hy : y.testBit b = true) (h : ∀ j, b < j → x.testBit j = y.testBit j) : x < y := by
  have e : x / 2 ^ b / 2 = y / 2 ^ b / 2 := by
    apply Nat.eq_of_testBit_eq
    intro i
    rw [Nat.div_div_eq_div_mul, Nat.div_div_eq_div_mul, ← Nat.pow_succ, Nat.testBit_div_two_pow, Nat.testBit_div_two_pow]
    exact h _ (by omega)
  rw [Nat.testBit_eq_decide_div_mod_eq] at hx hy
  have h1 := of_decide_eq_false hx
  have h2 := of_decide_eq_true hy
  apply Classical.byContradiction
  intro hn
  have := Nat.div_le_div_right (c := 2 ^ b) (Nat.le_of_not_lt hn)
  omega
theorem SubNo.less {l : List Int} (hs : l.Pairwise (· < ·)) {i j : Nat} {x y : VSet} (hx : SubNo l i x) (hy : SubNo l j y) (hij : i < j) (hj : j < 2 ^ l.length) : lessS x y = true := by
  have hdiff : ∃ k, k < l.length ∧ (i.testBit (l.length - 1 - k) != j.testBit (l.length - 1 - k)) = true := by
    apply Classical.byContradiction
    intro hno
    have : i = j := by
      apply Nat.eq_of_testBit_eq
      intro b
      by_cases hb : b < l.length
      · apply Classical.byContradiction
        intro hne
        refine hno ⟨l.length - 1 - b, by omega, ?_⟩
        rw [show l.length - 1 - (l.length - 1 - b) = b by omega]
        simpa using hne
      · rw [Nat.testBit_lt_two_pow (Nat.lt_of_lt_of_le (by omega : i < 2 ^ l.length) (Nat.pow_le_pow_right (by omega) (by omega))), Nat.testBit_lt_two_pow (Nat.lt_of_lt_of_le hj (Nat.pow_le_pow_right (by omega) (by omega)))]
    omega
  obtain ⟨k, hk, hb, hmin⟩ := first_diff (fun k => i.testBit (l.length - 1 - k) != j.testBit (l.length - 1 - k)) l.length hdiff
  have hsame : ∀ b, l.length - 1 - k < b → i.testBit b = j.testBit b := fun b hb' => by
    by_cases hbl : b < l.length
    · have := hmin (l.length - 1 - b) (by omega)
      rw [show l.length - 1 - (l.length - 1 - b) = b by omega] at this
      simpa using this
    · rw [Nat.testBit_lt_two_pow (Nat.lt_of_lt_of_le (by omega : i < 2 ^ l.length) (Nat.pow_le_pow_right (by omega) (by omega))), Nat.testBit_lt_two_pow (Nat.lt_of_lt_of_le hj (Nat.pow_le_pow_right (by omega) (by omega)))]
  have hbits : i.testBit (l.length - 1 - k) = false ∧ j.testBit (l.length - 1 - k) = true := by
    cases h1 : i.testBit (l.length - 1 - k)
    · rw [h1] at hb; exact ⟨rfl, by simpa using hb⟩
    · have h2 : j.testBit (l.length - 1 - k) = false := by rw [h1] at hb; simpa using hb
      have := lt_bits h2 h1 (fun b hb' => (hsame b hb').symm)
      omega
  have e1 := hx.bit hs hk
  have e2 := hy.bit hs hk
  rw [hbits.1] at e1
  rw [hbits.2] at e2
  obtain ⟨v1, v2⟩ := hasS_range e2
  obtain ⟨n, hn, e⟩ : ∃ n : Nat, n < 128 ∧ l[k] = (n : Int) + 1 := ⟨(l[k] - 1).toNat, by omega, by omega⟩
  rw [e, hasS_bit _ _ hn] at e1 e2
  refine (lessS_iff _ _).2 ⟨n, hn, e1, e2, fun m hm => ?_⟩
  rw [← hasS_bit _ _ (by omega), ← hasS_bit _ _ (by omega), Bool.eq_iff_iff, hx, hy]
  have hlt : ∀ k' (hk' : k' < l.length), l[k'] = (m : Int) + 1 → i.testBit (l.length - 1 - k') = j.testBit (l.length - 1 - k') := fun k' hk' e' => by
    apply hsame
    have : k' < k := by
      rcases Nat.lt_trichotomy k' k with h | h | h
      · exact h
      · subst h; omega
      · have := sorted_lt hs hk hk' h; omega
    omega
  constructor
  · rintro ⟨k', hk', e', hb'⟩; exact ⟨k', hk', e', by rw [← hlt k' hk' e']; exact hb'⟩
  · rintro ⟨k', hk', e', hb'⟩; exact ⟨k', hk', e', by rw [hlt k' hk' e']; exact hb'⟩
theorem bits_exist (f : Nat → Bool) : ∀ n, ∃ i, i < 2 ^ n ∧ ∀ b, b < n → i.testBit b = f b
  | 0 => ⟨0, by simp, fun b hb => by omega⟩
  | n + 1 => by
    obtain ⟨i, hi, hb⟩ := bits_exist f n
    refine ⟨2 ^ n * (f n).toNat + i, ?_, fun b hbn => ?_⟩
    · rw [Nat.pow_succ]; cases f n <;> simp <;> omega
    · rw [Nat.testBit_two_pow_mul_add _ hi]
      split
      · rename_i h; exact hb b h
      · rename_i h
        have : b = n := by omega
        subst this
        rw [Nat.sub_self]; cases f b <;> rfl
theorem sub_exist {l : List Int} (m : VSet) (hm : ∀ u, hasS m u = true → u ∈ l) : ∃ i, i < 2 ^ l.length ∧ SubNo l i m := by
  obtain ⟨i, hi, hb⟩ := bits_exist (fun b => hasS m (l.getD (l.length - 1 - b) 0)) l.length
  refine ⟨i, hi, fun u => ?_⟩
  constructor
  · intro hu
    obtain ⟨k, hk, e⟩ := List.getElem_of_mem (hm u hu)
    refine ⟨k, hk, e, ?_⟩
    rw [hb _ (by omega), show l.length - 1 - (l.length - 1 - k) = k by omega, List.getD_eq_getElem?_getD, List.getElem?_eq_getElem hk, Option.getD_some, e]; exact hu
  · rintro ⟨k, hk, e, hbk⟩
    rw [hb _ (by omega), show l.length - 1 - (l.length - 1 - k) = k by omega, List.getD_eq_getElem?_getD, List.getElem?_eq_getElem hk, Option.getD_some, e] at hbk; exact hbk
/-- the first subset that satisfies φ is its least model -/
theorem least_first {l : List Int} (hs : l.Pairwise (· < ·)) {φ : Asg → Bool} {m : VSet} (h2 : ∀ m', φ (asg m') = true → leS m m') (hm : ∀ u, hasS m u = true → u ∈ l) :
    ∃ i, i < 2 ^ l.length ∧ SubNo l i m ∧ ∀ j x, j < i → SubNo l j x → φ (asg x) = false := by
  obtain ⟨i, hi, hno⟩ := sub_exist m hm
  refine ⟨i, hi, hno, fun j x hj hx => ?_⟩
  cases hh : φ (asg x)
  · rfl
  · have a1 := h2 x hh
    have a2 := hx.less hs hno hj hi
    rcases a1 with e | e
    · rw [e, lessS_irrefl] at a2; cases a2
    · rw [lessS_asymm e] at a2; cases a2
end Go.Proofs.YtgphkbnoflfneaaGreatDoor.L

namespace Go.Proofs.YtgphkbnoflfneaaGreatDoor.L

/-! Lists of nodes, each once, breadth first. -/
theorem nodup_perm {α : Type} [DecidableEq α] : ∀ (l m : List α), l.Nodup → m.Nodup → (∀ x, x ∈ l ↔ x ∈ m) → l.Perm m
  | [], m, _, _, h => by
    have : m = [] := by
      cases m with
      | nil => rfl
      | cons b k => have := (h b).2 (List.mem_cons_self ..); cases this
    rw [this]
  | a :: r, m, hl, hm, h => by
    rw [List.nodup_cons] at hl
    have ha : a ∈ m := (h a).1 (List.mem_cons_self ..)
    have hp := List.perm_cons_erase ha
    refine (List.Perm.cons a (nodup_perm r (m.erase a) hl.2 (hm.erase a) fun x => ?_)).trans hp.symm
    rw [hm.mem_erase_iff]
    constructor
    · intro hx
      exact ⟨fun e => hl.1 (e ▸ hx), (h x).1 (List.mem_cons_of_mem _ hx)⟩
    · rintro ⟨hne, hx⟩
      rcases List.mem_cons.1 ((h x).2 hx) with e | e
      · exact absurd e hne
      · exact e
/-- a list with a number, if it is not there -/
def withL (l : List Nat) (n : Nat) : List Nat := if n ∈ l then l else l ++ [n]
theorem withL_mem (l : List Nat) (n x : Nat) : x ∈ withL l n ↔ x ∈ l ∨ x = n := by
  unfold withL
  split
  · rename_i h
    exact ⟨.inl, fun hx => hx.elim id fun e => e ▸ h⟩
  · rw [List.mem_append, List.mem_singleton]
theorem withL_nodup {l : List Nat} (n : Nat) (h : l.Nodup) : (withL l n).Nodup := by
  unfold withL
  split
  · exact h
  · rename_i hn
    rw [List.nodup_append]
    refine ⟨h, by simp, fun a ha b hb e => ?_⟩
    rw [List.mem_singleton] at hb
    exact hn (by rw [← hb, ← e]; exact ha)
theorem withL_pre (l : List Nat) (n : Nat) : ∃ r, withL l n = l ++ r := by
  unfold withL
  split
  · exact ⟨[], by simp⟩
  · exact ⟨[n], rfl⟩
/-- a list with all parts of some elements -/
def addP (l : List Nat) : List (Nat × Nat) → List Nat
  | [] => l
  | p :: r => addP (withL (withL l p.1) p.2) r
theorem addP_snoc (l : List Nat) : ∀ (k : List (Nat × Nat)) (p : Nat × Nat), addP l (k ++ [p]) = withL (withL (addP l k) p.1) p.2 := by
  intro k
  induction k generalizing l with
  | nil => intro p; rfl
  | cons q r ih => intro p; exact ih _ p
theorem addP_mem (l : List Nat) : ∀ (k : List (Nat × Nat)) (x : Nat), x ∈ addP l k ↔ x ∈ l ∨ ∃ p ∈ k, x = p.1 ∨ x = p.2 := by
  intro k
  induction k generalizing l with
  | nil => intro x; simp [addP]
  | cons q r ih =>
    intro x
    rw [addP, ih, withL_mem, withL_mem]
    constructor
    · rintro (((h | h) | h) | ⟨p, hp, h⟩)
      · exact .inl h
      · exact .inr ⟨q, List.mem_cons_self .., .inl h⟩
      · exact .inr ⟨q, List.mem_cons_self .., .inr h⟩
      · exact .inr ⟨p, List.mem_cons_of_mem _ hp, h⟩
    · rintro (h | ⟨p, hp, h⟩)
      · exact .inl (.inl (.inl h))
      · rcases List.mem_cons.1 hp with rfl | hp
        · rcases h with h | h
          · exact .inl (.inl (.inr h))
          · exact .inl (.inr h)
        · exact .inr ⟨p, hp, h⟩
theorem addP_nodup {l : List Nat} (h : l.Nodup) : ∀ (k : List (Nat × Nat)), (addP l k).Nodup := by
  intro k
  induction k generalizing l with
  | nil => exact h
  | cons q r ih => exact ih (withL_nodup _ (withL_nodup _ h))
theorem addP_pre (l : List Nat) : ∀ (k : List (Nat × Nat)), ∃ r, addP l k = l ++ r := by
  intro k
  induction k generalizing l with
  | nil => exact ⟨[], by simp [addP]⟩
  | cons q r ih =>
    obtain ⟨r1, e1⟩ := withL_pre l q.1
    obtain ⟨r2, e2⟩ := withL_pre (withL l q.1) q.2
    obtain ⟨r3, e3⟩ := ih (withL (withL l q.1) q.2)
    exact ⟨r1 ++ (r2 ++ r3), by rw [addP, e3, e2, e1]; simp⟩
theorem Reach.le {ns : List SNode} (hk : Kids ns) {a b : Nat} (h : Reach ns a b) : b ≤ a := by
  induction h with
  | refl => exact Nat.le_refl _
  | prime _ hn hp ih => have := (hk _ _ hn _ hp).1; omega
  | sub _ hn hp ih => have := (hk _ _ hn _ hp).2; omega
/-- a walk over all that lies below root, breadth first -/
structure Bfs (ns : List SNode) (root : Nat) (all : List Nat) (i size : Nat) : Prop where
  nd : all.Nodup
  has : root ∈ all
  reach : ∀ b ∈ all, Reach ns root b
  shut : ∀ j (hj : j < all.length), j < i → Shut ns all all[j]
  size : size = sumEl ns (all.take i)
theorem Bfs.init (ns : List SNode) (root : Nat) : Bfs ns root [root] 0 0 := ⟨by simp, by simp, fun b hb => by rw [List.mem_singleton] at hb; subst hb; exact .refl, fun j _ h => by omega, rfl⟩
theorem Bfs.le {ns : List SNode} (hk : Kids ns) {root : Nat} {all : List Nat} {i size : Nat} (h : Bfs ns root all i size) : all.length ≤ root + 1 :=
  nodup_lt all (root + 1) h.nd fun b hb => by have := (h.reach b hb).le hk; omega
theorem sumEl_take {ns : List SNode} : ∀ (l : List Nat) (i : Nat) (hi : i < l.length) (n : SNode), ns[l[i]]? = some n → sumEl ns (l.take (i + 1)) = sumEl ns (l.take i) + n.el.length
  | a :: r, 0, _, n, hn => by
    simp only [List.getElem_cons_zero] at hn
    simp [sumEl, hn]
  | a :: r, i + 1, hi, n, hn => by
    have := sumEl_take r i (by simpa using hi) n (by simpa using hn)
    simp only [List.take_succ_cons, sumEl, this]
    omega
theorem Bfs.next {ns : List SNode} {root : Nat} {all : List Nat} {i size : Nat} (h : Bfs ns root all i size) (hi : i < all.length) {n : SNode} (hn : ns[all[i]]? = some n) : Bfs ns root (addP all n.el) (i + 1) (size + n.el.length) := by
  obtain ⟨r, hr⟩ := addP_pre all n.el
  have hsub : ∀ x ∈ all, x ∈ addP all n.el := fun x hx => (addP_mem all n.el x).2 (.inl hx)
  refine ⟨addP_nodup h.nd _, hsub _ h.has, fun b hb => ?_, fun j hj hji => ?_, ?_⟩
  · rcases (addP_mem all n.el b).1 hb with hb | ⟨p, hp, rfl | rfl⟩
    · exact h.reach b hb
    · exact .prime (h.reach _ (List.getElem_mem hi)) hn hp
    · exact .sub (h.reach _ (List.getElem_mem hi)) hn hp
  · have hjl : j < all.length := by omega
    have e : (addP all n.el)[j] = all[j] := by
      have : (addP all n.el)[j]? = (all ++ r)[j]? := by rw [hr]
      rw [List.getElem?_append_left hjl, List.getElem?_eq_getElem hj, List.getElem?_eq_getElem hjl] at this
      exact Option.some.inj this
    rw [e]
    by_cases hlt : j < i
    · exact (h.shut j hjl hlt).mono hsub
    · have : j = i := by omega
      subst this
      intro n' hn' p hp
      rw [hn] at hn'; cases hn'
      exact ⟨(addP_mem all n.el _).2 (.inr ⟨p, hp, .inl rfl⟩), (addP_mem all n.el _).2 (.inr ⟨p, hp, .inr rfl⟩)⟩
  · rw [hr, List.take_append_of_le_length (by omega), sumEl_take all i hi n hn, ← h.size]
theorem Bfs.skip {ns : List SNode} {root : Nat} {all : List Nat} {i size : Nat} (h : Bfs ns root all i size) (hi : i < all.length) {n : SNode} (hn : ns[all[i]]? = some n) (he : n.el = []) : Bfs ns root all (i + 1) size := by
  have := h.next hi hn
  rw [he] at this
  exact this
theorem Bfs.end {ns : List SNode} {root : Nat} {all : List Nat} {size : Nat} (h : Bfs ns root all all.length size) {o : List Nat} (ho : o.Nodup) (hr : ∀ b, b ∈ o ↔ Reach ns root b) : sumEl ns o = size := by
  rw [h.size, List.take_length]
  refine sumEl_perm (nodup_perm _ _ ho h.nd fun b => ?_)
  rw [hr]
  constructor
  · intro hb
    have hall : ∀ b ∈ all, Shut ns all b := fun b hb => by
      obtain ⟨j, hj, rfl⟩ := List.getElem_of_mem hb
      exact h.shut j hj hj
    induction hb with
    | refl => exact h.has
    | prime _ hn hp ih => exact (hall _ ih _ hn _ hp).1
    | sub _ hn hp ih => exact (hall _ ih _ hn _ hp).2
  · exact h.reach b
theorem Reach.app {ns m : List SNode} {a b : Nat} (h : Reach ns a b) : Reach (ns ++ m) a b := by
  have up : ∀ {b : Nat} {n : SNode}, ns[b]? = some n → (ns ++ m)[b]? = some n := fun hn => by
    rw [List.getElem?_append_left (List.getElem?_eq_some_iff.1 hn).1]; exact hn
  induction h with
  | refl => exact .refl
  | prime _ hn hp ih => exact .prime ih (up hn) hp
  | sub _ hn hp ih => exact .sub ih (up hn) hp
theorem sumEl_app {ns m : List SNode} : ∀ (l : List Nat), (∀ b ∈ l, b < ns.length) → sumEl (ns ++ m) l = sumEl ns l
  | [], _ => rfl
  | a :: r, h => by rw [sumEl, sumEl, sumEl_app r fun b hb => h b (List.mem_cons_of_mem _ hb), List.getElem?_append_left (h a (List.mem_cons_self ..))]
theorem Bfs.step {s s' : St} (hi : Inv s) (hS : Step s s') {root : Nat} (hroot : root < s.nodes.length) {all : List Nat} {i size : Nat} (h : Bfs s.nodes root all i size) : Bfs s'.nodes root all i size := by
  obtain ⟨m, hm⟩ := hS.ext
  have hlt : ∀ b ∈ all, b < s.nodes.length := fun b hb => by have := (h.reach b hb).le hi.kids; omega
  rw [hm]
  refine ⟨h.nd, h.has, fun b hb => (h.reach b hb).app, fun j hj hji => ?_, by rw [sumEl_app _ fun b hb => hlt b (List.mem_of_mem_take hb)]; exact h.size⟩
  intro n hn p hp
  rw [List.getElem?_append_left (hlt _ (List.getElem_mem hj))] at hn
  exact h.shut j hj hji n hn p hp
end Go.Proofs.YtgphkbnoflfneaaGreatDoor.L

