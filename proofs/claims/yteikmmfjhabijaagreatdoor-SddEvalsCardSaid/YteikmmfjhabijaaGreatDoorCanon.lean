import Derived.Test.YteikmmfjhabijaaGreatDoorTerms
set_option linter.unusedSimpArgs false
set_option linter.unusedVariables false
namespace Go.Proofs.YteikmmfjhabijaaGreatDoor
open Go Go.RowKit Go.Shelf

/-- few, on data -/
def fewB (t : List VN) : Bool := decide (0 < t.length) && (decide (t.length ≤ 11) && decide (checkF t = 0))
set_option maxRecDepth 100000 in
set_option maxHeartbeats 1000000 in
theorem few_any {t : List VN} (w : World) (ba : Option Addr) (cap : Nat) (h : t = [] ∨ ∃ b o, ba = some ⟨b, o, none⟩ ∧ TreeAt w b o t) :
    Calls Tryz.prog 22 #[.slice ba t.length cap] w fun e w' => e = .returned (.bool (fewB t)) ∧ Ext w w' := by
  by_cases h0 : 0 < t.length
  · by_cases h1 : t.length ≤ 11
    · have hq := refchk_any w ba cap h (by omega)
      have d0 : decide (0 < t.length) = true := decide_eq_true h0
      have d1 : decide (t.length ≤ 11) = true := decide_eq_true h1
      have hb : fewB t = decide (checkF t = 0) := by unfold fewB; rw [d0, d1]; rfl
      rw [hb]
      clear hb
      generalize checkF t = z at *
      go_enter Tryz.func22, Tryz.ntmps22
      go_wp2_with fail
      refine hq.mono ?_
      rintro e w1 ⟨rfl, hx1⟩
      go_wp2_with fail
      go_ret
      exact ⟨rfl, hx1⟩
    · have hb : fewB t = false := by unfold fewB; rw [decide_eq_false h1]; simp
      rw [hb]
      have d1 : decide ((t.length : Int) ≤ 11) = false := decide_eq_false (by omega)
      go_enter Tryz.func22, Tryz.ntmps22
      go_wp2_with fail
      go_ret
      exact ⟨rfl, Ext.refl _⟩
  · have hb : fewB t = false := by unfold fewB; rw [decide_eq_false h0]; rfl
    rw [hb]
    obtain rfl : t = [] := List.length_eq_zero_iff.1 (by omega)
    go_enter Tryz.func22, Tryz.ntmps22
    go_wp2_with fail
    go_ret
    exact ⟨rfl, Ext.refl _⟩
/-- numbers that came in, in memory -/
def InU (w : World) (ba : Option Addr) (cap : Nat) (ps : List Nat) : Prop := (∀ p ∈ ps, p < 65536) ∧ (ps = [] ∨ (ps.length ≤ cap ∧ ∃ b o, ba = some ⟨b, o, none⟩ ∧ ∀ j (hj : j < ps.length), w.cell? ⟨b, o + j, none⟩ = some (encU ps[j])))
theorem InU.keep {w w0 : World} {ba : Option Addr} {cap : Nat} {ps : List Nat} {B : Blks} (h : InU w ba cap ps) (hb : Below w.heap.size w w0) (hm : ∀ k ∈ B.mut, w.heap.size ≤ k) : KeepR B w0 ba (ps.map encU) := by
  rcases h.2 with rfl | ⟨_, b, o, rfl, hc⟩
  · exact .inl rfl
  · by_cases h0 : ps = []
    · subst h0; exact .inl rfl
    · have hbl := World.block_lt_of_cell? w _ (hc 0 (List.length_pos_iff.2 h0))
      refine .inr ⟨b, o, rfl, fun hcm => ?_, fun j hj => ?_⟩
      · have := hm b hcm
        have hbl' : b < w.heap.size := hbl
        omega
      · rw [List.length_map] at hj
        rw [List.getElem_map]
        exact (hb.cell (World.block_lt_of_cell? w _ (hc j hj))).trans (hc j hj)
/-- the list of the variables, made behind the store -/
theorem own_keep {w w' : World} {v : Value} {l : List Int} {B : Blks} {s : St} (h : w'.ownsRow w.heap.size 3 1 v l.length (l.map encZ)) (hR : Rep B s w') : ∃ ba cp, v = .slice ba l.length cp ∧ KeepR B w' ba (l.map encZ) := by
  cases hl0 : l with
  | nil =>
    rw [hl0] at h
    obtain ⟨ba, cp, e, _⟩ := owns_slI h
    exact ⟨ba, cp, e, .inl rfl⟩
  | cons x0 l0 =>
    rw [← hl0]
    obtain ⟨g, cp, e, hge, hc⟩ := own_open h (by rw [hl0]; simp)
    refine ⟨_, cp, e, .inr ⟨g, 0, rfl, fun hcm => ?_, fun j hj => ?_⟩⟩
    · obtain ⟨c, hgh⟩ := (own_lt h (k := g) (by rw [e]; rfl)).2
      exact hR.not_mut hgh (by decide) (by decide) hcm
    · have h1 := hc j _ (List.getElem?_eq_getElem hj)
      have hadd : (⟨g, 0, none⟩ : Addr).add j = ⟨g, j, none⟩ := by unfold Addr.add; split <;> simp_all
      rw [hadd] at h1
      rw [Nat.zero_add]; exact h1
theorem KeepR.stay {t : List VN} {B0 : Blks} {w0 w : World} {k : Nat} {s : St} {B : Blks} {ba : Option Addr} {vs : List Value} (h : KeepR B0 w0 ba vs) (hS : SS t B0 w0 k s w) (hm : ∀ b, b < w0.heap.size → b ∉ B0.mut → b ∉ B.mut) : KeepR B w ba vs := by
  rcases h with rfl | ⟨b, o, rfl, hn, hc⟩
  · exact .inl rfl
  · by_cases h0 : vs = []
    · subst h0; exact .inl rfl
    · have hbl := World.block_lt_of_cell? w0 _ (hc 0 (List.length_pos_iff.2 h0))
      exact .inr ⟨b, o, rfl, hm b hbl hn, fun j hj => hS.cell (hc j hj) hn⟩
theorem KeepR.lift {B : Blks} {w w' : World} {ba : Option Addr} {vs : List Value} (h : KeepR B w ba vs) (hb : Below w.heap.size w w') : KeepR B w' ba vs := by
  rcases h with rfl | ⟨b, o, rfl, hn, hc⟩
  · exact .inl rfl
  · exact .inr ⟨b, o, rfl, hn, fun j hj => (hb.cell (World.block_lt_of_cell? w _ (hc j hj))).trans (hc j hj)⟩
theorem KeepR.one {B : Blks} {w : World} {b o : Nat} {vs : List Value} {i : Nat} (h : KeepR B w (some ⟨b, o, none⟩) vs) (hi : i < vs.length) : KeepR B w (some ⟨b, o + i, none⟩) [vs[i]] := by
  rcases h with rfl | ⟨b', o', e, hn, hc⟩
  · simp at hi
  · cases e
    refine .inr ⟨b, o + i, rfl, hn, fun j hj => ?_⟩
    have : j = 0 := by simpa using hj
    subst this
    simp only [List.getElem_cons_zero, Nat.add_zero]
    exact hc i hi
/-- the sorted variables of a small vtree -/
theorem vars_few {t : List VN} (hc : checkF t = 0) (h11 : t.length ≤ 11) : ∃ l, varsR t = some l ∧ l.length ≤ 6 ∧ L.SortedBel t (t.length - 1) l ∧ ∀ v ∈ l, VarOf t v := by
  obtain ⟨l, h1, h2⟩ := L.varsR_spec hc
  have h0 := (check_ok hc).1
  have h3 := h2.len hc (by omega)
  have h4 := L.nv_le hc (v := t.length - 1) (by omega)
  refine ⟨l, h1, by omega, h2, fun v hv => ?_⟩
  obtain ⟨u, y, a1, a2, a3, _⟩ := (h2.mem v).1 hv
  exact ⟨u, y, a1, a2, a3⟩
/-- terms, either way -/
theorem terms_v {t : List VN} {B0 : Blks} {w0 w : World} {k k' : Nat} {s : St} {l : List Int} {ps : List Nat} {bl bp : Option Addr} {cl cp : Nat} (last : Bool) (h : SS t B0 w0 k s w) (h0 : Val s 0 fun _ => false) (h1 : Val s 1 fun _ => true) (hk : k' + ps.length * 1543 ≤ k)
    (hl : KeepR B0 w0 bl (l.map encZ)) (hp : KeepR B0 w0 bp (ps.map encU)) (hl6 : l.length ≤ 6) (hlv : ∀ v ∈ l, VarOf t v) (hpu : ∀ p ∈ ps, p < 65536) (hpl : ps.length ≤ 100) :
    Calls Tryz.prog 24 #[.pointer (some ⟨B0.sb, 0, none⟩), .slice bl l.length cl, .slice bp ps.length cp, .bool last] w (RetT t B0 w0 k' s (termsφ l ps)) := by
  cases last
  · exact terms_fwd h h0 h1 hk hl hp hl6 hlv hpu hpl
  · exact terms_bwd h h0 h1 hk hl hp hl6 hlv hpu hpl
def negφ (l : List Int) (ps : List Nat) (i : Nat) : L.Asg → Bool := fun x => (ps.take i).all fun p => !termsφ l [p] x
theorem neg_succ (l : List Int) (ps : List Nat) (i : Nat) (hi : i < ps.length) (x : L.Asg) : negφ l ps (i + 1) x = (!termsφ l [ps[i]] x && negφ l ps i x) := by
  unfold negφ
  rw [List.take_add_one, List.getElem?_eq_getElem hi, Option.toList_some, List.all_append, Bool.and_comm]
  simp
theorem neg_end (l : List Int) (ps : List Nat) (x : L.Asg) : (!negφ l ps ps.length x) = termsφ l ps x := by
  unfold negφ
  rw [List.take_length]
  induction ps with
  | nil => rfl
  | cons p r ih =>
    simp only [termsφ, List.all_cons, List.any_cons, List.any_nil, Bool.or_false] at ih ⊢
    rw [← ih]
    cases termφ l p x <;> simp

end Go.Proofs.YteikmmfjhabijaaGreatDoor
