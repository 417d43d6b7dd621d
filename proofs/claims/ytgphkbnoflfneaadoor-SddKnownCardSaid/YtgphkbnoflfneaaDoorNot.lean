import Derived.Test.YtgphkbnoflfneaaDoorDec2
import Derived.Test.YtgphkbnoflfneaaDoorEnt
import Derived.Test.YtgphkbnoflfneaaDoorSddF
import Derived.Test.YtgphkbnoflfneaaDoorRep2
namespace Go.Proofs.YtgphkbnoflfneaaDoor
open Go Go.RowKit Go.Shelf

def NotsLaw (g : St → Nat → Option (Nat × St)) : Prop := ∀ (B : Blks) (s s' : St) (w : World) (a r : Nat), Rep B s w → g s a = some (r, s') →
  Calls Tryd.prog 33 #[.pointer (some ⟨B.sb, 0, none⟩), .int .i64 a] w (RetStp [] (.int .i64 r) B s' w)

theorem Rep.notLook {B : Blks} {s : St} {w : World} (h : Rep B s w) (a : Nat) :
    (Instr.lookup 56 (.map (some B.mb)) (.int .i64 a) true).run Tryd.prog w = .ok (.tuple #[((asc s.nots a).map encNat).getD (.int .i64 0), .bool (asc s.nots a).isSome]) w :=
  h.nots.look natLaw (T := 56) Tryd.underlying56 _ zeroInt a
theorem flatP_one (l : List (Nat × Nat)) : ∀ u ∈ flatP l, Value.oneCell' u = true := by
  intro u hu
  simp only [flatP, List.mem_flatMap, List.mem_cons, List.not_mem_nil, or_false] at hu
  obtain ⟨p, _, rfl | rfl⟩ := hu <;> rfl
theorem info_pair : (Tryd.prog.info? 76).map (fun i => (i.zero, i.size, i.bytes)) = some (some (.agg #[.int .i64 0, .int .i64 0]), 2, 16) := by kernel_rfl

/-- slices.Clone of elements -/
theorem clone_pairs (w : World) (b o c : Nat) (l : List (Nat × Nat)) (h : RowAt w b o 76 (flatP l)) (hl : l.length ≤ 1048576) :
    Calls Tryd.prog 48 #[.slice (some ⟨b, o, none⟩) l.length c] w fun e w' => ∃ g cap cs, e = .returned (.slice (some ⟨g, 0, none⟩) l.length cap) ∧ w.heap.size ≤ g ∧
      w'.heap[g]? = some (.cells cs tPair (0, 0)) ∧ (∀ j u, (flatP l)[j]? = some u → cs[0 + j]? = some u) ∧ Below w.heap.size w w' := by
  obtain ⟨i0, hi0, hz0, hz1, hz2⟩ := info_parts info_pair
  have h1 := AnyE.slices_Clone Tryd.clonePair i0 (.agg #[.int .i64 0, .int .i64 0]) 2 16 hi0 hz0 hz1 hz2 (by rfl) (by omega) sizeOfP b o l.length c (flatP l) w (by rw [flatP_len]; omega) (by unfold maxLen; omega) (by omega) (fun j u hj => h.cell hj) (flatP_one l)
  refine h1.mono ?_
  rintro e w' ⟨v', rfl, hown, hne, hb⟩
  obtain ⟨hlen, ⟨e0, _⟩ | ⟨g, cap, cur, rfl, hg, hh, hn, hm, hs, ht⟩⟩ := hown
  · exact absurd e0 hne
  · refine ⟨g, cap, cur, rfl, hg, hh, fun j u hj => ?_, hb⟩
    rw [← ht, List.getElem?_take] at hj
    split at hj
    · simpa using hj
    · simp at hj

theorem flatP_set (c : Array Value) (l : List (Nat × Nat)) (k q : Nat) (hk : k < l.length) (h : ∀ j u, (flatP l)[j]? = some u → c[0 + j]? = some u) :
    ∀ j u, (flatP (l.set k (l[k].1, q)))[j]? = some u → (c.setIfInBounds (k * 2 + 1) (.int .i64 q))[0 + j]? = some u := by
  intro j u hj
  have hb := (h (k * 2 + 1) _ (flatP_get l k hk).2)
  have hlt : k * 2 + 1 < c.size := by
    have := (Array.getElem?_eq_some_iff.1 hb).1
    omega
  have hjl : j < 2 * l.length := by
    have := (List.getElem?_eq_some_iff.1 hj).1
    rw [flatP_len, List.length_set] at this
    exact this
  obtain ⟨i, hi⟩ : ∃ i, j = i * 2 ∨ j = i * 2 + 1 := ⟨j / 2, by omega⟩
  have hil : i < l.length := by omega
  have hil' : i < (l.set k (l[k].1, q)).length := by rw [List.length_set]; exact hil
  obtain ⟨g1, g2⟩ := flatP_get _ i hil'
  obtain ⟨g3, g4⟩ := flatP_get l i hil
  rw [Array.getElem?_setIfInBounds]
  rcases hi with rfl | rfl
  · rw [g1] at hj
    rw [if_neg (by omega), h _ _ g3]
    rw [← hj]
    by_cases hik : k = i
    · subst hik; simp
    · simp [List.getElem_set, hik]
  · rw [g2] at hj
    by_cases hik : k = i
    · subst hik
      rw [if_pos (by omega), if_pos (by omega)]
      rw [← hj]; simp
    · rw [if_neg (by omega), h _ _ g4, ← hj]
      simp [List.getElem_set, hik]
end Go.Proofs.YtgphkbnoflfneaaDoor
