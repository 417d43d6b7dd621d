import Derived.Test.YteikmmfjhabijaaGreatDoorWorks
import Derived.Test.YteikmmfjhabijaaGreatDoorRef3
set_option linter.unusedSimpArgs false
set_option linter.unusedVariables false
namespace Go.Proofs.YteikmmfjhabijaaGreatDoor
open Go Go.RowKit Go.Shelf

set_option maxRecDepth 100000 in
set_option maxHeartbeats 1000000 in
theorem at_any {B : Blks} {s : St} {w : World} {a : Nat} {n : SNode} (h : Rep B s w) (ht : s.tree ≠ []) (hn : s.nodes[a]? = some n) :
    Calls Tryz.prog 75 #[.pointer (some ⟨B.sb, 0, none⟩), .int .i64 a] w fun e w' => e = .returned (.tuple #[.int .i64 n.pl, .int .i64 0]) ∧ Below w.heap.size w w' := by
  have ha : a < s.nodes.length := (List.getElem?_eq_some_iff.1 hn).1
  have hch : chkF s.nodes.length [(a : Int)] = 0 := by simp [chkF, ha]
  have hns := h.small.1
  replace hch := Lib.hid hch
  have hx1 := (Ext.refl w).alloc (.cells #[.int .i64 a] 3)
  have hz1 := heap_alloc_new w (.cells #[.int .i64 a] 3)
  go_enter Tryz.func75, Tryz.ntmps75
  go_wp2_with fail
  generalize w.alloc (.cells #[.int .i64 a] 3) = w1 at *
  have hR1 := h.below hx1.below
  have hq := sck_any hR1 ht (slI_one hz1) (by simp)
  rw [hch.out] at hq
  clear hz1
  obtain ⟨cap, _, _, cn, _⟩ := hR1.cells
  obtain ⟨v, _, _, n0, _⟩ := hR1.node hn
  replace hR1 := Lib.hid hR1
  clear h
  refine hq.mono ?_
  rintro e w2 ⟨rfl, rfl⟩
  have d0 : decide ((a : Int) < s.nodes.length) = true := decide_eq_true (by omega)
  have d1 : decide (0 ≤ (a : Int)) = true := decide_eq_true (by omega)
  clear hq
  go_wp2_with fail
  go_ret2
  exact ⟨rfl, hx1.below⟩

/-- the conjunction of some variables, one after the other -/
def conjF (f : Nat) : List Int → St → Nat → Option (Nat × St)
  | [], s, a => some (a, s)
  | v :: r, s, a => match leafAt s.tree v.toNat with
    | none => none
    | some p => match literalF s v p with
      | none => none
      | some (b, s1) => if s.tree ≠ [] ∧ 1 ≤ v ∧ v ≤ 128 ∧ a < s1.nodes.length ∧ b < s1.nodes.length ∧ s1.tree ≠ [] then
          match andF f s1 a b with
          | none => none
          | some (c, s2) => conjF f r s2 c
        else none
/-- one example: the conjunction of the variables of a vtree -/
def oneB (t : List VN) (text : List UInt8) (size : Nat) : Bool :=
  match varsR t with
  | none => false
  | some l => match conjF 12 l (newSt t) 1 with
    | none => false
    | some (a, s) => decide (checkF t = 0) && decide (s.tree ≠ []) && decide (a < s.nodes.length) && decide (textF 8 s.nodes a = some text) && decide (sizeF 8 s.nodes a = some size)
def kT1 : List VN := [⟨-1, -1, 1⟩, ⟨-1, -1, 2⟩, ⟨0, 1, 0⟩]
def kT2 : List VN := [⟨-1, -1, 2⟩, ⟨-1, -1, 1⟩, ⟨0, 1, 0⟩]
def kT3 : List VN := [⟨-1, -1, 1⟩, ⟨-1, -1, 2⟩, ⟨0, 1, 0⟩, ⟨-1, -1, 3⟩, ⟨2, 3, 0⟩]
def kT4 : List VN := [⟨-1, -1, 1⟩, ⟨-1, -1, 2⟩, ⟨-1, -1, 3⟩, ⟨1, 2, 0⟩, ⟨0, 3, 0⟩]
def kX1 : List UInt8 := [40, 45, 49, 32, 70, 59, 32, 49, 32, 50, 41]
def kX2 : List UInt8 := [40, 45, 50, 32, 70, 59, 32, 50, 32, 49, 41]
def kX3 : List UInt8 := [40, 40, 45, 49, 32, 84, 59, 32, 49, 32, 45, 50, 41, 32, 70, 59, 32, 40, 45, 49, 32, 70, 59, 32, 49, 32, 50, 41, 32, 51, 41]
def kX4 : List UInt8 := [40, 45, 49, 32, 70, 59, 32, 49, 32, 40, 45, 50, 32, 70, 59, 32, 50, 32, 51, 41, 41]
theorem one1 : oneB kT1 kX1 2 = true := by kernel_rfl
theorem one2 : oneB kT2 kX2 2 = true := by kernel_rfl
theorem one3 : oneB kT3 kX3 6 = true := by kernel_rfl
theorem one4 : oneB kT4 kX4 4 = true := by kernel_rfl
/-- the last examples -/
def knownB : Bool :=
  match literalF (newSt kT4) 1 0 with
  | none => false
  | some (a, s1) => match literalF s1 2 1 with
    | none => false
    | some (b, s2) => match andF 12 s2 a b with
      | none => false
      | some (c, s3) => match orF (notF 12) (andF 12) s3 a b with
        | none => false
        | some (d, s4) => match notF 12 s4 d with
          | none => false
          | some (e, s5) => match orF (notF 12) (andF 12) s5 c e with
            | none => false
            | some (f, s6) => [s1, s2, s3, s4, s5, s6].all (fun s => decide (s.tree = kT4)) && decide (a < s2.nodes.length) && decide (b < s2.nodes.length) && decide (a < s3.nodes.length) && decide (b < s3.nodes.length) && decide (d < s4.nodes.length) && decide (c < s5.nodes.length) && decide (e < s5.nodes.length) && decide (f < s6.nodes.length) && decide (d < s6.nodes.length) && decide (b < s6.nodes.length) &&
                decide (textF 8 s6.nodes f = some [40, 45, 49, 32, 45, 50, 59, 32, 49, 32, 50, 41]) && decide (textF 8 s6.nodes d = some [40, 45, 49, 32, 50, 59, 32, 49, 32, 84, 41]) && decide ((s6.nodes[b]?).map (fun n => n.pl) = some 1)
theorem known_data : knownB = true := by kernel_rfl

theorem known_facts : ∃ a s1 b s2 c s3 d s4 e s5 f s6, literalF (newSt kT4) 1 0 = some (a, s1) ∧ literalF s1 2 1 = some (b, s2) ∧ andF 12 s2 a b = some (c, s3) ∧ orF (notF 12) (andF 12) s3 a b = some (d, s4) ∧ notF 12 s4 d = some (e, s5) ∧ orF (notF 12) (andF 12) s5 c e = some (f, s6) ∧
    (s1.tree = kT4 ∧ s2.tree = kT4 ∧ s3.tree = kT4 ∧ s4.tree = kT4 ∧ s5.tree = kT4 ∧ s6.tree = kT4) ∧ (a < s2.nodes.length ∧ b < s2.nodes.length ∧ a < s3.nodes.length ∧ b < s3.nodes.length ∧ d < s4.nodes.length ∧ c < s5.nodes.length ∧ e < s5.nodes.length ∧ f < s6.nodes.length ∧ d < s6.nodes.length) ∧
    textF 8 s6.nodes f = some [40, 45, 49, 32, 45, 50, 59, 32, 49, 32, 50, 41] ∧ textF 8 s6.nodes d = some [40, 45, 49, 32, 50, 59, 32, 49, 32, 84, 41] ∧ ∃ n, s6.nodes[b]? = some n ∧ n.pl = 1 := by
  have h := known_data
  unfold knownB at h
  split at h
  · cases h
  rename_i a s1 h1
  split at h
  · cases h
  rename_i b s2 h2
  split at h
  · cases h
  rename_i c s3 h3
  split at h
  · cases h
  rename_i d s4 h4
  split at h
  · cases h
  rename_i e s5 h5
  split at h
  · cases h
  rename_i f s6 h6
  simp only [Bool.and_eq_true, decide_eq_true_eq, List.all_cons, List.all_nil, and_true] at h
  obtain ⟨⟨⟨⟨⟨⟨⟨⟨⟨⟨⟨⟨⟨ht, q1⟩, q2⟩, q3⟩, q4⟩, q5⟩, q6⟩, q7⟩, q8⟩, q9⟩, q10⟩, x1⟩, x2⟩, x3⟩ := h
  refine ⟨a, s1, b, s2, c, s3, d, s4, e, s5, f, s6, h1, h2, h3, h4, h5, h6, ht, ⟨q1, q2, q3, q4, q5, q6, q7, q8, q9⟩, x1, x2, ?_⟩
  rw [Option.map_eq_some_iff] at x3
  exact x3
theorem oneB_parts {t : List VN} {x : List UInt8} {z : Nat} (h : oneB t x z = true) : ∃ l a s, varsR t = some l ∧ conjF 12 l (newSt t) 1 = some (a, s) ∧ checkF t = 0 ∧ s.tree ≠ [] ∧ a < s.nodes.length ∧ textF 8 s.nodes a = some x ∧ sizeF 8 s.nodes a = some z := by
  unfold oneB at h
  split at h
  · cases h
  rename_i l hl
  split at h
  · cases h
  rename_i a s hs
  simp only [Bool.and_eq_true, decide_eq_true_eq] at h
  obtain ⟨⟨⟨⟨h1, h2⟩, h3⟩, h4⟩, h5⟩ := h
  exact ⟨l, a, s, hl, hs, h1, h2, h3, h4, h5⟩
theorem conj_step {f : Nat} {v : Int} {r : List Int} {s : St} {a : Nat} {fin : Nat × St} (h : conjF f (v :: r) s a = some fin) :
    ∃ p b s1 c s2, leafAt s.tree v.toNat = some p ∧ literalF s v p = some (b, s1) ∧ s.tree ≠ [] ∧ 1 ≤ v ∧ v ≤ 128 ∧ a < s1.nodes.length ∧ b < s1.nodes.length ∧ s1.tree ≠ [] ∧ andF f s1 a b = some (c, s2) ∧ conjF f r s2 c = some fin := by
  unfold conjF at h
  split at h
  · cases h
  rename_i p hp
  split at h
  · cases h
  rename_i b s1 h1
  split at h
  case isFalse => cases h
  rename_i hc
  split at h
  · cases h
  rename_i c s2 h2
  obtain ⟨c1, c2, c3, c4, c5, c6⟩ := hc
  exact ⟨p, b, s1, c, s2, hp, h1, c1, c2, c3, c4, c5, c6, h2, h⟩

def kTr (t : List VN) : Obj := .cells (treeCells t).toArray 96
/-- the world at the loop of SddKnown -/
def knW (w : World) : World :=
  ((((((((((w.alloc (.cells #[.int .i64 (-1), .int .i64 (-1), .int .i64 1] 96)).alloc (.cells #[.int .i64 (-1), .int .i64 (-1), .int .i64 2] 96)).alloc (.cells #[.int .i64 (-1), .int .i64 (-1), .int .i64 3] 96)).alloc (kTr kT1)).alloc (kTr kT2)).alloc (kTr kT3)).alloc (kTr kT4)).alloc
    (.cells #[.slice (some ⟨w.heap.size + 1 + 1 + 1, 0, none⟩) 3 3, .slice (some ⟨w.heap.size + 1 + 1 + 1 + 1, 0, none⟩) 3 3, .slice (some ⟨w.heap.size + 1 + 1 + 1 + 1 + 1, 0, none⟩) 5 5, .slice (some ⟨w.heap.size + 1 + 1 + 1 + 1 + 1 + 1, 0, none⟩) 5 5] 23)).alloc
    (.cells #[.string ⟨kX1.toArray⟩, .string ⟨kX2.toArray⟩, .string ⟨kX3.toArray⟩, .string ⟨kX4.toArray⟩] 9)).alloc
    (.cells #[.int .i64 2, .int .i64 2, .int .i64 6, .int .i64 4] 3))
def KRow (w : World) (gt gx gs k : Nat) : Prop := ∃ (b : Nat) (t : List VN) (x : List UInt8) (z : Nat), w.cell? ⟨gt, k, none⟩ = some (.slice (some ⟨b, 0, none⟩) t.length t.length) ∧ TreeAt w b 0 t ∧
  w.cell? ⟨gx, k, none⟩ = some (.string ⟨x.toArray⟩) ∧ w.cell? ⟨gs, k, none⟩ = some (.int .i64 z) ∧ oneB t x z = true
theorem TreeAt.below {w w' : World} {b o : Nat} {t : List VN} (h : TreeAt w b o t) (hb : Below w.heap.size w w') : TreeAt w' b o t :=
  fun j u hj => (hb.cell (World.block_lt_of_cell? w _ (h j u hj))).trans (h j u hj)
theorem KRow.below {w w' : World} {gt gx gs k : Nat} (h : KRow w gt gx gs k) (hb : Below w.heap.size w w') : KRow w' gt gx gs k := by
  obtain ⟨b, t, x, z, h1, h2, h3, h4, h5⟩ := h
  exact ⟨b, t, x, z, (hb.cell (World.block_lt_of_cell? w _ h1)).trans h1, h2.below hb, (hb.cell (World.block_lt_of_cell? w _ h3)).trans h3, (hb.cell (World.block_lt_of_cell? w _ h4)).trans h4, h5⟩
theorem tree_new {w : World} {b : Nat} {t : List VN} (h : w.heap[b]? = some (kTr t)) : TreeAt w b 0 t := fun j u hj => by
  have := World.news_of_block h j u (by simpa using hj)
  rw [Nat.zero_add]
  have hadd : (⟨b, 0, none⟩ : Addr).add j = ⟨b, j, none⟩ := by unfold Addr.add; split <;> simp_all
  rw [hadd] at this
  exact this
theorem knW_rows (w : World) : (∀ k, k < 4 → KRow (knW w) (w.heap.size + 1 + 1 + 1 + 1 + 1 + 1 + 1) (w.heap.size + 1 + 1 + 1 + 1 + 1 + 1 + 1 + 1) (w.heap.size + 1 + 1 + 1 + 1 + 1 + 1 + 1 + 1 + 1) k) ∧
    (∃ b, (knW w).cell? ⟨w.heap.size + 1 + 1 + 1 + 1 + 1 + 1 + 1, 3, none⟩ = some (.slice (some ⟨b, 0, none⟩) 5 5) ∧ TreeAt (knW w) b 0 kT4) ∧ Ext w (knW w) := by
  have hpush : ∀ (w : World) (o : Obj), (w.alloc o).heap = w.heap.push o := fun _ _ => rfl
  have b1 : (knW w).heap[w.heap.size + 1 + 1 + 1]? = some (kTr kT1) := by simp only [knW, hpush, Array.getElem?_push, Array.size_push]; simp
  have b2 : (knW w).heap[w.heap.size + 1 + 1 + 1 + 1]? = some (kTr kT2) := by simp only [knW, hpush, Array.getElem?_push, Array.size_push]; simp
  have b3 : (knW w).heap[w.heap.size + 1 + 1 + 1 + 1 + 1]? = some (kTr kT3) := by simp only [knW, hpush, Array.getElem?_push, Array.size_push]; simp
  have b4 : (knW w).heap[w.heap.size + 1 + 1 + 1 + 1 + 1 + 1]? = some (kTr kT4) := by simp only [knW, hpush, Array.getElem?_push, Array.size_push]; simp
  have b5 : (knW w).heap[w.heap.size + 1 + 1 + 1 + 1 + 1 + 1 + 1]? = some (.cells #[.slice (some ⟨w.heap.size + 1 + 1 + 1, 0, none⟩) 3 3, .slice (some ⟨w.heap.size + 1 + 1 + 1 + 1, 0, none⟩) 3 3, .slice (some ⟨w.heap.size + 1 + 1 + 1 + 1 + 1, 0, none⟩) 5 5, .slice (some ⟨w.heap.size + 1 + 1 + 1 + 1 + 1 + 1, 0, none⟩) 5 5] 23 (0, 0)) := by simp only [knW, hpush, Array.getElem?_push, Array.size_push]; simp
  have b6 : (knW w).heap[w.heap.size + 1 + 1 + 1 + 1 + 1 + 1 + 1 + 1]? = some (.cells #[.string ⟨kX1.toArray⟩, .string ⟨kX2.toArray⟩, .string ⟨kX3.toArray⟩, .string ⟨kX4.toArray⟩] 9 (0, 0)) := by simp only [knW, hpush, Array.getElem?_push, Array.size_push]; simp
  have b7 : (knW w).heap[w.heap.size + 1 + 1 + 1 + 1 + 1 + 1 + 1 + 1 + 1]? = some (.cells #[.int .i64 2, .int .i64 2, .int .i64 6, .int .i64 4] 3 (0, 0)) := by simp only [knW, hpush, Array.getElem?_push, Array.size_push]; simp
  refine ⟨fun k hk => ?_, ⟨_, by rw [World.cell?, b5]; rfl, tree_new b4⟩, (((((((((((Ext.refl w).alloc _).alloc _).alloc _).alloc _).alloc _).alloc _).alloc _).alloc _).alloc _).alloc _)⟩
  have hk' : k = 0 ∨ k = 1 ∨ k = 2 ∨ k = 3 := by omega
  rcases hk' with rfl | rfl | rfl | rfl
  · exact ⟨_, kT1, kX1, 2, by rw [World.cell?, b5]; rfl, tree_new b1, by rw [World.cell?, b6]; rfl, by rw [World.cell?, b7]; rfl, one1⟩
  · exact ⟨_, kT2, kX2, 2, by rw [World.cell?, b5]; rfl, tree_new b2, by rw [World.cell?, b6]; rfl, by rw [World.cell?, b7]; rfl, one2⟩
  · exact ⟨_, kT3, kX3, 6, by rw [World.cell?, b5]; rfl, tree_new b3, by rw [World.cell?, b6]; rfl, by rw [World.cell?, b7]; rfl, one3⟩
  · exact ⟨_, kT4, kX4, 4, by rw [World.cell?, b5]; rfl, tree_new b4, by rw [World.cell?, b6]; rfl, by rw [World.cell?, b7]; rfl, one4⟩
end Go.Proofs.YteikmmfjhabijaaGreatDoor
