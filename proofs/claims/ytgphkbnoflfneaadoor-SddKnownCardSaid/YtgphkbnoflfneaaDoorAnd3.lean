import Derived.Test.YtgphkbnoflfneaaDoorAnd
namespace Go.Proofs.YtgphkbnoflfneaaDoor
open Go Go.RowKit Go.Shelf

/-- a row of pairs of the call's own may turn, and grow -/
theorem grownP_step {B : Blks} {s : St} {w w' : World} {base n : Nat} {v : Value} {xs : List Value} (h : Rep B s w) (hO : w.ownsRow base tPair 2 v n xs) (hb : gPow < base ∧ gTz < base) (hg : w.grownBy w' v.ownBlock)
    (hne : ∀ g, v.ownBlock = some g → g ∉ B.eb) :
    Rep B s w' ∧ Stp v.ownBlock.toList B w B w' ∧ ∀ (k : Nat) (o : Obj), w.heap[k]? = some o → v.ownBlock ≠ some k → w'.heap[k]? = some o := by
  have hk : ∀ (k : Nat) (o : Obj), w.heap[k]? = some o → v.ownBlock ≠ some k → w'.heap[k]? = some o := fun k o ho hn => (hg.block k (Array.getElem?_eq_some_iff.1 ho).1 (fun e => hn e.symm)).trans ho
  refine ⟨?_, Stp.of_but ⟨hg.os, hg.tape, hg.output⟩ hg.size (fun k hk hX => hg.block k hk (fun e => hX (by rw [← e]; simp))), hk⟩
  have hge := fun k e => own_ge hO (k := k) e
  obtain ⟨_, ⟨rfl, _⟩ | ⟨g, cap, cur, rfl, _, hh, _⟩⟩ := hO
  · exact h.same fun k o ho => (hk k o ho (by simp [Value.ownBlock])).trans ho.symm
  · have h1 := hge g rfl
    refine h.off hh (hne g rfl) (by omega) (fun k o hkg ho => (hk k o ho ?_).trans ho.symm)
    simp only [Value.ownBlock]
    intro e
    exact hkg (Option.some.inj e).symm
end Go.Proofs.YtgphkbnoflfneaaDoor

namespace Go.Proofs.YtgphkbnoflfneaaDoor
open Go Go.RowKit Go.Shelf

theorem Rep.plAt {B : Blks} {s : St} {w : World} (h : Rep B s w) {a : Nat} {p : Nat} (hp : plOf s a = p) : a < s.nodes.length ∧ w.cell? ⟨B.nb, a * 5, none⟩ = some (.int .i64 p) := by
  unfold plOf at hp
  split at hp
  · rename_i n hn
    obtain ⟨v, _, _, n0, _⟩ := h.node hn
    rw [hp] at n0
    exact ⟨(List.getElem?_eq_some_iff.1 hn).1, n0⟩
  · omega
theorem ElAt.stp {B B' : Blks} {s : St} {w w' : World} {v : Value} {l : List (Nat × Nat)} (h : ElAt w v l) (hR : Rep B s w) (hS : Stp [] B w B' w') : ElAt w' v l :=
  h.same fun b c fz hb => (hS.keep hb (hR.not_mut hb (by simp [tPair, tNode]) (by simp [tPair, tStore])) (by simp)).trans hb.symm
theorem ElAt.ext {w w' : World} {v : Value} {l : List (Nat × Nat)} (h : ElAt w v l) (hx : Ext w w') : ElAt w' v l :=
  h.same fun b c fz hb => hx.below.block b (Array.getElem?_eq_some_iff.1 hb).1
theorem andRow_pre (af : St → Nat → Nat → Option (Nat × St)) (p : Nat × Nat) : ∀ (r : List (Nat × Nat)) (s : St) (out : List (Nat × Nat)) (l : List (Nat × Nat)) (s' : St), andRow af p r s out = some (l, s') → out.length ≤ l.length
  | [], s, out, l, s', h => by
    simp only [andRow, Option.some.injEq, Prod.mk.injEq] at h
    rw [h.1]; exact Nat.le_refl _
  | q :: r, s, out, l, s', h => by
    unfold andRow at h
    split at h
    · cases h
    · split at h
      · exact andRow_pre af p r _ _ _ _ h
      · split at h
        · cases h
        · have := andRow_pre af p r _ _ _ _ h
          simp at this; omega
theorem andAll_pre (af : St → Nat → Nat → Option (Nat × St)) (right : List (Nat × Nat)) : ∀ (r : List (Nat × Nat)) (s : St) (out : List (Nat × Nat)) (l : List (Nat × Nat)) (s' : St), andAll af right r s out = some (l, s') → out.length ≤ l.length
  | [], s, out, l, s', h => by
    simp only [andAll, Option.some.injEq, Prod.mk.injEq] at h
    rw [h.1]; exact Nat.le_refl _
  | q :: r, s, out, l, s', h => by
    unfold andAll at h
    split at h
    · cases h
    · rename_i o s1 h1
      exact Nat.le_trans (andRow_pre af q right _ _ _ _ h1) (andAll_pre af right r _ _ _ _ h)
/-- the row of a spread lies below a block -/
def RowsB (w : World) (base : Nat) (ba : Option Addr) (l : List (Nat × Nat)) : Prop := (ba = none ∧ l = []) ∨ ∃ b o, ba = some ⟨b, o, none⟩ ∧ b < base ∧ RowAt w b o tPair (flatP l)
theorem ElAt.rowsB {w : World} {ba : Option Addr} {n cp : Nat} {l : List (Nat × Nat)} (h : ElAt w (.slice ba n cp) l) : n = l.length ∧ RowsB w w.heap.size ba l := by
  obtain ⟨ba', c, e, h⟩ := h
  cases e
  refine ⟨rfl, ?_⟩
  rcases h with ⟨h1, h2, _⟩ | ⟨b, o, h1, h2⟩
  · exact .inl ⟨h1, h2⟩
  · exact .inr ⟨b, o, h1, h2.lt, h2⟩
theorem RowsB.same {w w' : World} {base : Nat} {ba : Option Addr} {l : List (Nat × Nat)} (h : RowsB w base ba l) (hs : ∀ (k : Nat) (c : Array Value) (f : Nat × Nat), k < base → w.heap[k]? = some (Obj.cells c tPair f) → w'.heap[k]? = w.heap[k]?) : RowsB w' base ba l := by
  rcases h with h | ⟨b, o, h1, h2, c, f, h3, h4⟩
  · exact .inl h
  · exact .inr ⟨b, o, h1, h2, c, f, (hs b c f h2 h3).trans h3, h4⟩
theorem own_lt {w : World} {B : Nat} {e : TypeId} {sz : Nat} {v : Value} {n : Nat} {xs : List Value} (h : w.ownsRow B e sz v n xs) {k : Nat} (hk : v.ownBlock = some k) : k < w.heap.size ∧ ∃ c, w.heap[k]? = some (.cells c e (0, 0)) := by
  obtain ⟨_, ⟨rfl, _⟩ | ⟨g, cap, cur, rfl, hg, hh, _⟩⟩ := h
  · simp [Value.ownBlock] at hk
  · simp [Value.ownBlock] at hk
    subst hk
    exact ⟨(Array.getElem?_eq_some_iff.1 hh).1, cur, hh⟩
/-- what holds in the loops of 'and': bx: boxes of pairs -/
structure AndC (B B' : Blks) (w : World) (base : Nat) (bx : List (Nat × Nat × Nat)) (ba1 ba2 : Option Addr) (right left : List (Nat × Nat)) (sk : St) (out : List (Nat × Nat)) (v : Value) (wr : World) : Prop where
  rep : Rep B' sk wr
  stp : Stp [] B w B' wr
  off : ∀ g, v.ownBlock = some g → g ∉ B'.eb
  box : ∀ x ∈ bx, wr.heap[x.1]? = some (.cells #[.int .i64 (x.2.1 : Int), .int .i64 (x.2.2 : Int)] tPair (0, 0)) ∧ v.ownBlock ≠ some x.1
  bs : base ≤ wr.heap.size
  own : wr.ownsRow base tPair 2 v out.length (flatP out)
  r1 : RowsB wr base ba1 right
  r2 : RowsB wr base ba2 left
section
variable {B B' B'' : Blks} {w wr w' : World} {base : Nat} {bx : List (Nat × Nat × Nat)} {ba1 ba2 : Option Addr} {right left out : List (Nat × Nat)} {sk sk' : St} {v : Value}
theorem AndC.ext (h : AndC B B' w base bx ba1 ba2 right left sk out v wr) (hx : Ext wr w') : AndC B B' w base bx ba1 ba2 right left sk out v w' where
  rep := h.rep.below hx.below
  stp := h.stp.then (Stp.of_below hx.below)
  off := h.off
  box := fun x hm => ⟨(hx.below.block _ (Array.getElem?_eq_some_iff.1 (h.box x hm).1).1).trans (h.box x hm).1, (h.box x hm).2⟩
  bs := Nat.le_trans h.bs hx.size
  own := ownsRow_same h.own (fun k hk => hx.below.block k (own_lt h.own hk).1)
  r1 := h.r1.same (fun k c f _ hk => hx.below.block k (Array.getElem?_eq_some_iff.1 hk).1)
  r2 := h.r2.same (fun k c f _ hk => hx.below.block k (Array.getElem?_eq_some_iff.1 hk).1)
theorem AndC.call (h : AndC B B' w base bx ba1 ba2 right left sk out v wr) (hR : Rep B'' sk' w') (hS : Stp [] B' wr B'' w') : AndC B B'' w base bx ba1 ba2 right left sk' out v w' := by
  have hk : ∀ (k : Nat) (c : Array Value) (f : Nat × Nat), wr.heap[k]? = some (Obj.cells c tPair f) → w'.heap[k]? = some (Obj.cells c tPair f) := fun k c f hk =>
    hS.keep hk (h.rep.not_mut hk (by decide) (by decide)) (by simp)
  exact {
    rep := hR
    stp := h.stp.then hS
    off := fun g hg hc => by
      rcases hS.newe g hc with h1 | h1 | h1
      · exact h.off g hg h1
      · have := (own_lt h.own hg).1; omega
      · simp at h1
    box := fun x hm => ⟨hk _ _ _ (h.box x hm).1, (h.box x hm).2⟩
    bs := Nat.le_trans h.bs hS.fr.size
    own := ownsRow_same h.own (fun k hb => by
      obtain ⟨_, c, hc⟩ := own_lt h.own hb
      exact (hk _ _ _ hc).trans hc.symm)
    r1 := h.r1.same (fun k c f _ hb => (hk _ _ _ hb).trans hb.symm)
    r2 := h.r2.same (fun k c f _ hb => (hk _ _ _ hb).trans hb.symm) }
theorem AndC.boxed (h : AndC B B' w base bx ba1 ba2 right left sk out v wr) (p : Nat × Nat) : AndC B B' w base ((wr.heap.size, p.1, p.2) :: bx) ba1 ba2 right left sk out v (wr.alloc (.cells #[.int .i64 (p.1 : Int), .int .i64 (p.2 : Int)] 76)) := by
  have h1 := h.ext ((Ext.refl wr).alloc (.cells #[.int .i64 (p.1 : Int), .int .i64 (p.2 : Int)] tPair))
  refine { h1 with box := fun x hm => ?_ }
  rcases List.mem_cons.1 hm with rfl | hm
  · exact ⟨heap_alloc_new wr _, fun e => Nat.lt_irrefl _ (own_lt h.own e).1⟩
  · exact h1.box x hm
theorem AndC.fewer {by_ : List (Nat × Nat × Nat)} (h : AndC B B' w base bx ba1 ba2 right left sk out v wr) (hs : ∀ x ∈ by_, x ∈ bx) : AndC B B' w base by_ ba1 ba2 right left sk out v wr :=
  { h with box := fun x hm => h.box x (hs x hm) }
theorem AndC.tight (h : AndC B B' w base bx ba1 ba2 right left sk out v wr) : AndC B { B' with eb := B'.eb.filter (fun k => decide (k < wr.heap.size)) } w base bx ba1 ba2 right left sk out v wr :=
  { h with
    rep := h.rep.tight
    stp := ⟨h.stp.fr, h.stp.sb, h.stp.new, fun k hk => h.stp.newe k (List.mem_filter.1 hk).1⟩
    off := fun g hg hc => h.off g hg (List.mem_filter.1 hc).1 }
theorem flatP_snoc (l : List (Nat × Nat)) (p : Nat × Nat) : flatP (l ++ [p]) = flatP l ++ [.int .i64 (p.1 : Int), .int .i64 (p.2 : Int)] := by simp [flatP]
theorem AndC.push {p : Nat × Nat} {g cap : Nat} {w1 : World} (h : AndC B B' w base bx ba1 ba2 right left sk out v w1) (htb : ∀ k ∈ B'.eb, k < w1.heap.size) (hb : gPow < base ∧ gTz < base) (hw : w.heap.size ≤ base)
    (ho : w'.ownsRow base tPair 2 (.slice (some ⟨g, 0, none⟩) (out.length + 1) cap) (out.length + 1) (flatP out ++ [.int .i64 (p.1 : Int), .int .i64 (p.2 : Int)])) (hg : w1.grownBy w' v.ownBlock) (hat : v.ownBlock = some g ∨ g = w1.heap.size) :
    AndC B B' w base bx ba1 ba2 right left sk (out ++ [p]) (.slice (some ⟨g, 0, none⟩) (out.length + 1) cap) w' := by
  obtain ⟨hR, hS, hK⟩ := grownP_step h.rep h.own hb hg h.off
  have hrow : ∀ (k : Nat) (c : Array Value) (f : Nat × Nat), k < base → w1.heap[k]? = some (Obj.cells c tPair f) → w'.heap[k]? = w1.heap[k]? := fun k c f hk hc =>
    (hK _ _ hc (fun e => by have := own_ge h.own e; omega)).trans hc.symm
  exact {
    rep := hR
    stp := (h.stp.trans hS).weak (fun x hx => by
      simp only [List.nil_append, Option.mem_toList, Option.mem_def] at hx
      exact .inr (Nat.le_trans hw (own_ge h.own hx)))
    off := fun k hk hc => by
      simp only [Value.ownBlock, Option.some.injEq] at hk
      subst hk
      rcases hat with e | e
      · exact h.off _ e hc
      · have := htb _ hc; omega
    box := fun x hm => by
      obtain ⟨b1, b2⟩ := h.box x hm
      refine ⟨hK _ _ b1 b2, fun e => ?_⟩
      simp only [Value.ownBlock, Option.some.injEq] at e
      rcases hat with e2 | e2
      · exact b2 (by rw [e2, e])
      · have := (Array.getElem?_eq_some_iff.1 b1).1; omega
    bs := Nat.le_trans h.bs hS.fr.size
    own := own_cast ho (by simp) (by rw [flatP_snoc])
    r1 := h.r1.same hrow
    r2 := h.r2.same hrow }
theorem RowsB.at {l : List (Nat × Nat)} {ba : Option Addr} (h : RowsB w base ba l) {k : Nat} (hk : k < l.length) : ∃ b o, ba = some ⟨b, o, none⟩ ∧ w.cell? ⟨b, o + k * 2, none⟩ = some (.int .i64 (l[k].1 : Nat)) ∧ w.cell? ⟨b, o + k * 2 + 1, none⟩ = some (.int .i64 (l[k].2 : Nat)) := by
  rcases h with ⟨_, e⟩ | ⟨b, o, e, _, hr⟩
  · rw [e] at hk; simp at hk
  · obtain ⟨c0, c1⟩ := hr.off0 k hk
    exact ⟨b, o, e, c0, c1⟩
end
theorem ElAt.of_own {w : World} {base : Nat} {v : Value} {l : List (Nat × Nat)} (h : w.ownsRow base tPair 2 v l.length (flatP l)) : ElAt w v l := by
  obtain ⟨_, ⟨rfl, e⟩ | ⟨g, cap, cur, rfl, hgb, hgh, hn, hm, hcs, ht⟩⟩ := h
  · have hl : l = [] := List.eq_nil_of_length_eq_zero (by omega)
    subst hl
    exact ⟨none, 0, rfl, .inl ⟨rfl, rfl, rfl⟩⟩
  · refine ⟨some ⟨g, 0, none⟩, cap, rfl, .inr ⟨g, 0, rfl, cur, (0, 0), hgh, fun j u hj => ?_⟩⟩
    rw [← ht, List.getElem?_take] at hj
    split at hj
    · rw [Nat.zero_add]; simpa using hj
    · cases hj
theorem spread_len {g : St → Nat → Option (Nat × St)} {B : Blks} {s s1 : St} {w : World} {a pl : Nat} {l : List (Nat × Nat)} (h : Rep B s w) (he : spreadF g s a pl = some (l, s1)) : l.length ≤ 1048576 := by
  unfold spreadF at he
  split at he
  · cases he
  rename_i n hn
  have hsm := (h.small.2 n (List.mem_of_getElem? hn)).2.2.2.2.1
  split at he
  · cases he; exact hsm
  split at he
  · cases he
  split at he
  · cases he
  split at he
  · split at he
    · cases he
    · cases he; simp
  · cases he; simp
/-- what holds in the outer loop of 'and' -/
def AndOut (af : St → Nat → Nat → Option (Nat × St)) (B : Blks) (w : World) (base : Nat) (bx : List (Nat × Nat × Nat)) (ba1 ba2 : Option Addr) (right left : List (Nat × Nat)) (fin : List (Nat × Nat) × St) (k : Nat) (v : Value) (wr : World) : Prop :=
  ∃ B' sk out, AndC B B' w base bx ba1 ba2 right left sk out v wr ∧ andAll af right (left.drop k) sk out = some fin
/-- what holds in the inner loop of 'and' -/
def AndIn (af : St → Nat → Nat → Option (Nat × St)) (B : Blks) (w : World) (base : Nat) (bx : List (Nat × Nat × Nat)) (ba1 ba2 : Option Addr) (right left : List (Nat × Nat)) (p : Nat × Nat) (k : Nat) (fin : List (Nat × Nat) × St) (j : Nat) (v : Value) (wr : World) : Prop :=
  ∃ B' sk out out' s', AndC B B' w base bx ba1 ba2 right left sk out v wr ∧ andRow af p (right.drop j) sk out = some (out', s') ∧ andAll af right (left.drop (k + 1)) s' out' = some fin
theorem andRow_cons {af : St → Nat → Nat → Option (Nat × St)} {p q : Nat × Nat} {r out : List (Nat × Nat)} {s : St} {fin : List (Nat × Nat) × St} (h : andRow af p (q :: r) s out = some fin) :
    (∃ s1, af s p.1 q.1 = some (0, s1) ∧ andRow af p r s1 out = some fin) ∨ (∃ pr s1 su s2, af s p.1 q.1 = some (pr, s1) ∧ pr ≠ 0 ∧ af s1 p.2 q.2 = some (su, s2) ∧ andRow af p r s2 (out ++ [(pr, su)]) = some fin) := by
  unfold andRow at h
  split at h
  · cases h
  · rename_i pr s1 h1
    split at h
    · rename_i h0
      subst h0
      exact .inl ⟨s1, h1, h⟩
    · rename_i h0
      split at h
      · cases h
      · rename_i su s2 h2
        exact .inr ⟨pr, s1, su, s2, h1, h0, h2, h⟩
theorem andAll_cons {af : St → Nat → Nat → Option (Nat × St)} {right : List (Nat × Nat)} {p : Nat × Nat} {r out : List (Nat × Nat)} {s : St} {fin : List (Nat × Nat) × St} (h : andAll af right (p :: r) s out = some fin) :
    ∃ out' s', andRow af p right s out = some (out', s') ∧ andAll af right r s' out' = some fin := by
  unfold andAll at h
  split at h
  · cases h
  · rename_i o s1 h1
    exact ⟨o, s1, h1, h⟩
end Go.Proofs.YtgphkbnoflfneaaDoor

