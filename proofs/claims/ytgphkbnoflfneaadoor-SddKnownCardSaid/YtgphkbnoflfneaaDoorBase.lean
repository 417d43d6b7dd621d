import Derived.Test.YtgphkbnoflfneaaDoorProg
import Derived.Handy
import Derived.WalkSpells
import Derived.WalkLawsBesides
import Derived.Deep.RegionHeld3
import Derived.Deep.QuietTactic
import Derived.BigQuiet
import Derived.KernelRfl
import Derived.Lib.Hide
namespace Go.Proofs.YtgphkbnoflfneaaDoor
open Go Go.RowKit

/-- a set of variables: bit v-1 says whether v is in it -/
abbrev VSet := BitVec 128
def lo (s : VSet) : Int := ((s.setWidth 64).toNat : Int)
def hi (s : VSet) : Int := (((s >>> 64).setWidth 64).toNat : Int)
def encS (s : VSet) : Value := .agg #[.int .u64 (lo s), .int .u64 (hi s)]

theorem bits_or_bv (x y : BitVec 64) : bits .or .u64 (x.toNat : Int) (y.toNat : Int) = ((x ||| y).toNat : Int) := by
  rw [bits_or_u64_nat _ _ x.isLt y.isLt, BitVec.toNat_or]
theorem bits_and_bv (x y : BitVec 64) : bits .and .u64 (x.toNat : Int) (y.toNat : Int) = ((x &&& y).toNat : Int) := by
  rw [bits_and_u64_nat _ _ x.isLt y.isLt, BitVec.toNat_and]
theorem bits_andNot_bv (x y : BitVec 64) : bits .andNot .u64 (x.toNat : Int) (y.toNat : Int) = ((x &&& ~~~y).toNat : Int) := by
  show IntKind.u64.wrap ((BitVec.ofInt 64 (x.toNat : Int) &&& ~~~ BitVec.ofInt 64 (y.toNat : Int)).toNat : Int) = _
  have e : ∀ z : BitVec 64, BitVec.ofInt 64 (z.toNat : Int) = z := fun z => by rw [BitVec.ofInt_natCast]; simp
  rw [e, e, IntKind.wrap_u64]
  have := (x &&& ~~~y).isLt
  omega
theorem or_lo (a b : VSet) : bits .or .u64 (lo a) (lo b) = lo (a ||| b) := by
  unfold lo; rw [bits_or_bv, BitVec.setWidth_or]
theorem or_hi (a b : VSet) : bits .or .u64 (hi a) (hi b) = hi (a ||| b) := by
  unfold hi; rw [bits_or_bv, BitVec.ushiftRight_or_distrib, BitVec.setWidth_or]
theorem and_lo (a b : VSet) : bits .and .u64 (lo a) (lo b) = lo (a &&& b) := by
  unfold lo; rw [bits_and_bv, BitVec.setWidth_and]
theorem and_hi (a b : VSet) : bits .and .u64 (hi a) (hi b) = hi (a &&& b) := by
  unfold hi; rw [bits_and_bv, BitVec.ushiftRight_and_distrib, BitVec.setWidth_and]
theorem andNot_lo (a b : VSet) : bits .andNot .u64 (lo a) (lo b) = lo (a &&& ~~~b) := by
  unfold lo; rw [bits_andNot_bv]; congr 2; ext i h; simp
theorem andNot_hi (a b : VSet) : bits .andNot .u64 (hi a) (hi b) = hi (a &&& ~~~b) := by
  unfold hi; rw [bits_andNot_bv]; congr 2; ext i h; simp [show 64 + i < 128 from by omega]

/-- w' is w with new blocks, some draws later -/
structure Ext (w w' : World) : Prop where
  below : Below w.heap.size w w'
  drawn : w.drawn ≤ w'.drawn
theorem Ext.refl (w : World) : Ext w w := ⟨Below.refl _ w, Nat.le_refl _⟩
theorem Ext.trans {a b c : World} (h : Ext a b) (k : Ext b c) : Ext a c := ⟨h.below.trans (k.below.mono h.below.size), Nat.le_trans h.drawn k.drawn⟩
theorem Ext.alloc {a w : World} (h : Ext a w) (o : Obj) : Ext a (w.alloc o) := ⟨h.below.alloc h.below.size o, h.drawn⟩
theorem Ext.drew {a w : World} (h : Ext a w) : Ext a w.drew := ⟨h.below.drew, Nat.le_succ_of_le h.drawn⟩
theorem Ext.setCell {a w : World} (h : Ext a w) {p : Addr} (hp : a.heap.size ≤ p.block) (u : Value) : Ext a (w.setCell p u) := ⟨h.below.setCell hp u, h.drawn⟩
theorem Ext.size {w w' : World} (h : Ext w w') : w.heap.size ≤ w'.heap.size := h.below.size
theorem Ext.cell {W w' : World} (h : Ext W w') {a : Addr} {v : Value} (hc : W.cell? a = some v) : w'.cell? a = some v :=
  (h.below.cell (World.block_lt_of_cell? W _ hc)).trans hc
theorem wp_region_below {P : Program} {l : List Oper} {id : Nat} {Q : Exit → Act → World → Prop} {a : Act} {w : World} (hm : P.follows .mixedOrders = true) (hB : Region.lexB .any l.toArray = true)
    (h : wpQuiet P l.toArray (Ext w) (fun a' => ∀ w', Ext w w' → Q .normal a' w') l a) : (Code.region id l.toArray true).wp P Q a w :=
  wp_region_quiet (C := Ext w) hm hB (Ext.refl w).drew (by simpa using h)

/-- the least variable of a set, or 0 -/
def firstS (s : VSet) : Nat := match (List.range 128).find? (fun i => s.getLsbD i) with | some i => i + 1 | none => 0
/-- is v in s? -/
def hasS (s : VSet) (v : Int) : Bool := decide (1 ≤ v) && decide (v ≤ 128) && s.getLsbD (v - 1).toNat
def lessS (a b : VSet) : Bool := let o := firstS ((a &&& ~~~b) ||| (b &&& ~~~a)); decide (0 < o) && !hasS a o

theorem firstS_le (s : VSet) : firstS s ≤ 128 := by
  unfold firstS
  split
  · rename_i i h
    have := List.mem_of_find?_eq_some h
    simp at this; omega
  · omega

/-- s with v -/
def withS (s : VSet) (v : Int) : VSet := if 1 ≤ v ∧ v ≤ 128 then s ||| BitVec.twoPow 128 (v - 1).toNat else s
def ofS (l : List Int) : VSet := l.foldl withS 0

/-- a slice of ints -/
def SlI (w : World) (v : Value) (l : List Int) : Prop :=
  ∃ ba c, v = .slice ba l.length c ∧ ((ba = none ∧ l = [] ∧ c = 0) ∨ ∃ b o, ba = some ⟨b, o, none⟩ ∧ ∀ j (hj : j < l.length), w.cell? ⟨b, o + j, none⟩ = some (.int .i64 l[j]))
theorem SlI.ext {w w' : World} {v : Value} {l : List Int} (h : SlI w v l) (hb : Below w.heap.size w w') : SlI w' v l := by
  obtain ⟨ba, c, rfl, h⟩ := h
  refine ⟨ba, c, rfl, h.imp id ?_⟩
  rintro ⟨b, o, rfl, hc⟩
  exact ⟨b, o, rfl, fun j hj => (hb.cell (World.block_lt_of_cell? w _ (hc j hj))).trans (hc j hj)⟩

theorem heap_set {w : World} {b : Nat} {cs : Array Value} {t : TypeId} {fz : Nat × Nat} (h : w.heap[b]? = some (.cells cs t fz)) (o : Nat) (v : Value) : (w.setCell ⟨b, o, none⟩ v).heap[b]? = some (.cells (cs.setIfInBounds o v) t fz) := by
  simp only [World.setCell, Array.getElem?_modify, if_true, h]
  rfl
theorem heap_set2 {w : World} {b : Nat} {x y : Value} {t : TypeId} {fz : Nat × Nat} (h : w.heap[b]? = some (.cells #[x, y] t fz)) (u v : Value) : ((w.setCell ⟨b, 0, none⟩ u).setCell ⟨b, 1, none⟩ v).heap[b]? = some (.cells #[u, v] t fz) :=
  heap_set (heap_set h 0 u) 1 v
end Go.Proofs.YtgphkbnoflfneaaDoor
