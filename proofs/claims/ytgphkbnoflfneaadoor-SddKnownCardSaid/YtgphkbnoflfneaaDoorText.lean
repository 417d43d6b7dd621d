import Derived.Test.YtgphkbnoflfneaaDoorBelow
import Derived.Lib.AppendStr
namespace Go.Proofs.YtgphkbnoflfneaaDoor
open Go Go.RowKit Go.Shelf

def encT (b : List UInt8) : Value := .string ⟨b.toArray⟩
/-- the text of a node that is laid -/
def ascT (m : List (Nat × List UInt8)) (a : Nat) : List UInt8 := match asc m a with
  | some t => t
  | none => []
/-- the text of elements, so far -/
def elsT (m : List (Nat × List UInt8)) : List (Nat × Nat) → List UInt8
  | [] => []
  | p :: r => (ascT m p.1 ++ [32] ++ ascT m p.2) ++ (r.flatMap fun q => [59, 32] ++ (ascT m q.1 ++ [32] ++ ascT m q.2))
def partT (m : List (Nat × List UInt8)) (l : List (Nat × Nat)) : List UInt8 := [40] ++ elsT m l
theorem partT_snoc (m : List (Nat × List UInt8)) (l : List (Nat × Nat)) (p : Nat × Nat) : partT m (l ++ [p]) = partT m l ++ (if l = [] then [] else [59, 32]) ++ ascT m p.1 ++ [32] ++ ascT m p.2 := by
  cases l with
  | nil => simp [partT, elsT]
  | cons q r => simp [partT, elsT]
/-- the first loop of write: the texts of the elements' parts, and their size -/
def wrL (g : Nat → List (Nat × List UInt8) → Option (List (Nat × List UInt8))) : List (Nat × Nat) → List (Nat × List UInt8) → Nat → Option (List (Nat × List UInt8) × Nat)
  | [], m, z => some (m, z)
  | p :: r, m, z => match g p.1 m with
    | none => none
    | some m1 => match g p.2 m1 with
      | none => none
      | some m2 => if (ascT m2 p.1).length ≤ 1048576 ∧ (ascT m2 p.2).length ≤ 1048576 then wrL g r m2 (z + ((ascT m2 p.1).length + (ascT m2 p.2).length + 3)) else none
/-- write, on data; none: a text is too long, or the fuel is gone -/
def writeF : Nat → List SNode → Nat → List (Nat × List UInt8) → Option (List (Nat × List UInt8))
  | 0, _, _, _ => none
  | f + 1, ns, a, m => match asc m a with
    | some _ => some m
    | none => match ns[a]? with
      | none => none
      | some n => if n.el = [] then some ((a, if n.lit ≠ 0 then Lib.itoa n.lit else if a = 1 then [84] else [70]) :: m) else
        match wrL (writeF f ns) n.el m 0 with
        | none => none
        | some (m1, z) => if z ≤ 1048576 ∧ (partT m1 n.el).length ≤ 4194304 ∧ (∀ p ∈ n.el, (0 < (ascT m1 p.1).length ∧ (ascT m1 p.1).length ≤ 1048576) ∧ (0 < (ascT m1 p.2).length ∧ (ascT m1 p.2).length ≤ 1048576)) then some ((a, partT m1 n.el ++ [41]) :: m1) else none
theorem wrL_cons {g : Nat → List (Nat × List UInt8) → Option (List (Nat × List UInt8))} {p : Nat × Nat} {r : List (Nat × Nat)} {m : List (Nat × List UInt8)} {z : Nat} {fin : List (Nat × List UInt8) × Nat} (h : wrL g (p :: r) m z = some fin) :
    ∃ m1 m2, g p.1 m = some m1 ∧ g p.2 m1 = some m2 ∧ (ascT m2 p.1).length ≤ 1048576 ∧ (ascT m2 p.2).length ≤ 1048576 ∧ wrL g r m2 (z + ((ascT m2 p.1).length + (ascT m2 p.2).length + 3)) = some fin := by
  unfold wrL at h
  split at h
  · cases h
  · rename_i m1 h1
    split at h
    · cases h
    · rename_i m2 h2
      split at h
      · rename_i hc
        exact ⟨m1, m2, h1, h2, hc.1, hc.2, h⟩
      · cases h

/-- what write finds: the map of texts lies in a block of its own from w0 on -/
structure WrC (w0 : World) (pm : Nat) (m : List (Nat × List UInt8)) (wr : World) : Prop where
  below : Below w0.heap.size w0 wr
  mb : MapAt encNat encT wr pm (asc m)
  pml : w0.heap.size ≤ pm
/-- blocks of cells stay -/
def CellsStay (w w' : World) : Prop := w.heap.size ≤ w'.heap.size ∧ ∀ (k : Nat) (c : Array Value) (t : TypeId) (f : Nat × Nat), w.heap[k]? = some (.cells c t f) → w'.heap[k]? = some (.cells c t f)
theorem CellsStay.refl (w : World) : CellsStay w w := ⟨Nat.le_refl _, fun _ _ _ _ h => h⟩
theorem CellsStay.trans {a b c : World} (h : CellsStay a b) (k : CellsStay b c) : CellsStay a c := ⟨Nat.le_trans h.1 k.1, fun i x t f hi => k.2 i x t f (h.2 i x t f hi)⟩
theorem CellsStay.of_below {w w' : World} (h : Below w.heap.size w w') : CellsStay w w' := ⟨h.size, fun k c t f hk => (h.block k (Array.getElem?_eq_some_iff.1 hk).1).trans hk⟩
theorem WrC.on {w0 wr w' : World} {pm : Nat} {m : List (Nat × List UInt8)} (h : WrC w0 pm m wr) (hb : Below wr.heap.size wr w') : WrC w0 pm m w' where
  below := h.below.trans (hb.mono h.below.size)
  mb := h.mb.same (hb.block _ h.mb.lt)
  pml := h.pml
theorem WrC.put {w0 wr : World} {pm : Nat} {m : List (Nat × List UInt8)} (h : WrC w0 pm m wr) (a : Nat) (t : List UInt8) :
    (Instr.mapUpdate 72 (.map (some pm)) (.int .i64 a) (.string ⟨t.toArray⟩)).run Tryd.prog wr = .ok () (putMap 3 Tryd.prog wr pm (encNat a) (encT t)) ∧ WrC w0 pm ((a, t) :: m) (putMap 3 Tryd.prog wr pm (encNat a) (encT t)) ∧ CellsStay wr (putMap 3 Tryd.prog wr pm (encNat a) (encT t)) := by
  obtain ⟨h1, h2⟩ := h.mb.put natLaw (T := 72) Tryd.underlying72 a t
  obtain ⟨p1, p2, p3, _⟩ := putMap_rest (P := Tryd.prog) 3 wr pm (encNat a) (encT t)
  have hpl := h.pml
  refine ⟨h1, ⟨⟨p1.trans h.below.os, p2.trans h.below.tape, p3.trans h.below.output, by rw [putMap_size]; exact h.below.size, fun k hk => (putMap_other _ _ _ _ _ k (by omega)).trans (h.below.block k hk)⟩, by rw [asc_cons]; exact h2, hpl⟩, by rw [putMap_size]; exact Nat.le_refl _, fun k c t f hk => ?_⟩
  refine (putMap_other _ _ _ _ _ k ?_).trans hk
  intro e
  obtain ⟨L, cl, hb, _⟩ := h.mb
  rw [e, hb] at hk; simp at hk
theorem zeroStr : ∀ w, (zeroValue 9).run Tryd.prog w = .ok (.string ⟨#[]⟩) w := fun w => by kernel_rfl
theorem WrC.look {w0 wr : World} {pm : Nat} {m : List (Nat × List UInt8)} (h : WrC w0 pm m wr) (a : Nat) :
    (Instr.lookup 72 (.map (some pm)) (.int .i64 a) true).run Tryd.prog wr = .ok (.tuple #[((asc m a).map encT).getD (.string ⟨#[]⟩), .bool (asc m a).isSome]) wr :=
  h.mb.look natLaw (T := 72) Tryd.underlying72 _ zeroStr a
theorem WrC.look1 {w0 wr : World} {pm : Nat} {m : List (Nat × List UInt8)} (h : WrC w0 pm m wr) (a : Nat) :
    (Instr.lookup 72 (.map (some pm)) (.int .i64 a) false).run Tryd.prog wr = .ok (.string ⟨(ascT m a).toArray⟩) wr := by
  have h1 := h.mb.look1 natLaw (T := 72) Tryd.underlying72 _ zeroStr a
  have h2 : ((asc m a).map encT).getD (.string ⟨#[]⟩) = .string ⟨(ascT m a).toArray⟩ := by
    unfold ascT
    cases asc m a <;> rfl
  rw [h2] at h1
  exact h1
def WrLaw (s : St) (w0 : World) (pm : Nat) (sb : Nat) (g : Nat → List (Nat × List UInt8) → Option (List (Nat × List UInt8))) : Prop := ∀ (a : Nat) (m m' : List (Nat × List UInt8)) (wr : World), WrC w0 pm m wr → g a m = some m' →
  Calls Tryd.prog 37 #[.pointer (some ⟨sb, 0, none⟩), .int .i64 a, .map (some pm)] wr fun e w' => e = .returned (.bool true) ∧ WrC w0 pm m' w' ∧ CellsStay wr w'

/-- a row of bytes of the call's own, or a constant's, which is full -/
def OwnT (w : World) (base : Nat) (v : Value) (n : Nat) (l : List UInt8) : Prop :=
  w.ownsRow base 5 1 v n (Lib.byteCells l) ∨ ∃ g cur fz, v = .slice (some ⟨g, 0, none⟩) n n ∧ base ≤ g ∧ w.heap[g]? = some (.cells cur 5 fz) ∧ cur.toList = Lib.byteCells l ∧ l.length = n
theorem OwnT.same {w w' : World} {base n : Nat} {v : Value} {l : List UInt8} (h : OwnT w base v n l) (hs : ∀ k, v.ownBlock = some k → w'.heap[k]? = w.heap[k]?) : OwnT w' base v n l := by
  rcases h with h | ⟨g, cur, fz, rfl, h1, h2, h3, h4⟩
  · exact .inl (ownsRow_same h hs)
  · exact .inr ⟨g, cur, fz, rfl, h1, (hs g rfl).trans h2, h3, h4⟩
theorem OwnT.lt {w : World} {base n : Nat} {v : Value} {l : List UInt8} (h : OwnT w base v n l) {k : Nat} (hk : v.ownBlock = some k) : base ≤ k ∧ k < w.heap.size := by
  rcases h with h | ⟨g, cur, fz, rfl, h1, h2, h3, h4⟩
  · exact ⟨own_ge h hk, (own_lt h hk).1⟩
  · simp [Value.ownBlock] at hk
    subst hk
    exact ⟨h1, (Array.getElem?_eq_some_iff.1 h2).1⟩
theorem run_append_T {w : World} {base n : Nat} {v : Value} {l : List UInt8} (h : OwnT w base v n l) (s : List UInt8) (h0 : 0 < s.length) (hb : n + s.length ≤ 8388608) (hbase : base ≤ w.heap.size) (ty : TypeId) :
    ∃ v' w', (Builtin.append_ #[92, 9] ty #[v, .string ⟨s.toArray⟩]).run Tryd.prog w = .ok v' w' ∧ w'.ownsRow base 5 1 v' (n + s.length) (Lib.byteCells (l ++ s)) ∧ w.grownBy w' v.ownBlock := by
  obtain ⟨i0, hi0, hz0, hz1, hz2⟩ := info_parts info_u8
  have hs : (⟨s.toArray⟩ : ByteArray).size = s.length := by simp [ByteArray.size]
  have hcells : Lib.strCells ⟨s.toArray⟩ = Lib.byteCells s := by simp [Lib.strCells, Lib.byteCells]
  have happ : Lib.byteCells (l ++ s) = Lib.byteCells l ++ Lib.byteCells s := by simp [Lib.byteCells]
  rcases h with h | ⟨g, cur, fz, rfl, h1, h2, h3, h4⟩
  · obtain ⟨v', w', r1, r2, r3, _⟩ := Lib.run_append_own_string (P := Tryd.prog) w base 92 9 ty 5 i0 Tryd.underlying92 Tryd.underlying9 hi0 hz0 hz1 hz2 v n _ h ⟨s.toArray⟩ (by rw [hs]; unfold maxLen; omega) (by rw [hs]; omega) hbase
    rw [hs, hcells] at r2
    exact ⟨v', w', r1, by rw [happ]; exact r2, r3⟩
  · have hxl : (Lib.byteCells l).length = n := by simp [Lib.byteCells, h4]
    have holds : ∀ j u, (Lib.byteCells l)[j]? = some u → w.cell? ((⟨g, 0, none⟩ : Addr).add j) = some u := fun j u hj => World.news_of_block h2 j u (by rw [h3]; exact hj)
    have hr := Lib.run_append_grow_string (P := Tryd.prog) w 92 9 ty 5 i0 (.int .u8 0) Tryd.underlying92 Tryd.underlying9 hi0 hz0 ⟨g, 0, none⟩ n n (Lib.byteCells l) (by rw [hz1]; simpa using hxl) holds ⟨s.toArray⟩ (by rw [hs]; omega) (by rw [hs]; omega) (by rw [hz2]; exact growslice_fits (by rw [hs]; omega) (by rw [hs]; omega))
    have hge := grownCap_ge w (n + (⟨s.toArray⟩ : ByteArray).size) n 5
    have hcm2 : grownCap w (n + (⟨s.toArray⟩ : ByteArray).size) n 5 ≤ maxLen := grownCap_le_maxLen w (n + (⟨s.toArray⟩ : ByteArray).size) n 5 (by rw [hs]; unfold maxLen; omega)
    rw [hs] at hge hcm2
    rw [hs] at hr
    refine ⟨_, _, hr, ⟨by simp [Lib.byteCells, h4], .inr ⟨w.heap.size, _, _, rfl, hbase, heap_alloc_new w.drew _, hge, hcm2, ?_, ?_⟩⟩, ⟨rfl, rfl, rfl, by simp, fun k hk _ => Below.heap_alloc w.drew _ k hk⟩⟩
    · have hz1 : (Value.int IntKind.u8 0).cells.size = 1 := rfl
      simp only [Array.size_append, List.size_toArray, size_zeroCells, hz1, hxl, Lib.strCells_length, hs]
      omega
    · simp only [Array.toList_append, List.append_assoc]
      rw [← List.append_assoc, hcells, happ, Nat.mul_one]
      have hll : (Lib.byteCells l ++ Lib.byteCells s).length = n + s.length := by simp [Lib.byteCells, h4]
      rw [← hll]
      exact List.take_left
section
variable {P : Program} {w : World}
/-- 'append(b, s...)', s a string, at a step of a region that draws its order -/
theorem step_append_str {ops : Array Oper} {o : Oper} {a : Act} {K : Act → World → Prop} {Q : Exit → Act → World → Prop} {E : Prop} (hgd : o.guard = none) (sl x : Operand) (t u : TypeId)
    (ho : o.op = .call { callee := .builtin .append, args := #[sl, x], argTypes := #[t, u] })
    (base : Nat) (e : TypeId) (i : TypeInfo) (ht : P.underlying t = some (.slice e)) (hu : P.underlying u = some .string) (hi : P.info? e = some i) (hz : i.zero = some (.int .u8 0))
    (hsize : i.size = 1) (hby : i.bytes = 1)
    (v : Value) (n : Nat) (xs : List Value) (hs : a.eval sl = v) (hown : w.ownsRow base e 1 v n xs) (s : ByteArray) (hx : a.eval x = .string s)
    (h63 : n + s.size ≤ maxLen) (hbytes : n + s.size ≤ 140737488355328) (hbase : base ≤ w.heap.size)
    (h : ∀ v' w', w'.ownsRow base e 1 v' (n + s.size) (xs ++ Lib.strCells s) → w.grownBy w' v.ownBlock → (v' = .slice none 0 0 ↔ v = .slice none 0 0 ∧ s.size = 0) → K (a.put o.dst v') w') :
    if Region.wanted o (yielded ops a.tmps) = true then Oper.wp P o a w K Q else E := by
  have hw : Region.wanted o (yielded ops a.tmps) = true := by simp [Region.wanted, hgd]
  rw [if_pos hw]
  obtain ⟨v', w', hr, h2, h3, h4⟩ := Lib.run_append_own_string (P := P) w base t u o.type e i ht hu hi hz hsize hby v n xs hown s h63 hbytes hbase
  unfold Oper.wp execOp
  simp only [ho, resolve, invoke, builtin, Sem.run_bind, Sem.run_pure, Result.andThen_ok, List.map_toArray, List.map_cons, List.map_nil, hs, hx, hr]
  exact h v' w' h2 h3 h4
end
theorem step_append_T {w : World} {ops : Array Oper} {o : Oper} {a : Act} {K : Act → World → Prop} {Q : Exit → Act → World → Prop} {E : Prop} (hgd : o.guard = none) (sl x : Operand)
    (ho : o.op = .call { callee := .builtin .append, args := #[sl, x], argTypes := #[92, 9] })
    (base : Nat) (v : Value) (n : Nat) (l : List UInt8) (hs : a.eval sl = v) (hown : OwnT w base v n l) (s : List UInt8) (hx : a.eval x = .string ⟨s.toArray⟩)
    (h0 : 0 < s.length) (hb : n + s.length ≤ 8388608) (hbase : base ≤ w.heap.size)
    (h : ∀ v' w', w'.ownsRow base 5 1 v' (n + s.length) (Lib.byteCells (l ++ s)) → w.grownBy w' v.ownBlock → K (a.put o.dst v') w') :
    if Region.wanted o (yielded ops a.tmps) = true then Oper.wp Tryd.prog o a w K Q else E := by
  have hw : Region.wanted o (yielded ops a.tmps) = true := by simp [Region.wanted, hgd]
  rw [if_pos hw]
  obtain ⟨v', w', hr, h2, h3⟩ := run_append_T hown s h0 hb hbase o.type
  unfold Oper.wp execOp
  simp only [ho, resolve, invoke, builtin, Sem.run_bind, Sem.run_pure, Result.andThen_ok, List.map_toArray, List.map_cons, List.map_nil, hs, hx, hr]
  exact h v' w' h2 h3
theorem wpList_append_T {w : World} {ops : Array Oper} {rest : List Oper} {o : Oper} {a : Act} {Q : Exit → Act → World → Prop} (hgd : o.guard = none) (sl x : Operand)
    (ho : o.op = .call { callee := .builtin .append, args := #[sl, x], argTypes := #[92, 9] })
    (base : Nat) (v : Value) (n : Nat) (l : List UInt8) (hs : a.eval sl = v) (hown : OwnT w base v n l) (s : List UInt8) (hx : a.eval x = .string ⟨s.toArray⟩)
    (h0 : 0 < s.length) (hb : n + s.length ≤ 8388608) (hbase : base ≤ w.heap.size)
    (h : ∀ v' w', w'.ownsRow base 5 1 v' (n + s.length) (Lib.byteCells (l ++ s)) → w.grownBy w' v.ownBlock → wpList Tryd.prog ops Q rest (a.put o.dst v') w') : wpList Tryd.prog ops Q (o :: rest) a w := by
  refine wpList_plain hgd fun K hK => ?_
  obtain ⟨v', w', hr, h2, h3⟩ := run_append_T hown s h0 hb hbase o.type
  unfold Oper.wp execOp
  simp only [ho, resolve, invoke, builtin, Sem.run_bind, Sem.run_pure, Result.andThen_ok, List.map_toArray, List.map_cons, List.map_nil, hs, hx, hr]
  exact hK _ _ (h v' w' h2 h3)
end Go.Proofs.YtgphkbnoflfneaaDoor

namespace Go.Proofs.YtgphkbnoflfneaaDoor
open Go Go.RowKit Go.Shelf

theorem itoa_below (B : Nat) {w w' : World} (h : ∃ k os, w' = Go.Sort.grow (w.drewN k) os) (hB : B ≤ w.heap.size) : Below B w w' := by
  obtain ⟨k, os, rfl⟩ := h
  exact Lib.below_grow B w hB k os

set_option maxRecDepth 100000 in
set_option maxHeartbeats 4000000 in
theorem write_hit {s : St} {w0 : World} {pm sb a : Nat} {m : List (Nat × List UInt8)} {wr : World} {t : List UInt8} (hC : WrC w0 pm m wr) (ht : asc m a = some t) :
    Calls Tryd.prog 37 #[.pointer (some ⟨sb, 0, none⟩), .int .i64 a, .map (some pm)] wr fun e w' => e = .returned (.bool true) ∧ WrC w0 pm m w' ∧ CellsStay wr w' := by
  have hlk := hC.look a
  rw [ht] at hlk
  have hlk2 : (Instr.lookup 72 (.map (some pm)) (.int .i64 a) true).run Tryd.prog wr = .ok (.tuple #[.string ⟨t.toArray⟩, .bool true]) wr := hlk
  clear hlk
  replace ht := Lib.hid ht
  go_enter Tryd.func37, Tryd.ntmps37
  go_wp2_with fail
  go_ret
  exact ⟨rfl, hC, CellsStay.refl _⟩

set_option maxRecDepth 100000 in
set_option maxHeartbeats 4000000 in
theorem write_leaf {B : Blks} {s : St} {w0 : World} {pm a : Nat} {m : List (Nat × List UInt8)} {wr : World} {n : SNode} (h : Rep B s w0) (hC : WrC w0 pm m wr) (hm : asc m a = none) (hn : s.nodes[a]? = some n) (hel : n.el = []) :
    Calls Tryd.prog 37 #[.pointer (some ⟨B.sb, 0, none⟩), .int .i64 a, .map (some pm)] wr fun e w' => e = .returned (.bool true) ∧ WrC w0 pm ((a, if n.lit ≠ 0 then Lib.itoa n.lit else if a = 1 then [84] else [70]) :: m) w' ∧ CellsStay wr w' := by
  have hlk := hC.look a
  rw [hm] at hlk
  have hlk2 : (Instr.lookup 72 (.map (some pm)) (.int .i64 a) true).run Tryd.prog wr = .ok (.tuple #[.string ⟨#[]⟩, .bool false]) wr := hlk
  clear hlk
  have hR := h.below hC.below
  obtain ⟨cap, _, _, cn, _⟩ := hR.cells
  obtain ⟨v, hv, _, n0, n1, n2, n3, n4⟩ := hR.node hn
  obtain ⟨ba, cp, rfl, _⟩ := hv
  have hsm := h.small.2 n (List.mem_of_getElem? hn)
  obtain ⟨_, _, hs3, hs4, _⟩ := hsm
  have hns := h.small.1
  have hai : a < s.nodes.length := (List.getElem?_eq_some_iff.1 hn).1
  have ga0 : (0 : Int) ≤ a := by omega
  have ga1 : (a : Int) < s.nodes.length := by omega
  have hl0 : n.el.length = 0 := by rw [hel]; rfl
  rw [hl0] at n2
  have hx1 : Ext wr (wr.alloc (.cells #[.int .i64 n.pl, .int .i64 n.lit, .slice ba 0 cp, .int .u64 (lo n.le), .int .u64 (hi n.le)] 59)) := (Ext.refl wr).alloc _
  have hz1 := heap_alloc_new wr (.cells #[.int .i64 n.pl, .int .i64 n.lit, .slice ba 0 cp, .int .u64 (lo n.le), .int .u64 (hi n.le)] 59)
  have hC1 := hC.on hx1.below
  have hP1 := hR.pow.below hx1.below
  replace hR := Lib.hid hR
  replace hm := Lib.hid hm
  replace hn := Lib.hid hn
  replace hel := Lib.hid hel
  replace hl0 := Lib.hid hl0
  by_cases hl : n.lit = 0
  · have d0 : ((n.lit : Int) != 0) = false := by simp [hl]
    by_cases ha : a = 1
    · have hres : Hid ((if n.lit ≠ 0 then Lib.itoa n.lit else if a = 1 then [84] else [70]) = [84]) := Lib.hid (by simp [hl, ha])
      rw [hres.out]
      have d1 : ((a : Int) == 1) = true := by simp; omega
      replace ha := Lib.hid ha
      replace hl := Lib.hid hl
      obtain ⟨hpt, hC2, hS2⟩ := hC1.put a [84]
      replace hC1 := Lib.hid hC1
      have hS1 := CellsStay.of_below hx1.below
      obtain ⟨c0, c1, c2, c3, c4, _⟩ := cells5 hz1
      clear hz1
      go_enter Tryd.func37, Tryd.ntmps37
      go_wp2_with fail
      go_ret
      exact ⟨rfl, hC2, hS1.trans hS2⟩
    · have hres : Hid ((if n.lit ≠ 0 then Lib.itoa n.lit else if a = 1 then [84] else [70]) = [70]) := Lib.hid (by simp [hl, ha])
      rw [hres.out]
      have d1 : ((a : Int) == 1) = false := by simp; omega
      replace ha := Lib.hid ha
      replace hl := Lib.hid hl
      obtain ⟨hpt, hC2, hS2⟩ := hC1.put a [70]
      replace hC1 := Lib.hid hC1
      have hS1 := CellsStay.of_below hx1.below
      obtain ⟨c0, c1, c2, c3, c4, _⟩ := cells5 hz1
      clear hz1
      go_enter Tryd.func37, Tryd.ntmps37
      go_wp2_with fail
      go_ret
      exact ⟨rfl, hC2, hS1.trans hS2⟩
  · have hres : Hid ((if n.lit ≠ 0 then Lib.itoa n.lit else if a = 1 then [84] else [70]) = Lib.itoa n.lit) := Lib.hid (by simp [hl])
    rw [hres.out]
    have d0 : ((n.lit : Int) != 0) = true := by simpa using hl
    replace hl := Lib.hid hl
    have hit1 := Tryd.strconv_Itoa n.lit (by omega) (by omega) _ hP1
    have hS1 := CellsStay.of_below hx1.below
    obtain ⟨c0, c1, c2, c3, c4, _⟩ := cells5 hz1
    clear hz1
    replace hC1 := Lib.hid hC1
    replace hP1 := Lib.hid hP1
    go_enter Tryd.func37, Tryd.ntmps37
    go_wp2_with fail
    generalize wr.alloc (.cells #[.int .i64 n.pl, .int .i64 n.lit, .slice ba 0 cp, .int .u64 (lo n.le), .int .u64 (hi n.le)] 59) = w1 at *
    refine hit1.mono ?_
    rintro e w2 ⟨rfl, hw2⟩
    have hb2 := itoa_below w1.heap.size hw2 (Nat.le_refl _)
    clear hw2
    obtain ⟨hpt, hC2, hS2⟩ := (hC1.out.on hb2).put a (Lib.itoa n.lit)
    go_wp2_with fail
    go_ret
    exact ⟨rfl, hC2, (hS1.trans (CellsStay.of_below hb2)).trans hS2⟩
end Go.Proofs.YtgphkbnoflfneaaDoor

