import Derived.Test.YtgphkbnoflfneaaGreatDoorCanon
import Derived.Test.YtgphkbnoflfneaaGreatDoorLaw5
import Derived.ChangeKeysEq
set_option linter.unusedSimpArgs false
set_option linter.unusedVariables false
namespace Go.Proofs.YtgphkbnoflfneaaGreatDoor
open Go Go.RowKit Go.Shelf

/-! Elements, sets below places, least assignments. -/
/-- a row of pairs, new from n on -/
def NewP (n : Nat) (w : World) (ba : Option Addr) (l : List (Nat × Nat)) : Prop := l = [] ∨ ∃ g cs, ba = some ⟨g, 0, none⟩ ∧ n ≤ g ∧ w.heap[g]? = some (.cells cs tPair (0, 0)) ∧ ∀ j u, (flatP l)[j]? = some u → cs[0 + j]? = some u
theorem clone_pairs_nil (w : World) : Calls Tryz.prog 26 #[.slice none 0 0] w fun e w' => e = .returned (.slice none 0 0) ∧ w = w' := by
  refine (AnyE.slices_Clone_nil Tryz.clonePair 0 0 w).mono ?_
  rintro e w' ⟨rfl, rfl⟩
  exact ⟨rfl, rfl⟩
theorem elAt_clone {w : World} {v : Value} {l : List (Nat × Nat)} (h : ElAt w v l) (hl : l.length ≤ 1048576) : Calls Tryz.prog 26 #[v] w fun e w' => ∃ ba cap, e = .returned (.slice ba l.length cap) ∧ NewP w.heap.size w' ba l ∧ Below w.heap.size w w' := by
  obtain ⟨ba, c, rfl, ⟨rfl, rfl, rfl⟩ | ⟨b, o, rfl, hr⟩⟩ := h
  · refine (clone_pairs_nil w).mono ?_
    rintro e w' ⟨rfl, rfl⟩
    exact ⟨none, 0, rfl, .inl rfl, Below.refl _ _⟩
  · refine (clone_pairs w b o c l hr hl).mono ?_
    rintro e w' ⟨g, cap, cs, rfl, h1, h2, h3, h4⟩
    exact ⟨_, cap, rfl, .inr ⟨g, cs, rfl, h1, h2, h3⟩, h4⟩
set_option maxRecDepth 100000 in
set_option maxHeartbeats 1000000 in
theorem elements_any {B : Blks} {s : St} {w : World} {a : Nat} {n : SNode} (h : Rep B s w) (ht : s.tree ≠ []) (hn : s.nodes[a]? = some n) :
    Calls Tryz.prog 9 #[.pointer (some ⟨B.sb, 0, none⟩), .int .i64 a] w fun e w' => ∃ ba cap, e = .returned (.tuple #[.slice ba n.el.length cap, .int .i64 0]) ∧ NewP w.heap.size w' ba n.el ∧ Below w.heap.size w w' := by
  have ha : a < s.nodes.length := (List.getElem?_eq_some_iff.1 hn).1
  have hch : chkF s.nodes.length [(a : Int)] = 0 := by simp [chkF, ha]
  have hns := h.small.1
  have hel : n.el.length ≤ 1048576 := (h.small.2 n (List.mem_of_getElem? hn)).2.2.2.2.1
  replace hch := Lib.hid hch
  have hx1 := (Ext.refl w).alloc (.cells #[.int .i64 a] 3)
  have hz1 := heap_alloc_new w (.cells #[.int .i64 a] 3)
  go_enter Tryz.func9, Tryz.ntmps9
  go_wp2_with fail
  generalize w.alloc (.cells #[.int .i64 a] 3) = w1 at *
  have hR1 := h.below hx1.below
  have hq := sck_any hR1 ht (slI_one hz1) (by simp)
  rw [hch.out] at hq
  clear hz1
  obtain ⟨cap, _, _, cn, _⟩ := hR1.cells
  obtain ⟨v, hv, _, n0, n1, n2, _⟩ := hR1.node hn
  have hq2 := elAt_clone hv hel
  replace hR1 := Lib.hid hR1
  replace hv := Lib.hid hv
  clear h
  refine hq.mono ?_
  rintro e w2 ⟨rfl, rfl⟩
  have d0 : decide ((a : Int) < s.nodes.length) = true := decide_eq_true (by omega)
  have d1 : decide (0 ≤ (a : Int)) = true := decide_eq_true (by omega)
  clear hq
  go_wp2_with fail
  refine hq2.mono ?_
  rintro e w3 ⟨ba, cp, rfl, hP, hb3⟩
  replace hP := Lib.hid hP
  go_wp2_with fail
  go_ret2
  refine ⟨ba, cp, rfl, ?_, hx1.below.trans (hb3.mono hx1.size)⟩
  rcases hP.out with e | ⟨g, cs, e1, e2, e3⟩
  · exact .inl e
  · exact .inr ⟨g, cs, e1, Nat.le_trans hx1.size e2, e3⟩
theorem elements_v {t : List VN} {B0 : Blks} {w0 w : World} {k a : Nat} {s : St} {n : SNode} (h : SS t B0 w0 k s w) (hn : s.nodes[a]? = some n) :
    Calls Tryz.prog 9 #[.pointer (some ⟨B0.sb, 0, none⟩), .int .i64 a] w fun e w' => ∃ ba cap, e = .returned (.tuple #[.slice ba n.el.length cap, .int .i64 0]) ∧ NewP w.heap.size w' ba n.el ∧ Below w.heap.size w w' := by
  obtain ⟨B, hR, hS⟩ := h.held
  rw [← hS.sb]
  exact elements_any hR h.ne hn
theorem at_v {t : List VN} {B0 : Blks} {w0 w : World} {k a : Nat} {s : St} {n : SNode} (h : SS t B0 w0 k s w) (hn : s.nodes[a]? = some n) :
    Calls Tryz.prog 10 #[.pointer (some ⟨B0.sb, 0, none⟩), .int .i64 a] w fun e w' => e = .returned (.tuple #[.int .i64 n.pl, .int .i64 0]) ∧ Below w.heap.size w w' := by
  obtain ⟨B, hR, hS⟩ := h.held
  rw [← hS.sb]
  exact at_any hR h.ne hn
theorem size_v {t : List VN} {B0 : Blks} {w0 w : World} {k a : Nat} {s : St} (h : SS t B0 w0 k s w) (ha : a < s.nodes.length) :
    Calls Tryz.prog 13 #[.pointer (some ⟨B0.sb, 0, none⟩), .int .i64 a] w fun e w' => ∃ o : List Nat, (o.Nodup ∧ ∀ b, b ∈ o ↔ L.Reach s.nodes a b) ∧ e = .returned (.tuple #[.int .i64 (sumEl s.nodes o), .int .i64 0]) ∧ Below w.heap.size w w' := by
  obtain ⟨B, hR, hS⟩ := h.held
  have h0 := h.pos
  have hf := h.few
  have hlen := h.room.len
  obtain ⟨o, e, g1, g2⟩ := L.sizeF_spec h.inv (by omega) ha (v := s.tree.length - 1) (by rw [h.tree]; omega) (dep_root h.inv ha) (f := 14) (by rw [h.tree]; omega)
  rw [← hS.sb]
  refine (size_any hR h.ne ha e).mono ?_
  rintro e w' ⟨rfl, hb⟩
  exact ⟨o, ⟨g1, g2⟩, rfl, hb⟩
/-- is a a part of b? -/
def subS (a b : VSet) : Bool := decide (a &&& ~~~b = 0)
theorem subS_iff (a b : VSet) : subS a b = true ↔ ∀ u, hasS a u = true → hasS b u = true := by
  unfold subS
  rw [decide_eq_true_iff]
  constructor
  · intro h u hu
    obtain ⟨u1, u2⟩ := L.hasS_range hu
    obtain ⟨i, hi, rfl⟩ : ∃ i : Nat, i < 128 ∧ u = (i : Int) + 1 := ⟨(u - 1).toNat, by omega, by omega⟩
    rw [L.hasS_bit _ _ hi] at hu ⊢
    have := congrArg (fun x : VSet => x.getLsbD i) h
    simp only [BitVec.getLsbD_and, BitVec.getLsbD_not, hi, decide_true, Bool.true_and, hu, BitVec.getLsbD_zero] at this
    simpa using this
  · intro h
    refine L.set_ext fun i hi => ?_
    have e0 : (0 : VSet).getLsbD i = false := BitVec.getLsbD_zero
    rw [e0, BitVec.getLsbD_and, BitVec.getLsbD_not]
    have := h ((i : Int) + 1)
    rw [L.hasS_bit _ _ hi, L.hasS_bit _ _ hi] at this
    cases ha : a.getLsbD i
    · rfl
    · rw [this ha]; simp
theorem lohi_zero (a : VSet) : (decide (lo a = 0) && decide (hi a = 0)) = decide (a = 0) := by
  rw [Bool.eq_iff_iff]
  simp only [Bool.and_eq_true, decide_eq_true_eq]
  constructor
  · rintro ⟨h1, h2⟩
    refine L.set_ext fun i hi => ?_
    have e0 : (0 : VSet).getLsbD i = false := BitVec.getLsbD_zero
    rw [e0]
    have z1 : a.setWidth 64 = 0 := by
      apply BitVec.eq_of_toNat_eq
      have h3 : (((a.setWidth 64).toNat : Nat) : Int) = 0 := h1
      show (a.setWidth 64).toNat = 0
      omega
    have z2 : (a >>> 64).setWidth 64 = 0 := by
      apply BitVec.eq_of_toNat_eq
      have h3 : ((((a >>> 64).setWidth 64).toNat : Nat) : Int) = 0 := h2
      show ((a >>> 64).setWidth 64).toNat = 0
      omega
    by_cases h64 : i < 64
    · have := congrArg (fun x : BitVec 64 => x.getLsbD i) z1
      simpa [BitVec.getLsbD_setWidth, h64] using this
    · have := congrArg (fun x : BitVec 64 => x.getLsbD (i - 64)) z2
      simp only [BitVec.getLsbD_setWidth, BitVec.getLsbD_ushiftRight] at this
      rw [show 64 + (i - 64) = i by omega] at this
      simpa [show i - 64 < 64 by omega] using this
  · rintro rfl; exact ⟨by rfl, by rfl⟩
set_option maxRecDepth 100000 in
theorem setEq (x y a b : Int) (w : World) : (Op.equalIn 10000 55 (.agg #[.int .u64 x, .int .u64 y]) (.agg #[.int .u64 a, .int .u64 b])).run Tryz.prog w = .ok (decide (x = a) && decide (y = b)) w := by
  obtain ⟨i0, hi0, _, _, _⟩ := info_parts (show (Tryz.prog.info? 53).map (fun i => (i.zero, i.size, i.bytes)) = some (some (.int .u64 0), 1, 8) by kernel_rfl)
  rw [run_equalIn_array w 9999 _ _ Tryz.underlying55 hi0]
  have hc : Tryz.prog.cellsOf 53 = 1 := by kernel_rfl
  rw [hc, show List.range 2 = [0, 1] from rfl]
  simp [Op.eqItems, go_sem, Tryz.underlying53]
  by_cases h1 : x = a <;> by_cases h2 : y = b <;> simp [h1, h2]
set_option maxRecDepth 100000 in
set_option maxHeartbeats 1000000 in
theorem varsSub_any (a b : VSet) (w : World) : Calls Tryz.prog 28 #[encS a, encS b] w fun e w' => e = .returned (.bool (subS a b)) ∧ Ext w w' := by
  have hz := lohi_zero (a &&& ~~~b)
  have hq := fun w => minus_any a b w
  unfold encS at hq ⊢
  unfold subS
  rw [← hz]
  clear hz
  have hx := ((Ext.refl w).alloc (.cells #[.int .u64 (lo a), .int .u64 (hi a)] 55)).alloc (.cells #[.int .u64 (lo b), .int .u64 (hi b)] 55)
  go_enter Tryz.func28, Tryz.ntmps28
  go_wp2_with fail
  refine (hq _).mono ?_
  rintro e w1 ⟨rfl, hx1⟩
  generalize hx0 : lo (a &&& ~~~b) = x at *
  generalize hx1' : hi (a &&& ~~~b) = y at *
  have hse := setEq x y 0 0
  go_wp2_with fail
  go_ret
  exact ⟨by rw [hx0, hx1'] <;> rfl, hx.trans hx1⟩
/-- the set with a variable, as the reference makes it -/
def withR (s : VSet) (v : Int) : VSet := ofS (listV s ++ [v])
set_option maxRecDepth 100000 in
set_option maxHeartbeats 2000000 in
theorem refWith_any (s : VSet) (v : Int) (w : World) : Calls Tryz.prog 51 #[encS s, .int .i64 v] w fun e w' => e = .returned (encS (withR s v)) ∧ Below w.heap.size w w' := by
  obtain ⟨i0, hi0, hz0, hz1, hz2⟩ := info_parts int_info
  have hq := fun w => refList_any s w
  have hlen := listVK_len s 128
  have hll : (listV s).length ≤ 128 := hlen
  unfold withR
  unfold encS at hq ⊢
  have hb1 := (Below.refl w.heap.size w).alloc (Nat.le_refl _) (.cells #[.int .u64 (lo s), .int .u64 (hi s)] 55)
  have hs1 : (w.alloc (.cells #[.int .u64 (lo s), .int .u64 (hi s)] 55)).heap.size = w.heap.size + 1 := by simp
  go_enter Tryz.func51, Tryz.ntmps51
  go_wp2_with fail
  generalize w.alloc (.cells #[.int .u64 (lo s), .int .u64 (hi s)] 55) = w1 at *
  have hbox := heap_alloc_new w1 (.cells #[.int .u64 0, .int .u64 0] 55)
  have hb2 := hb1.alloc hb1.size (.cells #[.int .u64 0, .int .u64 0] 55)
  have hs2 : (w1.alloc (.cells #[.int .u64 0, .int .u64 0] 55)).heap.size = w1.heap.size + 1 := by simp
  generalize w1.alloc (.cells #[.int .u64 0, .int .u64 0] 55) = w2 at *
  replace hs1 := Lib.hid hs1
  replace hs2 := Lib.hid hs2
  refine (hq w2).mono ?_
  rintro e w3 ⟨vl, rfl, ho3, hb3⟩
  have hB3 := hb2.trans (hb3.mono hb2.size)
  have hz3 := (hb3.block w1.heap.size (by have := hs2.out; omega)).trans hbox
  have hs3 := hb3.size
  clear hq hbox hb1 hb2
  go_wp2_with (at_builtin; refine wpList_append_own _ rfl _ _ 33 rfl w2.heap.size 3 i0 (.int .i64 0) 1 8 Tryz.underlying33 hi0 hz0 hz1 hz2 rfl (by decide) _ _ _ rfl (ho3.alloc _) ⟨w3.heap.size, 0, none⟩ 1 1 [.int .i64 v] rfl rfl (cell_one_at _ _ _ _ rfl) (by simp [Value.oneCell']) (by unfold maxLen; omega) (by omega) (by simp; omega) ?_; intro v4 w4 ho4 hg4 _)
  have hB4 := Below.grown (Below.alloc hB3 hB3.size (.cells #[.int .i64 v] 3)) hg4 (by simp; have := hB3.size; omega) (fun k e => Nat.le_trans (by have := hs1.out; have := hs2.out; omega) (own_ge ho3 e))
  have hz4 : w4.heap[w1.heap.size]? = _ := (hg4.block _ (by have := hs2.out; simp; omega) (fun e => by have := own_ge ho3 e.symm; have := hs2.out; omega)).trans ((Below.heap_alloc _ _ _ (by have := hs2.out; omega)).trans hz3)
  have hlen4 : (listV s ++ [v]).length = (listV s).length + 1 := by simp
  have hsl : SlI w4 v4 (listV s ++ [v]) := owns_slI (base := w2.heap.size) (own_cast ho4 (by simp) (by simp [encZ]))
  have hof := refOf_any (listV s ++ [v]) _ w4 hsl (by rw [hlen4]; omega)
  unfold encS at hof
  clear hsl ho4 hg4 hz3 hB3 ho3
  refine hof.mono ?_
  rintro e w5 ⟨rfl, hb5⟩
  have hB5 := hB4.trans (hb5.mono hB4.size)
  have hz5 := (hb5.block w1.heap.size ((Array.getElem?_eq_some_iff.1 hz4).1)).trans hz4
  generalize hR : ofS (listV s ++ [v]) = R at *
  have hBo : Below w.heap.size w ((w5.setCell ⟨w1.heap.size, 0, none⟩ (.int .u64 (lo R))).setCell ⟨w1.heap.size, 1, none⟩ (.int .u64 (hi R))) := (hB5.setCell (by show _ ≤ w1.heap.size; have := hs1.out; omega) _).setCell (by show _ ≤ w1.heap.size; have := hs1.out; omega) _
  obtain ⟨z0, z1⟩ := pbox_cells hz5
  have y0 : w5.frozen? ⟨w1.heap.size, 0, none⟩ = false := by simp [World.frozen?, hz5]
  have y1 : w5.frozen? ⟨w1.heap.size, 1, none⟩ = false := by simp [World.frozen?, hz5]
  have r0 : ((w5.setCell ⟨w1.heap.size, 0, none⟩ (.int .u64 (lo R))).setCell ⟨w1.heap.size, 1, none⟩ (.int .u64 (hi R))).cell? ⟨w1.heap.size, 0, none⟩ = some (.int .u64 (lo R)) := by
    rw [World.cell?, heap_set2 hz5]; rfl
  have r1 : ((w5.setCell ⟨w1.heap.size, 0, none⟩ (.int .u64 (lo R))).setCell ⟨w1.heap.size, 1, none⟩ (.int .u64 (hi R))).cell? ⟨w1.heap.size, 1, none⟩ = some (.int .u64 (hi R)) := by
    rw [World.cell?, heap_set2 hz5]; rfl
  clear hz5 hof hz4
  rw [hs1.out] at z0 z1 y0 y1 r0 r1 hBo
  generalize hx0 : lo R = x0 at *
  generalize hx1 : hi R = x1 at *
  go_wp2_with fail
  exact bodyPost_ret (v := .agg #[.int .u64 x0, .int .u64 x1]) (by simp [results, Tryz.results51, go_sem, r0, r1]) rfl ⟨by rw [hR, hx0, hx1], hBo⟩
/-- a list of nodes that is its owner's -/
def OwnN (w : World) (base : Nat) (v : Value) (l : List Nat) : Prop := w.ownsRow base 3 1 v l.length (l.map encI)
theorem OwnN.at {w : World} {base : Nat} {v : Value} {l : List Nat} (h : OwnN w base v l) : ∃ ba cp, v = .slice ba l.length cp ∧ ∀ j (hj : j < l.length), ∃ g, ba = some ⟨g, 0, none⟩ ∧ w.cell? ⟨g, j, none⟩ = some (.int .i64 (l[j] : Nat)) := by
  obtain ⟨_, ⟨rfl, e⟩ | ⟨g, cap, cur, rfl, hg, hh, hn, hm, hs, ht⟩⟩ := h
  · obtain rfl := List.length_eq_zero_iff.1 e
    exact ⟨none, 0, rfl, fun j hj => absurd hj (Nat.not_lt_zero _)⟩
  · refine ⟨_, cap, rfl, fun j hj => ⟨g, rfl, ?_⟩⟩
    have h1 : (l.map encI)[j]? = some (encI l[j]) := by rw [List.getElem?_map, List.getElem?_eq_getElem hj]; rfl
    rw [← ht, List.getElem?_take] at h1
    split at h1
    · rw [World.cell?, hh]
      simpa [encI] using h1
    · simp at h1
theorem grown_refl (w : World) (row : Option Nat) : w.grownBy w row := ⟨rfl, rfl, rfl, Nat.le_refl _, fun _ _ _ => rfl⟩
theorem grown_alloc {w w' : World} {o : Obj} {row : Option Nat} (h : (w.alloc o).grownBy w' row) : w.grownBy w' row :=
  ⟨h.os, h.tape, h.output, Nat.le_trans (by simp) h.size, fun k hk hne => (h.block k (by simp; omega) hne).trans (Below.heap_alloc _ _ _ hk)⟩
set_option maxRecDepth 100000 in
set_option maxHeartbeats 2000000 in
theorem lawWith_any {w : World} {base n : Nat} {v : Value} {l : List Nat} (ho : OwnN w base v l) (hl : l.length ≤ 1048576) (hb : base ≤ w.heap.size) :
    Calls Tryz.prog 12 #[v, .int .i64 n] w fun e w' => ∃ v', e = .returned v' ∧ OwnN w' base v' (L.withL l n) ∧ w.grownBy w' v.ownBlock := by
  obtain ⟨i0, hi0, hz0, hz1, hz2⟩ := info_parts int_info
  obtain ⟨ba, cp, hv, hc⟩ := ho.at
  have ho' : w.ownsRow base 3 1 v l.length (l.map encI) := ho
  replace ho := Lib.hid ho'
  replace hc := Lib.hid hc
  subst hv
  clear ho'
  go_enter Tryz.func12, Tryz.ntmps12
  go_wp2_with fail
  go_loopw [5] (fun i wr => ∃ k : Nat, k ≤ l.length ∧ i = .int .i64 k ∧ wr = w ∧ n ∉ l.take k) (fun i _ => l.length - (intOf i).toNat)
  case atStart => exact ⟨0, Nat.zero_le _, rfl, rfl, by simp⟩
  case round =>
    obtain ⟨k, hk, rfl, rfl, hn⟩ := hrel
    by_cases hlt : k < l.length
    · obtain ⟨g, rfl, hck⟩ := hc.out k hlt
      by_cases he : l[k] = n
      · have hmem : L.withL l n = l := by unfold L.withL; rw [if_pos (by rw [← he]; exact List.getElem_mem hlt)]
        rw [he] at hck
        go_wp2_with fail
        go_ret
        exact ⟨_, rfl, by rw [hmem]; exact ho.out, grown_refl _ _⟩
      · have hnk : n ∉ l.take (k + 1) := by
          rw [List.take_add_one, List.getElem?_eq_getElem hlt]
          simp only [Option.toList_some, List.mem_append, List.mem_singleton, not_or]
          exact ⟨hn, fun e => he e.symm⟩
        have dn : (((l[k] : Nat) : Int) == (n : Int)) = false := by simp; omega
        generalize l[k] = y at *
        replace hnk := Lib.hid hnk
        replace hn := Lib.hid hn
        go_wp2_with fail
        go_roundw
        case rel => exact ⟨k + 1, by omega, by go_num, by trivial, hnk.out⟩
        case measure => simp [intOf]; omega
    · obtain rfl : k = l.length := by omega
      rw [List.take_length] at hn
      have hmem : L.withL l n = l ++ [n] := by unfold L.withL; rw [if_neg hn]
      go_wp2_with (at_builtin; refine wpList_append_own _ rfl _ _ 33 rfl base 3 i0 (.int .i64 0) 1 8 Tryz.underlying33 hi0 hz0 hz1 hz2 rfl (by decide) _ _ _ rfl (ho.out.alloc _) ⟨wr.heap.size, 0, none⟩ 1 1 [.int .i64 (n : Int)] rfl rfl (cell_one_at _ _ _ _ rfl) (by simp [Value.oneCell']) (by unfold maxLen; omega) (by omega) (by simp; omega) ?_; intro v4 w4 ho4 hg4 _)
      go_ret
      refine ⟨_, rfl, ?_, ?_⟩
      · rw [hmem]
        exact own_cast ho4 (by simp) (by simp [encI])
      · exact grown_alloc hg4
end Go.Proofs.YtgphkbnoflfneaaGreatDoor
