import Derived.Test.YtgphkbnoflfneaaDoorSddL
import Derived.Test.YtgphkbnoflfneaaDoorTz
import Derived.Test.YtgphkbnoflfneaaDoorShelf1
import Derived.Lib.ItoaLen
import Derived.Laws.NewBlocks
namespace Go.Proofs.YtgphkbnoflfneaaDoor
open Go Go.RowKit Go.Shelf

theorem info_u8 : (Tryd.prog.info? 5).map (fun i => (i.zero, i.size, i.bytes)) = some (some (.int .u8 0), 1, 1) := by kernel_rfl

/-- the table of powers of ten lies in its variable -/
def PowTab (w : World) : Prop := Lib.TabIs Tryd.prog w "internal/strconv.uint64pow10" .u64 Lib.pow10Tab
theorem PowTab.below {w w' : World} (h : PowTab w) (hb : Below w.heap.size w w') : PowTab w' := Lib.tabBelow_of_tabIs h w' hb

/-- what the elements' cells hold -/
def flatP (l : List (Nat × Nat)) : List Value := l.flatMap fun p => [.int .i64 p.1, .int .i64 p.2]
theorem flatP_len (l : List (Nat × Nat)) : (flatP l).length = 2 * l.length := by
  induction l with
  | nil => rfl
  | cons a l ih => simp [flatP] at *; omega
theorem flatP_get (l : List (Nat × Nat)) (k : Nat) (hk : k < l.length) : (flatP l)[k * 2]? = some (.int .i64 (l[k].1 : Nat)) ∧ (flatP l)[k * 2 + 1]? = some (.int .i64 (l[k].2 : Nat)) := by
  induction l generalizing k with
  | nil => simp at hk
  | cons a l ih =>
    cases k with
    | zero => simp [flatP]
    | succ k =>
      have h := ih k (by simpa using hk)
      have e : flatP (a :: l) = .int .i64 (a.1 : Nat) :: .int .i64 (a.2 : Nat) :: flatP l := by simp [flatP]
      rw [e, show (k + 1) * 2 = k * 2 + 1 + 1 from by omega]
      simp only [List.getElem?_cons_succ, List.getElem_cons_succ]
      exact h

/-- a slice of pairs: nil, or its cells -/
def SlP (w : World) (v : Value) (l : List (Nat × Nat)) : Prop :=
  ∃ ba c, v = .slice ba l.length c ∧ ((ba = none ∧ l = [] ∧ c = 0) ∨ ∃ b o, ba = some ⟨b, o, none⟩ ∧ ∀ j u, (flatP l)[j]? = some u → w.cell? ⟨b, o + j, none⟩ = some u)
def smallP (l : List (Nat × Nat)) : Prop := l.length ≤ 1048576 ∧ ∀ p ∈ l, p.1 ≤ 1048576 ∧ p.2 ≤ 1048576

theorem itoa_le (i : Int) (h0 : -9223372036854775808 ≤ i) (h1 : i ≤ 9223372036854775807) : (Lib.itoa i).length ≤ 21 := Lib.itoa_length_le i h0 h1

theorem keyB_take (pl lit : Int) (l : List (Nat × Nat)) (k : Nat) (hk : k < l.length) :
    keyB pl lit (l.take (k + 1)) = keyB pl lit (l.take k) ++ [32] ++ Lib.itoa l[k].1 ++ [32] ++ Lib.itoa l[k].2 := by
  unfold keyB
  rw [List.take_succ_eq_append_getElem hk, List.flatMap_append]
  simp
theorem keyB_len (pl lit : Int) (l : List (Nat × Nat)) (h1 : -9223372036854775808 ≤ pl) (h2 : pl ≤ 9223372036854775807) (h3 : -9223372036854775808 ≤ lit) (h4 : lit ≤ 9223372036854775807)
    (hl : ∀ p ∈ l, p.1 ≤ 1048576 ∧ p.2 ≤ 1048576) : (keyB pl lit l).length ≤ 43 + 44 * l.length := by
  unfold keyB
  have a := itoa_le pl h1 h2
  have b := itoa_le lit h3 h4
  have : (l.flatMap fun p => [32] ++ Lib.itoa p.1 ++ [32] ++ Lib.itoa p.2).length ≤ 44 * l.length := by
    induction l with
    | nil => simp
    | cons x l ih =>
      have ih := ih (fun p hp => hl p (List.mem_cons_of_mem _ hp))
      have hx := hl x (List.mem_cons_self ..)
      have c := itoa_le (x.1 : Int) (by omega) (by omega)
      have d := itoa_le (x.2 : Int) (by omega) (by omega)
      simp only [List.flatMap_cons, List.length_append, List.length_cons, List.length_nil] at *
      omega
  simp only [List.length_append, List.length_cons, List.length_nil]
  omega

theorem foldl_push (l : List UInt8) (s : ByteArray) : (l.map fun b => (b.toNat : Int)).foldl (fun r n => r.push (UInt8.ofNat n.toNat)) s = ⟨(s.data.toList ++ l).toArray⟩ := by
  induction l generalizing s with
  | nil => simp
  | cons b l ih =>
    simp only [List.map_cons, List.foldl_cons]
    rw [ih]
    simp [ByteArray.push]

/-- bytes of an owned row, as a string -/
theorem run_convert_own {w : World} {B : Nat} {v : Value} {n : Nat} {l : List UInt8} (h : w.ownsRow B 5 1 v n (Lib.byteCells l)) :
    (convert 92 9 v).run Tryd.prog w = .ok (.string ⟨l.toArray⟩) w := by
  obtain ⟨hl, ⟨rfl, rfl⟩ | ⟨g, cap, cur, rfl, hg, hh, hn, hc, hs, ht⟩⟩ := h
  · have : l = [] := by simpa [Lib.byteCells] using hl
    subst this
    rw [run_convert_bytes_string w _ _ 5 _ _ _ Tryd.underlying92 Tryd.underlying5 Tryd.underlying9]
    rfl
  · rw [run_convert_bytes_string w _ _ 5 _ _ _ Tryd.underlying92 Tryd.underlying5 Tryd.underlying9]
    have hn1 : l.length = n := by simpa [Lib.byteCells] using hl
    rw [run_bytesToString w _ _ _ (l.map fun b => (b.toNat : Int)), foldl_push]
    · rfl
    · have h1 := run_loadCells_list (P := Tryd.prog) (w := w) ⟨g, 0, none⟩ (Lib.byteCells l) (by
        intro j u hj
        rw [← ht] at hj
        have hj2 : cur[j]? = some u := by
          rw [List.getElem?_take] at hj
          split at hj
          · simpa using hj
          · simp at hj
        rw [Addr.add_lit]
        simp [World.cell?, hh, hj2])
      have e2 : (Lib.byteCells l).length = n := by simpa [Lib.byteCells] using hl
      rw [e2] at h1
      rw [h1]
      simp [Lib.byteCells]

theorem own_ge {w : World} {B : Nat} {e : TypeId} {sz : Nat} {v : Value} {n : Nat} {xs : List Value} (h : w.ownsRow B e sz v n xs) {k : Nat} (hk : v.ownBlock = some k) : B ≤ k := by
  obtain ⟨_, ⟨rfl, _⟩ | ⟨g, cap, cur, rfl, hg, _⟩⟩ := h
  · simp [Value.ownBlock] at hk
  · simp [Value.ownBlock] at hk; omega
theorem cell_one_at (w : World) (v : Value) (t : TypeId) (ad : Nat) (h : ad = w.heap.size) : ∀ j u, [v][j]? = some u → (w.alloc (.cells #[v] t)).cell? (Addr.add ⟨ad, 0, none⟩ j) = some u := by
  subst h; exact cell_one_new w v t
theorem own_cast {w : World} {B : Nat} {e : TypeId} {sz : Nat} {v : Value} {n n' : Nat} {xs xs' : List Value} (h : w.ownsRow B e sz v n xs) (hn : n = n') (hx : xs = xs') : w.ownsRow B e sz v n' xs' := by
  subst hn; subst hx; exact h
theorem box_grown {w w' : World} {B e e' k n : Nat} {v : Value} {xs : List Value} {c : Array Value} {fz : Nat × Nat} (hk : w.heap[k]? = some (.cells c e' fz)) (he : e' ≠ e)
    (ho : w.ownsRow B e 1 v n xs) (hg : w.grownBy w' v.ownBlock) : w'.heap[k]? = some (.cells c e' fz) := by
  rw [hg.block k (Array.getElem?_eq_some_iff.1 hk).1]
  · exact hk
  · intro h
    obtain ⟨_, ⟨rfl, _⟩ | ⟨g, cap, cur, rfl, _, hh, _⟩⟩ := ho
    · simp [Value.ownBlock] at h
    · simp [Value.ownBlock] at h
      subst h
      rw [hk] at hh
      simp at hh
      exact he hh.2.1
theorem pbox_cells {w : World} {k : Nat} {x y : Value} {t : TypeId} (h : w.heap[k]? = some (.cells #[x, y] t (0, 0))) : w.cell? ⟨k, 0, none⟩ = some x ∧ w.cell? ⟨k, 1, none⟩ = some y := by
  constructor <;> simp [World.cell?, h]

set_option maxRecDepth 100000 in
set_option maxHeartbeats 2000000 in
theorem key_any (pl lit : Int) (l : List (Nat × Nat)) (v : Value) (a b : Int) (w : World) (hP : PowTab w) (hv : SlP w v l) (hl : smallP l)
    (h1 : -1 ≤ pl) (h2 : pl ≤ 1048576) (h3 : -1048576 ≤ lit) (h4 : lit ≤ 1048576) :
    Calls Tryd.prog 46 #[.agg #[.int .i64 pl, .int .i64 lit, v, .int .u64 a, .int .u64 b]] w fun e w' => e = .returned (.string ⟨(keyB pl lit l).toArray⟩) ∧ Below w.heap.size w w' := by
  obtain ⟨i0, hi0, hz0, hz1, hz2⟩ := info_parts info_u8
  obtain ⟨ba, cp, rfl, hv⟩ := hv
  replace hv := Lib.hid hv
  have hTab := Lib.hid (Lib.tabBelow_of_tabIs hP)
  go_enter Tryd.func46, Tryd.ntmps46
  have hlp := itoa_le pl (by omega) (by omega)
  have hll := itoa_le lit (by omega) (by omega)
  have e1 : Hid (keyB pl lit (l.take 0) = Lib.itoa pl ++ [32] ++ Lib.itoa lit) := Lib.hid (by simp [keyB])
  have hkl := Lib.hid (keyB_len pl lit l (by omega) (by omega) (by omega) (by omega) hl.2)
  go_wp2_with fail
  -- the world with the node's box
  have hbw : Below w.heap.size w (w.alloc (.cells #[.int .i64 pl, .int .i64 lit, .slice ba l.length cp, .int .u64 a, .int .u64 b] 59)) := (Below.refl _ w).alloc (Nat.le_refl _) _
  have hwh := heap_alloc_new w (.cells #[.int .i64 pl, .int .i64 lit, .slice ba l.length cp, .int .u64 a, .int .u64 b] 59)
  obtain ⟨N, hN⟩ : ∃ N, N = w.heap.size + 1 := ⟨_, rfl⟩
  have hsz : (w.alloc (.cells #[.int .i64 pl, .int .i64 lit, .slice ba l.length cp, .int .u64 a, .int .u64 b] 59)).heap.size = N := by simp [hN]
  generalize w.alloc (.cells #[.int .i64 pl, .int .i64 lit, .slice ba l.length cp, .int .u64 a, .int .u64 b] 59) = W at *
  replace hN := Lib.hid hN
  replace hsz := Lib.hid hsz
  have hB0 : Below N W W := Below.refl _ _
  have hTN : Hid (Lib.TabBelow Tryd.prog N W "internal/strconv.uint64pow10" .u64 Lib.pow10Tab) := Lib.hid (by
    have := Lib.tabBelow_of_tabIs (Lib.TabBelow.here (hTab.out.on hbw)); rwa [hsz.out] at this)
  have hcell : ∀ w', Below N W w' → w'.cell? ⟨w.heap.size, 1, none⟩ = some (.int .i64 lit) ∧ w'.cell? ⟨w.heap.size, 2, none⟩ = some (.slice ba l.length cp) := fun w' h =>
    ⟨(h.cell (p := ⟨w.heap.size, 1, none⟩) (by have := hN.out; simp; omega)).trans (by simp [World.cell?, hwh]), (h.cell (p := ⟨w.heap.size, 2, none⟩) (by have := hN.out; simp; omega)).trans (by simp [World.cell?, hwh])⟩
  replace hcell := Lib.hid hcell
  clear hwh
  have c1 := Tryd.strconv_AppendInt_10 N 0 pl (by omega) (by omega) _ [] W (World.ownsRow_nil _ _ _ _) (by have := hsz.out; omega) (by omega) hTN.out
  refine c1.mono ?_
  clear c1
  rintro e w1 ⟨v1, rfl, ho1, hb1, _⟩
  have hB1 := hB0.trans hb1
  have hs1 := hB1.size
  have hs1' := hsz.out
  replace hB1 := hB1
  obtain ⟨hc1, hc2⟩ := hcell.out _ hB1
  go_wp2_with (at_builtin; refine wpList_append_own _ rfl _ _ 92 rfl N 5 i0 (.int .u8 0) 1 1 Tryd.underlying92 hi0 hz0 hz1 hz2 rfl (by decide) _ _ _ rfl (ho1.alloc _) ⟨w1.heap.size, 0, none⟩ 1 1 [.int .u8 32] rfl rfl (cell_one_at _ _ _ _ (by simp)) (by simp [Value.oneCell']) (by unfold maxLen; omega) (by omega) (by simp; have := hB1.size; omega) ?_; intro v2 w2 ho2 hg2 _; have hB2 := Below.grown (Below.alloc hB1 (by have := hB1.size; omega) _) hg2 (by simp; have := hB1.size; omega) (fun k e => own_ge ho1 e); obtain ⟨hc1, hc2⟩ := hcell.out _ hB2; clear hg2 ho1)
  have c2 := Tryd.strconv_AppendInt_10 N _ lit (by omega) (by omega) _ _ w2 ho2 (by have := hB2.size; omega) (by omega) (hTN.out.on hB2)
  refine c2.mono ?_
  clear c2 ho2
  rintro e w3 ⟨v3, rfl, ho3, hb3, _⟩
  have hB3 := hB2.trans hb3
  obtain ⟨hc1, hc2⟩ := hcell.out _ hB3
  go_wp2_with fail
  have ho : w3.ownsRow N 5 1 v3 (keyB pl lit (l.take 0)).length (Lib.byteCells (keyB pl lit (l.take 0))) := by
    rw [e1.out]
    exact own_cast ho3 (by simp; omega) (by simp [Lib.byteCells])
  have hlm := hl.1
  replace hbw := Lib.hid hbw
  clear ho3 hc1 hc2 hb1 hb3
  go_loopw [3, 19] (fun vs i wr => ∃ k : Nat, k ≤ l.length ∧ i = .int .i64 k ∧ wr.ownsRow N 5 1 vs (keyB pl lit (l.take k)).length (Lib.byteCells (keyB pl lit (l.take k))) ∧ Below N W wr)
    (fun _ i _ => l.length - (intOf i).toNat)
  case atStart => exact ⟨0, Nat.zero_le _, rfl, ho, hB3⟩
  case round =>
    clear ho hB1 hB2 hB3
    obtain ⟨k, hk, rfl, ho, hB⟩ := hrel
    by_cases hlt : k < l.length
    · obtain ⟨b, o, rfl, hcs⟩ : ∃ b o, ba = some ⟨b, o, none⟩ ∧ ∀ j u, (flatP l)[j]? = some u → w.cell? ⟨b, o + j, none⟩ = some u := by
        rcases hv.out with ⟨_, rfl, _⟩ | h
        · simp at hlt
        · exact h
      have g1 := hcs _ _ (flatP_get l k hlt).1
      have g2 := hcs _ _ (flatP_get l k hlt).2
      have hbl := World.block_lt_of_cell? w _ g1
      have hNN := hN.out
      have hb' : b < w.heap.size := hbl
      have f1 : wr.cell? ⟨b, o + k * 2, none⟩ = some (.int .i64 (l[k].1 : Nat)) := (hB.cell (p := ⟨b, o + k * 2, none⟩) (by show b < N; omega)).trans ((hbw.out.cell (p := ⟨b, o + k * 2, none⟩) hbl).trans g1)
      have f2 : wr.cell? ⟨b, o + k * 2 + 1, none⟩ = some (.int .i64 (l[k].2 : Nat)) := (hB.cell (p := ⟨b, o + k * 2 + 1, none⟩) (by show b < N; omega)).trans ((hbw.out.cell (p := ⟨b, o + k * 2 + 1, none⟩) hbl).trans g2)
      clear g1 g2 hcs hNN
      have hkt := Lib.hid (keyB_take pl lit l k hlt)
      have hp := hl.2 l[k] (List.getElem_mem hlt)
      have hkk := keyB_len pl lit (l.take k) (by omega) (by omega) (by omega) (by omega) (fun p hp => hl.2 p (List.mem_of_mem_take hp))
      rw [List.length_take] at hkk
      have hq1 := itoa_le (l[k].1 : Nat) (by omega) (by omega)
      have hq2 := itoa_le (l[k].2 : Nat) (by omega) (by omega)
      -- the element's box
      have hpw := heap_alloc_new wr (.cells #[.int .i64 (l[k].1 : Nat), .int .i64 (l[k].2 : Nat)] 76)
      have hBp := hB.alloc (by have := hB.size; have := hsz.out; omega) (.cells #[.int .i64 (l[k].1 : Nat), .int .i64 (l[k].2 : Nat)] 76)
      have hop := ho.alloc (.cells #[.int .i64 (l[k].1 : Nat), .int .i64 (l[k].2 : Nat)] 76)
      have hszp : (wr.alloc (.cells #[.int .i64 (l[k].1 : Nat), .int .i64 (l[k].2 : Nat)] 76)).heap.size = wr.heap.size + 1 := by simp
      have hNw := hB.size
      have hNs := hsz.out
      replace hpw := Lib.hid hpw
      clear ho
      go_wp2_with (at_builtin; (refine wpList_append_own _ rfl _ _ 92 rfl N 5 i0 (.int .u8 0) 1 1 Tryd.underlying92 hi0 hz0 hz1 hz2 rfl (by decide) _ _ _ rfl (hop.alloc _) ⟨wr.heap.size + 1, 0, none⟩ 1 1 [.int .u8 32] rfl rfl (cell_one_at _ _ _ _ (by simp)) (by simp [Value.oneCell']) (by unfold maxLen; omega) (by omega) (by simp; have := hBp.size; omega) ?_); intro v4 w4 ho4 hg4 _; have hB4 := Below.grown (Below.alloc hBp (by have := hBp.size; omega) _) hg4 (by simp; have := hBp.size; omega) (fun k e => own_ge hop e); have hp4 := box_grown ((Below.heap_alloc _ _ _ (Array.getElem?_eq_some_iff.1 hpw.out).1).trans hpw.out) (by decide) (hop.alloc _) hg4; obtain ⟨hf1, hf2⟩ := pbox_cells hp4; clear hg4 hop)
      have c5 := Tryd.strconv_AppendInt_10 N _ (l[k].1 : Nat) (by omega) (by omega) _ _ w4 ho4 (by have := hB4.size; omega) (by omega) (hTN.out.on hB4)
      refine c5.mono ?_
      clear c5 ho4
      rintro e w5 ⟨v5, rfl, ho5, hb5, hk5⟩
      have hB5 := hB4.trans hb5
      have hp5 := Lib.hid (hk5 _ _ hp4 (by simp) (by simp))
      clear hB4 hk5 hp4 hb5
      go_wp2_with (at_builtin; refine wpList_append_own _ rfl _ _ 92 rfl N 5 i0 (.int .u8 0) 1 1 Tryd.underlying92 hi0 hz0 hz1 hz2 rfl (by decide) _ _ _ rfl (ho5.alloc _) ⟨w5.heap.size, 0, none⟩ 1 1 [.int .u8 32] rfl rfl (cell_one_at _ _ _ _ (by simp)) (by simp [Value.oneCell']) (by unfold maxLen; omega) (by omega) (by simp; have := hB5.size; omega) ?_; intro v6 w6 ho6 hg6 _; have hB6 := Below.grown (Below.alloc hB5 (by have := hB5.size; omega) _) hg6 (by simp; have := hB5.size; omega) (fun k e => own_ge ho5 e); have hp6 := box_grown ((Below.heap_alloc _ _ _ (Array.getElem?_eq_some_iff.1 hp5.out).1).trans hp5.out) (by decide) (ho5.alloc _) hg6; obtain ⟨hf1, hf2⟩ := pbox_cells hp6; clear hg6 ho5)
      have c7 := Tryd.strconv_AppendInt_10 N _ (l[k].2 : Nat) (by omega) (by omega) _ _ w6 ho6 (by have := hB6.size; omega) (by omega) (hTN.out.on hB6)
      refine c7.mono ?_
      clear c7 ho6
      rintro e w7 ⟨v7, rfl, ho7, hb7, hk7⟩
      have hB7 := hB6.trans hb7
      go_wp2_with fail
      go_roundw
      case rel => exact ⟨k + 1, by omega, by go_num, by rw [hkt.out]; exact own_cast ho7 (by simp; omega) (by simp [Lib.byteCells]), hB7⟩
      case measure => simp [intOf]; omega
    · obtain rfl : k = l.length := by omega
      rw [List.take_length] at ho
      have hcv := run_convert_own ho
      clear ho
      go_wp2_with fail
      go_returns
      exact ⟨rfl, hbw.out.trans (hB.mono (by have := hN.out; omega))⟩
end Go.Proofs.YtgphkbnoflfneaaDoor
