import Derived.Test.YtgphkbnoflfneaaGreatDoorParts3
import Derived.Test.YtgphkbnoflfneaaGreatDoorReg
import Derived.Deep.CutRange
set_option linter.unusedSimpArgs false
set_option linter.unusedVariables false
namespace Go.Proofs.YtgphkbnoflfneaaGreatDoor
open Go Go.RowKit Go.Shelf

theorem and_none {t : List VN} {B0 : Blks} {w0 w : World} {a b : Nat} {s : St} {φ ψ : L.Asg → Bool} (h : SS t B0 w0 0 s w) (h7 : t.length ≤ 7) (ha : Val s a φ) (hb : Val s b ψ) (hz : ∀ x, (φ x && ψ x) = false) :
    Calls Tryz.prog 17 #[.pointer (some ⟨B0.sb, 0, none⟩), .int .i64 a, .int .i64 b] w fun e w' => e = .returned (.tuple #[.int .i64 0, .int .i64 0]) ∧ ∃ s', SS t B0 w0 0 s' w' ∧ L.Step s s' := by
  refine (and_c (k' := 0) (c := 0) h (free_cost h.chk h7).1 (by omega) ha hb).mono ?_
  rintro e w' ⟨r, s', rfl, hS, hT, hV⟩
  have hr : r = 0 := hS.inv.const0 hV.lt (fun x => by rw [hV.sem]; exact hz x)
  subst hr
  exact ⟨rfl, s', hS, hT⟩
theorem pw_lt {α : Type} {R : α → α → Prop} : ∀ {l : List α}, l.Pairwise R → ∀ {k i : Nat} (hk : k < i) (hi : i < l.length), R (l[k]'(by omega)) l[i]
  | [], _, k, i, _, hi => by simp at hi
  | a :: r, h, 0, i + 1, _, hi => by
    rw [List.pairwise_cons] at h
    exact h.1 _ (List.getElem_mem (by simpa using hi))
  | a :: r, h, k + 1, i + 1, hk, hi => by
    rw [List.pairwise_cons] at h
    exact pw_lt h.2 (by omega) (by simpa using hi)
/-- two elements of a decision node -/
structure PairF (s : St) (l : Nat) (p q : Nat × Nat) : Prop where
  pl : p.1 < s.nodes.length
  ql : q.1 < s.nodes.length
  p1 : 1 ≤ p.1
  q1 : 1 ≤ q.1
  pd : L.Dep (L.Bel s.tree l) (L.sem s.nodes p.1)
  qd : L.Dep (L.Bel s.tree l) (L.sem s.nodes q.1)
  no : ∀ x, (L.sem s.nodes q.1 x && L.sem s.nodes p.1 x) = false
  ne : q.2 ≠ p.2
  lt : lessS (leOf s.nodes p.1) (leOf s.nodes q.1) = true
theorem pair_facts {s : St} (hi : L.Inv s) {a : Nat} {n : SNode} (hn : s.nodes[a]? = some n) (hd : L.DecOK s.tree s.nodes a n) {l r : Nat} (hp : L.Parts s.tree s.nodes l r n.el) {k i : Nat} (hk : k < i) (hil : i < n.el.length) : PairF s l (n.el[k]'(by omega)) n.el[i] := by
  have ha : a < s.nodes.length := (List.getElem?_eq_some_iff.1 hn).1
  have m1 : n.el[k]'(by omega) ∈ n.el := List.getElem_mem _
  have m2 : n.el[i] ∈ n.el := List.getElem_mem _
  have k1 := hd.kids _ m1
  have k2 := hd.kids _ m2
  refine ⟨by omega, by omega, ?_, ?_, hp.pdep _ m1, hp.pdep _ m2, fun x => ?_, ?_, pw_lt hd.sorted hk hil⟩
  · have := hi.ne0 (hp.pne _ m1); omega
  · have := hi.ne0 (hp.pne _ m2); omega
  · have := pw_lt hp.disj hk hil x
    cases h1 : L.sem s.nodes n.el[i].1 x
    · rfl
    · cases h2 : L.sem s.nodes (n.el[k]'(by omega)).1 x
      · rfl
      · exact absurd ⟨h2, h1⟩ this
  · exact fun e => pw_lt hp.nd hk hil e.symm
theorem SS.tz {t : List VN} {B0 : Blks} {w0 w : World} {k : Nat} {s : St} (h : SS t B0 w0 k s w) : TzTab w := by
  obtain ⟨B, hR, _⟩ := h.held
  exact hR.tz
theorem any_succ (s : St) (el : List (Nat × Nat)) (i : Nat) (hi : i < el.length) (x : L.Asg) : anyφ s el (i + 1) x = (anyφ s el i x || L.sem s.nodes el[i].1 x) := by
  unfold anyφ
  rw [List.take_add_one, List.getElem?_eq_getElem hi, Option.toList_some, List.any_append]
  simp
theorem Step.le {s s' : St} (h : L.Step s s') {b : Nat} (hb : b < s.nodes.length) : leOf s'.nodes b = leOf s.nodes b := by
  obtain ⟨m, hm⟩ := h.ext
  unfold leOf
  rw [hm, List.getElem?_append_left hb]
theorem set_len {t : List VN} (hc : checkF t = 0) {v : Nat} (hv : v < t.length) {l : List Int} (h : ∀ u, hasS (ofS l) u = true ↔ L.Bel t v u) (h7 : t.length ≤ 7) : (listV (ofS l)).length ≤ 6 := by
  have hS : L.SortedBel t v (listV (ofS l)) := ⟨L.listVK_sorted _ _, fun x => by rw [L.listV_mem]; exact h x⟩
  have := hS.len hc hv
  have := L.nv_le hc hv
  omega
/-- least at a prime, in any store that has grown out of s -/
theorem least_c {t : List VN} {B0 : Blks} {w0 w : World} {s s' : St} (h : SS t B0 w0 0 s' w) (h7 : t.length ≤ 7) (hin : L.Inv s) (hT : L.Step s s') {l : List Int} {v p : Nat} (hv : v < t.length) (hl : ∀ u, hasS (ofS l) u = true ↔ L.Bel t v u) (hp : p < s.nodes.length) (hp1 : 1 ≤ p) (hd : L.Dep (L.Bel t v) (L.sem s.nodes p)) :
    Calls Tryz.prog 30 #[.pointer (some ⟨B0.sb, 0, none⟩), .int .i64 p, .agg #[.int .u64 (lo (ofS l)), .int .u64 (hi (ofS l))]] w fun e w' => e = .returned (.agg #[.int .u64 (lo (leOf s.nodes p)), .int .u64 (hi (leOf s.nodes p))]) ∧ Below w.heap.size w w' := by
  have := least_any (S := ofS l) h hp1 (Nat.lt_of_lt_of_le hp hT.len) (by rw [hT.sem hin hp]; exact hd.mono fun u hu => (hl u).2 hu) (set_len h.chk hv hl h7)
  rw [Step.le hT hp] at this
  exact this
theorem less_c (a b : VSet) (w : World) (hT : TzTab w) (h : lessS a b = true) :
    Calls Tryz.prog 29 #[.agg #[.int .u64 (lo a), .int .u64 (hi a)], .agg #[.int .u64 (lo b), .int .u64 (hi b)]] w fun e w' => e = .returned (.bool true) ∧ Ext w w' := by
  have := less_any a b w hT
  rw [h] at this
  exact this
theorem wp_region_belowB {P : Program} {l : List Oper} {id : Nat} {Q : Exit → Act → World → Prop} {a : Act} {w : World} (hm : P.follows .mixedOrders = true) (hB : Region.lexB .any l.toArray = true)
    (h : wpQuiet P l.toArray (Below w.heap.size w) (fun a' => ∀ w', Below w.heap.size w w' → Q .normal a' w') l a) : (Code.region id l.toArray true).wp P Q a w :=
  wp_region_quiet (C := Below w.heap.size w) hm hB (Below.refl _ _).drew (by simpa using h)

set_option maxRecDepth 100000 in
set_option maxHeartbeats 8000000 in
theorem divided_any {t : List VN} {B : Blks} {w : World} {s : St} (h : SS t B w 0 s w) (h7 : t.length ≤ 7) {a : Nat} {n : SNode} (hn : s.nodes[a]? = some n) (hd : L.DecOK s.tree s.nodes a n) {b o cap ce : Nat} {be : Option Addr} (hT : TreeAt w b o t) (hTm : b ∉ B.mut) (hE : KeepR B w be (flatP n.el)) (hTz : TzTab w) :
    Calls Tryz.prog 11 #[.pointer (some ⟨B.sb, 0, none⟩), .slice (some ⟨b, o, none⟩) t.length cap, .slice be n.el.length ce, .int .i64 n.pl] w fun e w' => e = .returned (.bool true) ∧ ∃ s', SS t B w 0 s' w' ∧ L.Step s s' := by
  have htr := h.tree
  subst htr
  have hc := h.chk
  have hel : n.el.length ≤ 1048576 := by
    obtain ⟨B', hR', _⟩ := h.held
    exact (hR'.small.2 n (List.mem_of_getElem? hn)).2.2.2.2.1
  obtain ⟨P, y, l, r, hP, hy, hlf, hl, hr, hp, hdis, _⟩ := h.inv.facts hn hd
  obtain ⟨l', r', i1, i2, i3, i4, i5, _⟩ := L.inner_ok hc hy hlf
  obtain rfl : l' = l := by omega
  obtain rfl : r' = r := by omega
  have hPl : P < s.tree.length := (List.getElem?_eq_some_iff.1 hy).1
  have hyP : s.tree[P] = y := (List.getElem?_eq_some_iff.1 hy).2
  obtain ⟨ll, f1, f2, f3⟩ := below_set hc (v := l') (by omega)
  obtain ⟨lr, g1, g2, g3⟩ := below_set hc (v := r') (by omega)
  obtain ⟨n0, n1, n2⟩ := treeCells_get s.tree P hPl
  have m0 := hT _ _ n0
  have m1 := hT _ _ n1
  rw [hyP, hl] at m0
  rw [hyP, hr, ← Nat.add_assoc] at m1
  rw [hP]
  have hl1 := f2.len hc (by omega)
  have hr1 := g2.len hc (by omega)
  have hlv := L.nv_le hc (v := l') (by omega)
  have hrv := L.nv_le hc (v := r') (by omega)
  have q1 := refBelow_any (s.tree.length + 1) w b o cap l' ll hT (by omega) f1
  have pos0 : (0 : Int) ≤ P := by omega
  have posl : (P : Int) < s.tree.length := by omega
  replace hd := Lib.hid hd
  replace hn := Lib.hid hn
  replace hT := Lib.hid hT
  replace hE := Lib.hid hE
  replace h := Lib.hid h
  replace hTz := Lib.hid hTz
  replace f1 := Lib.hid f1
  replace g1 := Lib.hid g1
  replace hP := Lib.hid hP
  replace hy := Lib.hid hy
  replace hyP := Lib.hid hyP
  replace hp := Lib.hid hp
  replace hdis := Lib.hid hdis
  replace hc := Lib.hid hc
  clear n0 n1 n2
  go_enter Tryz.func11, Tryz.ntmps11
  go_wp2_with fail
  refine q1.mono ?_
  rintro e w1 ⟨v1, rfl, ho1, hb1⟩
  have hsl1 := owns_slI ho1
  have q2 := refOf_any ll v1 w1 hsl1 (by omega)
  unfold encS at q2
  clear q1 ho1 hsl1
  go_wp2_with fail
  refine q2.mono ?_
  rintro e w2 ⟨rfl, hb2⟩
  have hB2 := hb1.trans (hb2.mono hb1.size)
  have hz3 := heap_alloc_new w2 (.cells #[.int .u64 (lo (ofS ll)), .int .u64 (hi (ofS ll))] 55)
  have hB3 := hB2.alloc hB2.size (.cells #[.int .u64 (lo (ofS ll)), .int .u64 (hi (ofS ll))] 55)
  have q3 := refBelow_any (s.tree.length + 1) (w2.alloc (.cells #[.int .u64 (lo (ofS ll)), .int .u64 (hi (ofS ll))] 55)) b o cap r' lr (hT.out.below hB3) (by omega) g1.out
  have m1' := (hB3.cell (World.block_lt_of_cell? w _ m1)).trans m1
  clear q2 hb1 hb2
  go_wp2_with fail
  generalize w2.alloc (.cells #[.int .u64 (lo (ofS ll)), .int .u64 (hi (ofS ll))] 55) = w3 at *
  refine q3.mono ?_
  rintro e w4 ⟨v4, rfl, ho4, hb4⟩
  have hsl4 := owns_slI ho4
  have q4 := refOf_any lr v4 w4 hsl4 (by omega)
  unfold encS at q4
  clear q3 ho4 hsl4
  go_wp2_with fail
  refine q4.mono ?_
  rintro e w5 ⟨rfl, hb5⟩
  have hB5 := hB3.trans ((hb4.trans (hb5.mono hb4.size)).mono hB3.size)
  have hz5 := ((hb5.block _ (Nat.lt_of_lt_of_le (Array.getElem?_eq_some_iff.1 hz3).1 hb4.size)).trans ((hb4.block _ (Array.getElem?_eq_some_iff.1 hz3).1).trans hz3))
  have hz6 := heap_alloc_new w5 (.cells #[.int .u64 (lo (ofS lr)), .int .u64 (hi (ofS lr))] 55)
  have hz56 := (Below.heap_alloc w5 (.cells #[.int .u64 (lo (ofS lr)), .int .u64 (hi (ofS lr))] 55) _ (Array.getElem?_eq_some_iff.1 hz5).1).trans hz5
  have hB6 := hB5.alloc hB5.size (.cells #[.int .u64 (lo (ofS lr)), .int .u64 (hi (ofS lr))] 55)
  clear q4 hb4 hb5 hz3 hz5 hB3
  go_wp2_with fail
  generalize w5.alloc (.cells #[.int .u64 (lo (ofS lr)), .int .u64 (hi (ofS lr))] 55) = w6 at *
  generalize w2.heap.size = xl at *
  generalize w5.heap.size = xr at *
  have hS6 := h.out.below hB6
  obtain ⟨B6, hsb, hR6, hSS6, hSt⟩ := hS6.here
  have hmm : ∀ b', b' < w.heap.size → b' ∉ B.mut → b' ∉ B6.mut := fun b' hb' hnb hcm => (hSt.new b' hcm).elim hnb (fun h => by omega)
  have hE6 := hE.out.stay hS6 hmm
  have hT6 : KeepR B6 w6 (some ⟨b, o, none⟩) (treeCells s.tree) := KeepR.stay (.inr ⟨b, o, rfl, hTm, fun j hj => hT.out j _ (List.getElem?_eq_getElem hj)⟩) hS6 hmm
  have hxl : xl ∉ B6.mut := hR6.not_mut hz56 (by decide) (by decide)
  have hxr : xr ∉ B6.mut := hR6.not_mut hz6 (by decide) (by decide)
  have c6 : w6.cell? ⟨xl, 0, none⟩ = some (.int .u64 (lo (ofS ll))) ∧ w6.cell? ⟨xl, 1, none⟩ = some (.int .u64 (hi (ofS ll))) ∧ w6.cell? ⟨xr, 0, none⟩ = some (.int .u64 (lo (ofS lr))) ∧ w6.cell? ⟨xr, 1, none⟩ = some (.int .u64 (hi (ofS lr))) :=
    ⟨(pbox_cells hz56).1, (pbox_cells hz56).2, (pbox_cells hz6).1, (pbox_cells hz6).2⟩
  have hbox : ∀ (s' : St) (w' : World), SS s.tree B6 w6 0 s' w' → (w'.cell? ⟨xl, 0, none⟩ = some (.int .u64 (lo (ofS ll))) ∧ w'.cell? ⟨xl, 1, none⟩ = some (.int .u64 (hi (ofS ll)))) ∧ (w'.cell? ⟨xr, 0, none⟩ = some (.int .u64 (lo (ofS lr))) ∧ w'.cell? ⟨xr, 1, none⟩ = some (.int .u64 (hi (ofS lr)))) ∧ TreeAt w' b o s.tree :=
    fun s' w' hS => ⟨⟨hS.cell c6.1 hxl, hS.cell c6.2.1 hxl⟩, ⟨hS.cell c6.2.2.1 hxr, hS.cell c6.2.2.2 hxr⟩, fun j u hj => hT6.get hS hj⟩
  have hloop : Hid (∃ s', SS s.tree B6 w6 0 s' w6 ∧ L.Step s s' ∧ Val s' 0 (anyφ s n.el 0)) := Lib.hid ⟨s, hSS6, L.Step.refl h.out.inv, ⟨by have := h.out.inv.len; omega, fun x => by rw [h.out.inv.sem0]; rfl⟩⟩
  replace hbox := Lib.hid hbox
  replace hE6 := Lib.hid hE6
  replace hS6 := Lib.hid hS6
  replace hSt := Lib.hid hSt
  clear hSS6 hR6 hT6 c6 hz56 hz6 hmm m0 m1 m1' hxl hxr hB5 hB2
  rw [← hsb]
  clear hsb
  go_loopw [11, 12] (fun av iv wr => ∃ (i c : Nat), i ≤ n.el.length ∧ iv = .int .i64 i ∧ av = .int .i64 c ∧ Hid (∃ s', SS s.tree B6 w6 0 s' wr ∧ L.Step s s' ∧ Val s' c (anyφ s n.el i))) (fun _ iv _ => n.el.length - (intOf iv).toNat)
  case atStart => exact ⟨0, 0, Nat.zero_le _, rfl, rfl, hloop⟩
  case round =>
    clear hloop
    obtain ⟨i, c, hil, rfl, rfl, hI⟩ := hrel
    obtain ⟨s1, hS1, hT1, hV1⟩ := hI.out
    clear hI
    by_cases hlt : i < n.el.length
    · have hpm : n.el[i] ∈ n.el := List.getElem_mem hlt
      obtain ⟨⟨Q, m, hm, hmQ, hQl, hQu⟩, hsub⟩ := el_facts h.out.inv hn.out hd.out hP.out hy.out hl hr _ hpm
      obtain ⟨eb, eo, rfl⟩ := hE6.out.some (by intro e0; have := congrArg List.length e0; rw [flatP_len] at this; simp at this; omega)
      obtain ⟨fl, k1, k2⟩ := flat_at n.el i hlt
      have e1 := hE6.out.get hS1 k1
      have e2 := hE6.out.get hS1 k2
      rw [← Nat.add_assoc] at e2
      have hpne : n.el[i].1 ≠ 0 := by have := h.out.inv.ne0 (hp.out.pne _ hpm); omega
      have hkid := hd.out.kids _ hpm
      have hAt := at_v hS1 (Step.node hT1 hm)
      have hS1i := hS1.inv
      rw [hmQ] at hAt
      generalize hpe : n.el[i] = p at *
      obtain ⟨pr, su⟩ := p
      simp only at *
      replace hS1 := Lib.hid hS1
      replace hT1 := Lib.hid hT1
      replace k1 := Lib.hid k1
      replace k2 := Lib.hid k2
      go_wp2_with fail
      refine hAt.mono ?_
      rintro e w8 ⟨rfl, hb8⟩
      have hsub' : ∃ (z : Int) (m2 : SNode), s.nodes[su]? = some m2 ∧ m2.pl = z ∧ (z = -1 ∨ ∃ Q2 : Nat, z = Q2 ∧ Q2 < s.tree.length ∧ L.Und s.tree r' Q2) := by
        rcases hsub with ⟨m2, h1, h2⟩ | ⟨Q2, m2, h1, h2, h3, h4⟩
        · exact ⟨-1, m2, h1, h2, .inl rfl⟩
        · exact ⟨Q2, m2, h1, h2, .inr ⟨Q2, rfl, h3, h4⟩⟩
      obtain ⟨z, m2, hm2, hmz, hz⟩ := hsub'
      have hS8 := hS1.out.below hb8
      have hAt2 := at_v hS8 (Step.node hT1.out hm2)
      rw [hmz] at hAt2
      have e2' := (hb8.cell (World.block_lt_of_cell? _ _ e2)).trans e2
      replace hS8 := Lib.hid hS8
      replace hm2 := Lib.hid hm2
      replace hz := Lib.hid hz
      clear hAt hsub
      go_wp2_with fail
      refine hAt2.mono ?_
      rintro e w9 ⟨rfl, hb9⟩
      have hS9 := hS8.out.below hb9
      have e1' := hE6.out.get hS9 k1.out
      obtain ⟨⟨a0, a1⟩, ⟨a2, a3⟩, hTw⟩ := hbox.out _ _ hS9
      replace hS9 := Lib.hid hS9
      replace hTw := Lib.hid hTw
      clear hAt2 e2' e1 e2 hb8 hb9 hS1 hS8
      have hdp : (((pr : Nat) : Int) == 0) = false := by simp; omega
      have hdq : decide ((Q : Int) ≥ 0) = true := decide_eq_true (by omega)
      obtain ⟨lq, t1, t2, t3⟩ := below_set hc.out hQl
      have hlq := t2.len hc.out hQl
      have hlqv := L.nv_le hc.out hQl
      have hsubL := sub_sets f3 t3 hQu
      have hBel : Hid (∀ W, Below w9.heap.size w9 W → Calls Tryz.prog 24 #[.slice (some ⟨b, o, none⟩) s.tree.length cap, .int .i64 (Q : Nat)] W (RetOwn lq W)) := Lib.hid fun W hW => refBelow_any (s.tree.length + 1) W b o cap Q lq (hTw.out.below hW) (by omega) t1
      have hOfq : Hid (∀ W v base, W.ownsRow base 3 1 v lq.length (lq.map encZ) → Calls Tryz.prog 27 #[v] W fun e w' => e = .returned (.agg #[.int .u64 (lo (ofS lq)), .int .u64 (hi (ofS lq))]) ∧ Below W.heap.size W w') := Lib.hid fun W v base hv => refOf_any lq v W (owns_slI hv) (by omega)
      have hSubq : Hid (∀ W, Calls Tryz.prog 28 #[.agg #[.int .u64 (lo (ofS lq)), .int .u64 (hi (ofS lq))], .agg #[.int .u64 (lo (ofS ll)), .int .u64 (hi (ofS ll))]] W fun e w' => e = .returned (.bool true) ∧ Ext W w') := Lib.hid fun W => by
        have := varsSub_any (ofS lq) (ofS ll) W
        rw [hsubL] at this; exact this
      have F : Hid (∀ W, Below w9.heap.size w9 W → W.cell? ⟨eb, eo + i * 2, none⟩ = some (.int .i64 (pr : Nat)) ∧ W.cell? ⟨xl, 0, none⟩ = some (.int .u64 (lo (ofS ll))) ∧ W.cell? ⟨xl, 1, none⟩ = some (.int .u64 (hi (ofS ll))) ∧ W.cell? ⟨xr, 0, none⟩ = some (.int .u64 (lo (ofS lr))) ∧ W.cell? ⟨xr, 1, none⟩ = some (.int .u64 (hi (ofS lr)))) := Lib.hid fun W hW => by
        have up : ∀ {a : Addr} {v : Value}, w9.cell? a = some v → W.cell? a = some v := fun hc => (hW.cell (World.block_lt_of_cell? w9 _ hc)).trans hc
        exact ⟨up e1', up a0, up a1, up a2, up a3⟩
      have hB0 : Hid (Below w9.heap.size w9 w9.drew) := Lib.hid (Below.refl _ _).drew
      replace t1 := Lib.hid t1
      clear hsubL
      have hM0 : True := trivial
      go_wp2_with fail
      go_cut [93] from 36 to 159 (fun s93 wx => s93 = .bool false ∧ Hid (Below w9.heap.size w9 wx))
      case first =>
        rcases hz.out with rfl | ⟨Q2, rfl, hQ2l, hQ2u⟩
        · have hg0 : decide ((0 : Int) ≤ -1) = false := by decide
          have hg1 : decide ((-1 : Int) ≥ 0) = false := by decide
          go_wp2_with fail
          (refine wp_region_held_drew (S := (fun W => W.cell? ⟨eb, eo + i * 2, none⟩ = some (.int .i64 (pr : Nat)) ∧ W.cell? ⟨xl, 0, none⟩ = some (.int .u64 (lo (ofS ll))) ∧ W.cell? ⟨xl, 1, none⟩ = some (.int .u64 (hi (ofS ll))) ∧ W.cell? ⟨xr, 0, none⟩ = some (.int .u64 (lo (ofS lr))) ∧ W.cell? ⟨xr, 1, none⟩ = some (.int .u64 (hi (ofS lr))))) (by kernel_rfl) ?_ (fun hHeld => ?_))
          · exact F.out _ hB0.out
          (refine takeL (i := 0) (v := ?_) rfl (by kernel_rfl) (by kernel_rfl) (by kernel_rfl) (fun _ _ _ h => h) (Or.inl ⟨by rfl, ?_⟩) (by assumption) ?_)
          rotate_left
          · (intro w hSw; (try dsimp only at hSw); go_simp; first | done | with_reducible rfl)
          (try simp only [Act.put, List.setIfInBounds_toArray, List.set_cons_zero, List.set_cons_succ])
          (refine takeL (i := 1) (v := ?_) rfl (by kernel_rfl) (by kernel_rfl) (by kernel_rfl) (fun _ _ _ h => h) (Or.inl ⟨by rfl, ?_⟩) (by assumption) ?_)
          rotate_left
          · (intro w hSw; (try dsimp only at hSw); go_simp; first | done | with_reducible rfl)
          (try simp only [Act.put, List.setIfInBounds_toArray, List.set_cons_zero, List.set_cons_succ])
          (refine takeL (i := 2) (v := ?_) rfl (by kernel_rfl) (by kernel_rfl) (by kernel_rfl) (fun _ _ _ h => h) (Or.inl ⟨by rfl, ?_⟩) (by assumption) ?_)
          rotate_left
          · (intro w hSw; (try dsimp only at hSw); go_simp; first | done | with_reducible rfl)
          (try simp only [Act.put, List.setIfInBounds_toArray, List.set_cons_zero, List.set_cons_succ])
          (refine takeL (i := 3) (v := ?_) rfl (by kernel_rfl) (by kernel_rfl) (by kernel_rfl) (fun _ _ _ h => h) (Or.inl ⟨by rfl, ?_⟩) (by assumption) ?_)
          rotate_left
          · (intro w hSw; (try dsimp only at hSw); go_simp; first | done | with_reducible rfl)
          (try simp only [Act.put, List.setIfInBounds_toArray, List.set_cons_zero, List.set_cons_succ])
          (refine takeL (i := 4) (v := ?_) rfl (by kernel_rfl) (by kernel_rfl) (by kernel_rfl) (fun _ _ _ h => h) (Or.inl ⟨by rfl, ?_⟩) (by assumption) ?_)
          rotate_left
          · (intro w hSw; (try dsimp only at hSw); go_simp; first | done | with_reducible rfl)
          (try simp only [Act.put, List.setIfInBounds_toArray, List.set_cons_zero, List.set_cons_succ])
          (refine takeL (i := 5) (v := ?_) rfl (by kernel_rfl) (by kernel_rfl) (by kernel_rfl) (fun _ _ _ h => h) (Or.inl ⟨by rfl, ?_⟩) (by assumption) ?_)
          rotate_left
          · (intro w hSw; (try dsimp only at hSw); go_simp; first | done | with_reducible rfl)
          (try simp only [Act.put, List.setIfInBounds_toArray, List.set_cons_zero, List.set_cons_succ])
          (refine takeL (i := 6) (v := ?_) rfl (by kernel_rfl) (by kernel_rfl) (by kernel_rfl) (fun _ _ _ h => h) (Or.inl ⟨by rfl, ?_⟩) (by assumption) ?_)
          rotate_left
          · (intro w hSw; (try dsimp only at hSw); go_simp; first | done | with_reducible rfl)
          (try simp only [Act.put, List.setIfInBounds_toArray, List.set_cons_zero, List.set_cons_succ])
          (refine takeL (i := 7) (v := ?_) rfl (by kernel_rfl) (by kernel_rfl) (by kernel_rfl) (fun _ _ _ h => h) (Or.inl ⟨by rfl, ?_⟩) (by assumption) ?_)
          rotate_left
          · (intro w hSw; (try dsimp only at hSw); go_simp; first | done | with_reducible rfl)
          (try simp only [Act.put, List.setIfInBounds_toArray, List.set_cons_zero, List.set_cons_succ])
          (refine takeL (i := 8) (v := ?_) rfl (by kernel_rfl) (by kernel_rfl) (by kernel_rfl) (fun _ _ _ h => h) (Or.inl ⟨by rfl, ?_⟩) (by assumption) ?_)
          rotate_left
          · (intro w hSw; (try dsimp only at hSw); go_simp; first | done | with_reducible rfl)
          (try simp only [Act.put, List.setIfInBounds_toArray, List.set_cons_zero, List.set_cons_succ])
          (refine takeL (i := 9) (v := ?_) rfl (by kernel_rfl) (by kernel_rfl) (by kernel_rfl) (fun _ _ _ h => h) (Or.inl ⟨by rfl, ?_⟩) (by assumption) ?_)
          rotate_left
          · (intro w hSw; (try dsimp only at hSw); go_simp; first | done | with_reducible rfl)
          (try simp only [Act.put, List.setIfInBounds_toArray, List.set_cons_zero, List.set_cons_succ])
          (refine takeL (i := 10) (v := ?_) rfl (by kernel_rfl) (by kernel_rfl) (by kernel_rfl) (fun _ _ _ h => h) (Or.inl ⟨by rfl, ?_⟩) (by assumption) ?_)
          rotate_left
          · (intro w hSw; (try dsimp only at hSw); go_simp; first | done | with_reducible rfl)
          (try simp only [Act.put, List.setIfInBounds_toArray, List.set_cons_zero, List.set_cons_succ])
          (refine takeL (i := 11) (v := ?_) rfl (by kernel_rfl) (by kernel_rfl) (by kernel_rfl) (fun _ _ _ h => h) (Or.inl ⟨by rfl, ?_⟩) (by assumption) ?_)
          rotate_left
          · (intro w hSw; (try dsimp only at hSw); go_simp; first | done | with_reducible rfl)
          (try simp only [Act.put, List.setIfInBounds_toArray, List.set_cons_zero, List.set_cons_succ])
          (refine takeL (i := 14) (v := ?_) rfl (by kernel_rfl) (by kernel_rfl) (by kernel_rfl) (fun _ _ _ h => h) (Or.inl ⟨by rfl, ?_⟩) (by assumption) ?_)
          rotate_left
          · (intro w hSw; (try dsimp only at hSw); go_simp; first | done | with_reducible rfl)
          (try simp only [Act.put, List.setIfInBounds_toArray, List.set_cons_zero, List.set_cons_succ])
          (refine wpAnyH_ready (rs := [12]) (by kernel_rfl) (by simp) ?_)
          (refine consL rfl (fun K hK => ?_))
          ((rw [if_pos (by rfl)]); go_simp; (go_at_call 24); refine (hBel.out _ hB0.out).mono ?_; rintro e wa ⟨va, rfl, hoa, hba⟩; have hBa := Lib.hid (hB0.out.trans hba); have hoa := Lib.hid hoa; clear hba; refine hK.out _ _ (F.out _ hBa.out) (fun hHeld => ?_))
          (clear hK K)
          (try simp only [Act.put, List.setIfInBounds_toArray, List.set_cons_zero, List.set_cons_succ])
          (refine wpAnyH_ready (rs := [13]) (by kernel_rfl) (by simp) ?_)
          (refine consL rfl (fun K hK => ?_))
          ((rw [if_pos (by rfl)]); go_simp; (go_at_call 27); refine (hOfq.out wa va _ hoa.out).mono ?_; rintro e wb ⟨rfl, hbb⟩; have hBb := Lib.hid (hBa.out.trans (hbb.mono hBa.out.size)); clear hbb; refine hK.out _ _ (F.out _ hBb.out) (fun hHeld => ?_))
          (clear hK K)
          (try simp only [Act.put, List.setIfInBounds_toArray, List.set_cons_zero, List.set_cons_succ])
          (refine wpAnyH_ready (rs := [15]) (by kernel_rfl) (by simp) ?_)
          (refine consL rfl (fun K hK => ?_))
          ((rw [if_pos (by rfl)]); go_simp; (go_at_call 28); refine (hSubq.out wb).mono ?_; rintro e wc ⟨rfl, hxc⟩; have hBc := Lib.hid (hBb.out.trans (hxc.below.mono hBb.out.size)); clear hxc; refine hK.out _ _ (F.out _ hBc.out) (fun hHeld => ?_))
          (clear hK K)
          (try simp only [Act.put, List.setIfInBounds_toArray, List.set_cons_zero, List.set_cons_succ])
          (refine takeL (i := 16) (v := ?_) rfl (by kernel_rfl) (by kernel_rfl) (by kernel_rfl) (fun _ _ _ h => h) (Or.inl ⟨by rfl, ?_⟩) (by assumption) ?_)
          rotate_left
          · (intro w hSw; (try dsimp only at hSw); go_simp; first | done | with_reducible rfl)
          (try simp only [Act.put, List.setIfInBounds_toArray, List.set_cons_zero, List.set_cons_succ])
          (refine takeL (i := 17) (v := ?_) rfl (by kernel_rfl) (by kernel_rfl) (by kernel_rfl) (fun _ _ _ h => h) (Or.inl ⟨by rfl, ?_⟩) (by assumption) ?_)
          rotate_left
          · (intro w hSw; (try dsimp only at hSw); go_simp; first | done | with_reducible rfl)
          (try simp only [Act.put, List.setIfInBounds_toArray, List.set_cons_zero, List.set_cons_succ])
          (refine takeL (i := 18) (v := ?_) rfl (by kernel_rfl) (by kernel_rfl) (by kernel_rfl) (fun _ _ _ h => h) (Or.inl ⟨by rfl, ?_⟩) (by assumption) ?_)
          rotate_left
          · (intro w hSw; (try dsimp only at hSw); go_simp; first | done | with_reducible rfl)
          (try simp only [Act.put, List.setIfInBounds_toArray, List.set_cons_zero, List.set_cons_succ])
          (refine takeL (i := 19) (v := ?_) rfl (by kernel_rfl) (by kernel_rfl) (by kernel_rfl) (fun _ _ _ h => h) (Or.inl ⟨by rfl, ?_⟩) (by assumption) ?_)
          rotate_left
          · (intro w hSw; (try dsimp only at hSw); go_simp; first | done | with_reducible rfl)
          (try simp only [Act.put, List.setIfInBounds_toArray, List.set_cons_zero, List.set_cons_succ])
          (refine takeL (i := 20) (v := ?_) rfl (by kernel_rfl) (by kernel_rfl) (by kernel_rfl) (fun _ _ _ h => h) (Or.inl ⟨by rfl, ?_⟩) (by assumption) ?_)
          rotate_left
          · (intro w hSw; (try dsimp only at hSw); go_simp; first | done | with_reducible rfl)
          (try simp only [Act.put, List.setIfInBounds_toArray, List.set_cons_zero, List.set_cons_succ])
          (refine takeL (i := 21) (v := ?_) rfl (by kernel_rfl) (by kernel_rfl) (by kernel_rfl) (fun _ _ _ h => h) (Or.inl ⟨by rfl, ?_⟩) (by assumption) ?_)
          rotate_left
          · (intro w hSw; (try dsimp only at hSw); go_simp; first | done | with_reducible rfl)
          (try simp only [Act.put, List.setIfInBounds_toArray, List.set_cons_zero, List.set_cons_succ])
          (refine takeL (i := 22) (v := ?_) rfl (by kernel_rfl) (by kernel_rfl) (by kernel_rfl) (fun _ _ _ h => h) (Or.inl ⟨by rfl, ?_⟩) (by assumption) ?_)
          rotate_left
          · (intro w hSw; (try dsimp only at hSw); go_simp; first | done | with_reducible rfl)
          (try simp only [Act.put, List.setIfInBounds_toArray, List.set_cons_zero, List.set_cons_succ])
          (refine takeL (i := 23) (v := _) rfl (by kernel_rfl) (by kernel_rfl) (by kernel_rfl) (fun _ _ _ h => h) (Or.inr ⟨by rfl, rfl⟩) (by assumption) ?_)
          (try simp only [Act.put, List.setIfInBounds_toArray, List.set_cons_zero, List.set_cons_succ])
          (refine takeL (i := 24) (v := _) rfl (by kernel_rfl) (by kernel_rfl) (by kernel_rfl) (fun _ _ _ h => h) (Or.inr ⟨by rfl, rfl⟩) (by assumption) ?_)
          (try simp only [Act.put, List.setIfInBounds_toArray, List.set_cons_zero, List.set_cons_succ])
          (refine takeL (i := 25) (v := _) rfl (by kernel_rfl) (by kernel_rfl) (by kernel_rfl) (fun _ _ _ h => h) (Or.inr ⟨by rfl, rfl⟩) (by assumption) ?_)
          (try simp only [Act.put, List.setIfInBounds_toArray, List.set_cons_zero, List.set_cons_succ])
          (refine takeL (i := 26) (v := _) rfl (by kernel_rfl) (by kernel_rfl) (by kernel_rfl) (fun _ _ _ h => h) (Or.inr ⟨by rfl, rfl⟩) (by assumption) ?_)
          (try simp only [Act.put, List.setIfInBounds_toArray, List.set_cons_zero, List.set_cons_succ])
          (refine takeL (i := 27) (v := _) rfl (by kernel_rfl) (by kernel_rfl) (by kernel_rfl) (fun _ _ _ h => h) (Or.inr ⟨by rfl, rfl⟩) (by assumption) ?_)
          (try simp only [Act.put, List.setIfInBounds_toArray, List.set_cons_zero, List.set_cons_succ])
          (refine takeL (i := 28) (v := _) rfl (by kernel_rfl) (by kernel_rfl) (by kernel_rfl) (fun _ _ _ h => h) (Or.inr ⟨by rfl, rfl⟩) (by assumption) ?_)
          (try simp only [Act.put, List.setIfInBounds_toArray, List.set_cons_zero, List.set_cons_succ])
          (refine takeL (i := 29) (v := _) rfl (by kernel_rfl) (by kernel_rfl) (by kernel_rfl) (fun _ _ _ h => h) (Or.inr ⟨by rfl, rfl⟩) (by assumption) ?_)
          (try simp only [Act.put, List.setIfInBounds_toArray, List.set_cons_zero, List.set_cons_succ])
          (refine takeL (i := 30) (v := ?_) rfl (by kernel_rfl) (by kernel_rfl) (by kernel_rfl) (fun _ _ _ h => h) (Or.inl ⟨by rfl, ?_⟩) (by assumption) ?_)
          rotate_left
          · (intro w hSw; (try dsimp only at hSw); go_simp; first | done | with_reducible rfl)
          (try simp only [Act.put, List.setIfInBounds_toArray, List.set_cons_zero, List.set_cons_succ])
          (refine takeL (i := 31) (v := ?_) rfl (by kernel_rfl) (by kernel_rfl) (by kernel_rfl) (fun _ _ _ h => h) (Or.inl ⟨by rfl, ?_⟩) (by assumption) ?_)
          rotate_left
          · (intro w hSw; (try dsimp only at hSw); go_simp; first | done | with_reducible rfl)
          (try simp only [Act.put, List.setIfInBounds_toArray, List.set_cons_zero, List.set_cons_succ])
          (refine wpAnyH_done (by kernel_rfl) ?_ _)
          all_goals (go_wp2_with fail; go_meet; exact ⟨rfl, hBc⟩)
        · have hg1 : decide ((Q2 : Int) ≥ 0) = true := decide_eq_true (by omega)
          obtain ⟨ls, u1, u2, u3⟩ := below_set hc.out hQ2l
          have hls := u2.len hc.out hQ2l
          have hlsv := L.nv_le hc.out hQ2l
          have hsubR := sub_sets g3 u3 hQ2u
          have hBel2 : Hid (∀ W, Below w9.heap.size w9 W → Calls Tryz.prog 24 #[.slice (some ⟨b, o, none⟩) s.tree.length cap, .int .i64 (Q2 : Nat)] W (RetOwn ls W)) := Lib.hid fun W hW => refBelow_any (s.tree.length + 1) W b o cap Q2 ls (hTw.out.below hW) (by omega) u1
          have hOf2 : Hid (∀ W v base, W.ownsRow base 3 1 v ls.length (ls.map encZ) → Calls Tryz.prog 27 #[v] W fun e w' => e = .returned (.agg #[.int .u64 (lo (ofS ls)), .int .u64 (hi (ofS ls))]) ∧ Below W.heap.size W w') := Lib.hid fun W v base hv => refOf_any ls v W (owns_slI hv) (by omega)
          have hSub2 : Hid (∀ W, Calls Tryz.prog 28 #[.agg #[.int .u64 (lo (ofS ls)), .int .u64 (hi (ofS ls))], .agg #[.int .u64 (lo (ofS lr)), .int .u64 (hi (ofS lr))]] W fun e w' => e = .returned (.bool true) ∧ Ext W w') := Lib.hid fun W => by
            have := varsSub_any (ofS ls) (ofS lr) W
            rw [hsubR] at this; exact this
          replace u1 := Lib.hid u1
          clear hsubR
          go_wp2_with fail
          first
            | (go_region_held3 (fun W => W.cell? ⟨eb, eo + i * 2, none⟩ = some (.int .i64 (pr : Nat)) ∧ W.cell? ⟨xl, 0, none⟩ = some (.int .u64 (lo (ofS ll))) ∧ W.cell? ⟨xl, 1, none⟩ = some (.int .u64 (hi (ofS ll))) ∧ W.cell? ⟨xr, 0, none⟩ = some (.int .u64 (lo (ofS lr))) ∧ W.cell? ⟨xr, 1, none⟩ = some (.int .u64 (hi (ofS lr))))
                  (first | exact F.out _ (Below.refl _ _) | exact F.out _ hB0.out | exact F.out _ hBf.out | exact F.out _ hBe.out | exact F.out _ hBd.out | exact F.out _ hBc.out | exact F.out _ hBb.out | exact F.out _ hBa.out | go_keep)
                  (first
                    | (go_at_call 24; clear hM0; refine (hBel.out _ hB0.out).mono ?_; rintro e wa ⟨va, rfl, hoa, hba⟩; have hBa := Lib.hid (hB0.out.trans hba); have hoa := Lib.hid hoa; clear hba; have hM1 : True := trivial)
                    | (go_at_call 27; clear hM1; refine (hOfq.out wa va _ hoa.out).mono ?_; rintro e wb ⟨rfl, hbb⟩; have hBb := Lib.hid (hBa.out.trans (hbb.mono hBa.out.size)); clear hbb; have hM2 : True := trivial)
                    | (go_at_call 28; clear hM2; refine (hSubq.out wb).mono ?_; rintro e wc ⟨rfl, hxc⟩; have hBc := Lib.hid (hBb.out.trans (hxc.below.mono hBb.out.size)); clear hxc; have hM3 : True := trivial)
                    | (go_at_call 24; clear hM3; refine (hBel2.out _ hBc.out).mono ?_; rintro e wd ⟨vd, rfl, hod, hbd⟩; have hBd := Lib.hid (hBc.out.trans (hbd.mono hBc.out.size)); have hod := Lib.hid hod; clear hbd; have hM4 : True := trivial)
                    | (go_at_call 27; clear hM4; refine (hOf2.out wd vd _ hod.out).mono ?_; rintro e we ⟨rfl, hbe⟩; have hBe := Lib.hid (hBd.out.trans (hbe.mono hBd.out.size)); clear hbe; have hM5 : True := trivial)
                    | (go_at_call 28; clear hM5; refine (hSub2.out we).mono ?_; rintro e wf ⟨rfl, hxf⟩; have hBf := Lib.hid (hBe.out.trans (hxf.below.mono hBe.out.size)); clear hxf; have hM6 : True := trivial)))
            | fail
          all_goals (go_wp2_with fail; go_meet; exact ⟨rfl, hBf⟩)
      case rest =>
        obtain ⟨rfl, hBc⟩ := hcut
        have hSc := hS9.out.below hBc.out
        have hinner : Hid (∃ s', SS s.tree B6 w6 0 s' wc ∧ L.Step s1 s') := Lib.hid ⟨s1, hSc, L.Step.refl hSc.inv⟩
        clear F hBel hOfq hSubq hB0 hS9 hM0 a0 a1 a2 a3 e1' hTw hSc
        go_wp2_with fail
        go_loopw [17] (fun kv wi => ∃ k : Nat, k ≤ i ∧ kv = .int .i64 k ∧ Hid (∃ s', SS s.tree B6 w6 0 s' wi ∧ L.Step s1 s')) (fun kv _ => i - (intOf kv).toNat)
        case atStart => exact ⟨0, Nat.zero_le _, rfl, hinner⟩
        case round =>
          clear hinner hBc
          obtain ⟨k, hki, rfl, hJ⟩ := hrel
          obtain ⟨s2, hS2, hT2⟩ := hJ.out
          clear hJ
          have hT02 := hT1.out.trans hT2
          by_cases hlk : k < i
          · have hPF := pair_facts h.out.inv hn.out hd.out hp.out hlk hlt
            have hkl : k < n.el.length := by omega
            obtain ⟨_, k3, k4⟩ := flat_at n.el k hkl
            rw [hpe] at hPF
            generalize hpk : n.el[k] = q at *
            obtain ⟨pr2, su2⟩ := q
            simp only at hPF k3 k4
            have hne := hPF.ne
            have hAnd := and_none (hS2.below (Below.refl _ _).drew) h7 (Val.step ⟨hPF.ql, fun _ => rfl⟩ h.out.inv hT02) (Val.step ⟨hPF.pl, fun _ => rfl⟩ h.out.inv hT02) hPF.no
            have FS : Hid (∀ (s' : St) (W : World), SS s.tree B6 w6 0 s' W → W.cell? ⟨eb, eo + i * 2, none⟩ = some (.int .i64 (pr : Nat)) ∧ W.cell? ⟨eb, eo + k * 2, none⟩ = some (.int .i64 (pr2 : Nat)) ∧ W.cell? ⟨eb, eo + i * 2 + 1, none⟩ = some (.int .i64 (su : Nat)) ∧ W.cell? ⟨eb, eo + k * 2 + 1, none⟩ = some (.int .i64 (su2 : Nat)) ∧ W.cell? ⟨xl, 0, none⟩ = some (.int .u64 (lo (ofS ll))) ∧ W.cell? ⟨xl, 1, none⟩ = some (.int .u64 (hi (ofS ll)))) :=
              Lib.hid fun s' W hS => ⟨hE6.out.get hS k1.out, hE6.out.get hS k3, by rw [Nat.add_assoc]; exact hE6.out.get hS k2.out, by rw [Nat.add_assoc]; exact hE6.out.get hS k4, (hbox.out _ _ hS).1⟩
            obtain ⟨g1, g2, _⟩ := FS.out _ _ hS2
            replace hS2 := Lib.hid hS2
            replace hPF := Lib.hid hPF
            replace hT02 := Lib.hid hT02
            replace hT2 := Lib.hid hT2
            replace hV1 := Lib.hid hV1
            replace hpm := Lib.hid hpm
            replace hpe := Lib.hid hpe
            replace hpk := Lib.hid hpk
            clear k3 k4
            go_wp2_with fail
            go_region_held3 (fun W => W.cell? ⟨eb, eo + i * 2, none⟩ = some (.int .i64 (pr : Nat)) ∧ W.cell? ⟨eb, eo + k * 2, none⟩ = some (.int .i64 (pr2 : Nat)))
                  (first | exact ⟨(FS.out _ _ hS2.out).1, (FS.out _ _ hS2.out).2.1⟩ | exact ⟨(FS.out _ _ (hS2.out.below (Below.refl _ _).drew)).1, (FS.out _ _ (hS2.out.below (Below.refl _ _).drew)).2.1⟩ | exact ⟨(FS.out _ _ hS3.out).1, (FS.out _ _ hS3.out).2.1⟩ | go_keep)
                  (first
                    | (go_at_call 17; refine hAnd.mono ?_; rintro e wa ⟨rfl, s3, hS3, hT3⟩; have hS3 := Lib.hid hS3; have hT3 := Lib.hid hT3))
            have hT03 : Hid (L.Step s s3) := Lib.hid (hT02.out.trans hT3.out)
            have hT13 : Hid (L.Step s1 s3) := Lib.hid (hT2.out.trans hT3.out)
            clear hAnd g1 g2
            have G1 : Hid (∀ wq, Below wa.heap.size wa wq → wq.cell? ⟨eb, eo + i * 2, none⟩ = some (.int .i64 (pr : Nat)) ∧ wq.cell? ⟨eb, eo + k * 2, none⟩ = some (.int .i64 (pr2 : Nat)) ∧ wq.cell? ⟨eb, eo + i * 2 + 1, none⟩ = some (.int .i64 (su : Nat)) ∧ wq.cell? ⟨eb, eo + k * 2 + 1, none⟩ = some (.int .i64 (su2 : Nat)) ∧ wq.cell? ⟨xl, 0, none⟩ = some (.int .u64 (lo (ofS ll))) ∧ wq.cell? ⟨xl, 1, none⟩ = some (.int .u64 (hi (ofS ll)))) := Lib.hid fun wq hq => FS.out _ _ (hS3.out.below hq)
            have G2 : Hid (∀ wq, Below wa.heap.size wa wq → Calls Tryz.prog 30 #[.pointer (some ⟨B6.sb, 0, none⟩), .int .i64 (pr2 : Nat), .agg #[.int .u64 (lo (ofS ll)), .int .u64 (hi (ofS ll))]] wq fun e w' => e = .returned (.agg #[.int .u64 (lo (leOf s.nodes pr2)), .int .u64 (hi (leOf s.nodes pr2))]) ∧ Below wq.heap.size wq w') := Lib.hid fun wq hq => least_c (hS3.out.below hq) h7 h.out.inv hT03.out (by omega) f3 hPF.out.pl hPF.out.p1 hPF.out.pd
            have G3 : Hid (∀ wq, Below wa.heap.size wa wq → Calls Tryz.prog 30 #[.pointer (some ⟨B6.sb, 0, none⟩), .int .i64 (pr : Nat), .agg #[.int .u64 (lo (ofS ll)), .int .u64 (hi (ofS ll))]] wq fun e w' => e = .returned (.agg #[.int .u64 (lo (leOf s.nodes pr)), .int .u64 (hi (leOf s.nodes pr))]) ∧ Below wq.heap.size wq w') := Lib.hid fun wq hq => least_c (hS3.out.below hq) h7 h.out.inv hT03.out (by omega) f3 hPF.out.ql hPF.out.q1 hPF.out.qd
            have G4 : Hid (∀ wq, Below wa.heap.size wa wq → Calls Tryz.prog 29 #[.agg #[.int .u64 (lo (leOf s.nodes pr2)), .int .u64 (hi (leOf s.nodes pr2))], .agg #[.int .u64 (lo (leOf s.nodes pr)), .int .u64 (hi (leOf s.nodes pr))]] wq fun e w' => e = .returned (.bool true) ∧ Ext wq w') := Lib.hid fun wq hq => less_c _ _ wq (hS3.out.below hq).tz hPF.out.lt
            have dne : (((su : Nat) : Int) == ((su2 : Nat) : Int)) = false := by simp only [beq_eq_false_iff_ne, ne_eq]; omega
            clear hne
            go_wp2_with fail
            (refine wp_region_belowB (by kernel_rfl) (by kernel_rfl) ?_
             repeat (refine wpQuiet_step (fun K hK => ?_)
                     go_simp
                     first
                       | (refine hK _ ?_; clear hK K)
                       | (replace hK := Lib.hid hK
                          apply Exists.intro
                          refine ⟨fun wq hq => ?_, hK.out _ ?_⟩
                          · (obtain ⟨f1, f2, f3', f4, f5, f6⟩ := G1.out wq hq)
                            go_simp
                            first
                              | done
                              | rfl
                              | exact ⟨rfl, rfl⟩
                              | ((with_reducible refine (G2.out wq hq).mono ?_); rintro e w' ⟨rfl, hb⟩; exact ⟨rfl, hq.trans (hb.mono hq.size)⟩) | ((with_reducible refine (G3.out wq hq).mono ?_); rintro e w' ⟨rfl, hb⟩; exact ⟨rfl, hq.trans (hb.mono hq.size)⟩) | ((with_reducible refine (G4.out wq hq).mono ?_); rintro e w' ⟨rfl, hb⟩; exact ⟨rfl, hq.trans (hb.below.mono hq.size)⟩)
                          clear hK K))
             refine wpQuiet_nil ?_)
            intro w8 hb8
            have hnext : Hid (∃ s', SS s.tree B6 w6 0 s' w8 ∧ L.Step s1 s') := Lib.hid ⟨s3, hS3.out.below hb8, hT13.out⟩
            go_wp2_with fail
            go_roundw
            case rel => exact ⟨k + 1, by omega, by go_num, hnext⟩
            case measure => simp [intOf]; omega
          · obtain rfl : k = i := by omega
            have hOr := or_c (k' := 0) (c := 0) (d := 0) hS2 (free_cost hc.out h7).1 (free_cost hc.out h7).2 (by omega) (hV1.step hS1i hT2) (Val.step ⟨by have := hkid.1; have := (List.getElem?_eq_some_iff.1 hn.out).1; omega, fun _ => rfl⟩ h.out.inv hT02 : Val s2 pr (L.sem s.nodes pr))
            have e1 := hE6.out.get hS2 k1.out
            have hanys := any_succ s n.el k hlt
            rw [hpe] at hanys
            replace hS2 := Lib.hid hS2
            replace hanys := Lib.hid hanys
            replace hT02 := Lib.hid hT02
            replace hT2 := Lib.hid hT2
            replace hV1 := Lib.hid hV1
            replace hpm := Lib.hid hpm
            replace hpe := Lib.hid hpe
            go_wp2_with fail
            refine hOr.mono ?_
            rintro e w8 ⟨r, s4, rfl, hS4, hT4, hV4⟩
            have hnext : Hid (∃ s', SS s.tree B6 w6 0 s' w8 ∧ L.Step s s' ∧ Val s' r (anyφ s n.el (k + 1))) := Lib.hid ⟨s4, hS4, hT02.out.trans hT4, hV4.congr fun x => (hanys.out x).symm⟩
            clear hOr hS4
            go_wp2_with fail
            go_roundw
            case rel => exact ⟨k + 1, r, by omega, by go_num, rfl, hnext⟩
            case measure => simp [intOf]; omega
    · obtain rfl : i = n.el.length := by omega
      have hc1 : c = 1 := hS1.inv.const1 hV1.lt fun x => by
        rw [hV1.sem]
        unfold anyφ
        rw [List.take_length, List.any_eq_true]
        obtain ⟨p, hp1, hp2⟩ := hp.out.cover x
        exact ⟨p, hp1, hp2⟩
      subst hc1
      have hend : Hid (∃ s', SS s.tree B w 0 s' wr ∧ L.Step s s') := Lib.hid ⟨s1, SS.then (k := 0) (s := s1) hSt.out hS1, hT1⟩
      clear hV1
      replace hS1 := Lib.hid hS1
      replace hT1 := Lib.hid hT1
      go_wp2_with fail
      go_ret
      exact ⟨rfl, hend.out⟩
end Go.Proofs.YtgphkbnoflfneaaGreatDoor
