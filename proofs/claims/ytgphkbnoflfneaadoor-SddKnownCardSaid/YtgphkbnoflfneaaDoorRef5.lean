import Derived.Test.YtgphkbnoflfneaaDoorRef3
namespace Go.Proofs.YtgphkbnoflfneaaDoor
open Go Go.RowKit

/-- the variables below a place, as the reference lists them -/
def belowR (t : List VN) : Nat → Nat → Option (List Int)
  | 0, _ => none
  | f + 1, v => match t[v]? with
    | none => none
    | some x =>
      if x.left < 0 then some [x.var]
      else match belowR t f x.left.toNat, belowR t f x.right.toNat with
        | some a, some b => if 0 ≤ x.right ∧ a ≠ [] ∧ b ≠ [] ∧ a.length ≤ 128 ∧ b.length ≤ 128 ∧ listV (ofS (a ++ b)) ≠ [] then some (listV (ofS (a ++ b))) else none
        | _, _ => none
/-- what a function answers that returns a new list -/
def RetOwn (l : List Int) (w : World) : Ending → World → Prop := fun e w' => ∃ v, e = .returned v ∧ w'.ownsRow w.heap.size 3 1 v l.length (l.map encZ) ∧ Below w.heap.size w w'

theorem own_lift {w w' : World} {B n : Nat} {v : Value} {l : List Int} (h : w.ownsRow B 3 1 v n (l.map encZ)) (hb : Below w.heap.size w w') : w'.ownsRow B 3 1 v n (l.map encZ) :=
  ownsRow_same h (fun _ hg => hb.block _ (own_lt h hg).1)
theorem own_lift' {w w' : World} {B n : Nat} {v : Value} {xs : List Value} (h : w.ownsRow B 3 1 v n xs) (hb : Below w.heap.size w w') : w'.ownsRow B 3 1 v n xs :=
  ownsRow_same h (fun _ hg => hb.block _ (own_lt h hg).1)
theorem news_lift {w w' : World} {ad : Addr} {xs : List Value} (h : ∀ j u, xs[j]? = some u → w.cell? (ad.add j) = some u) (hb : Below w.heap.size w w') : ∀ j u, xs[j]? = some u → w'.cell? (ad.add j) = some u :=
  fun j u hj => (hb.cell (World.block_lt_of_cell? w _ (h j u hj))).trans (h j u hj)
theorem news_grown {w w' : World} {g : Nat} {row : Option Nat} {xs : List Value} (h : ∀ j u, xs[j]? = some u → w.cell? (Addr.add ⟨g, 0, none⟩ j) = some u) (hg : w.grownBy w' row) (hne : row ≠ some g) : ∀ j u, xs[j]? = some u → w'.cell? (Addr.add ⟨g, 0, none⟩ j) = some u := by
  intro j u hj
  have h1 := h j u hj
  have hb : (Addr.add ⟨g, 0, none⟩ j).block = g := by unfold Addr.add; split <;> rfl
  rw [← h1]
  refine hg.cell_far _ (World.block_lt_of_cell? w _ h1) ?_
  rw [hb]; exact fun e => hne e.symm
theorem own_none {w : World} {B : Nat} (hB : B ≤ w.heap.size) : (w.alloc (.cells #[] 3)).ownsRow B 3 1 (.slice (some ⟨w.heap.size, 0, none⟩) 0 0) 0 (([] : List Int).map encZ) :=
  ⟨rfl, .inr ⟨w.heap.size, 0, #[], rfl, hB, heap_alloc_new w _, by first | omega | decide | simp, by first | omega | decide | simp, by first | omega | decide | simp, by first | rfl | simp⟩⟩

set_option maxRecDepth 100000 in
set_option maxHeartbeats 20000000 in
theorem refBelow_any {t : List VN} (f : Nat) : ∀ (w : World) (b o cap v : Nat) (l : List Int), TreeAt w b o t → t.length ≤ 1048576 → belowR t f v = some l →
    Calls Tryd.prog 34 #[.slice (some ⟨b, o, none⟩) t.length cap, .int .i64 v] w (RetOwn l w) := by
  induction f with
  | zero => intro w b o cap v l _ _ h; cases h
  | succ f ih =>
    intro w b o cap v l ht htl h
    rw [belowR] at h
    split at h
    · cases h
    rename_i x hx
    have hv : v < t.length := (List.getElem?_eq_some_iff.1 hx).1
    have hxe : t[v] = x := (List.getElem?_eq_some_iff.1 hx).2
    obtain ⟨n0, n1, n2⟩ := ht.node hv
    rw [hxe] at n0 n1 n2
    clear hx hxe
    obtain ⟨xl, xr, xv⟩ := x
    simp only at h n0 n1 n2
    have q0 : (0 : Int) ≤ v := by omega
    have q1 : (v : Int) < t.length := by omega
    have q2 : decide ((0 : Int) ≤ v) = true := decide_eq_true q0
    split at h
    · rename_i hlf
      have d0 : decide (xl < 0) = true := decide_eq_true hlf
      cases h
      have hfin : RetOwn [xv] w (.returned (.slice (some ⟨w.heap.size, 0, none⟩) 1 1)) (w.alloc (.cells #[.int .i64 xv] 3)) :=
        ⟨_, rfl, ⟨rfl, .inr ⟨w.heap.size, 1, #[.int .i64 xv], rfl, Nat.le_refl _, heap_alloc_new w _, by simp only [List.length_cons, List.length_nil]; omega, by decide, rfl, rfl⟩⟩, (Below.refl _ w).alloc (Nat.le_refl _) _⟩
      clear ht ih
      go_enter Tryd.func34, Tryd.ntmps34
      go_wp2_with fail
      go_ret
      exact hfin
    rename_i hlf
    have d0 : decide (xl < 0) = false := decide_eq_false hlf
    obtain ⟨nl, rfl⟩ : ∃ n : Nat, xl = n := ⟨xl.toNat, by omega⟩
    split at h
    case h_2 => cases h
    rename_i l1 l2 hl1 hl2
    split at h
    case isFalse => cases h
    rename_i hcond
    obtain ⟨hr, hne1, hne2, hs1, hs2, hne⟩ := hcond
    obtain ⟨nr, rfl⟩ : ∃ n : Nat, xr = n := ⟨xr.toNat, by omega⟩
    simp only [Int.toNat_natCast] at hl1 hl2
    cases h
    have hc1 : ∀ W, Below w.heap.size w W → Calls Tryd.prog 34 #[.slice (some ⟨b, o, none⟩) t.length cap, .int .i64 nl] W (RetOwn l1 W) := fun W hW =>
      ih W b o cap nl l1 (fun j u hj => (hW.cell (World.block_lt_of_cell? w _ (ht j u hj))).trans (ht j u hj)) htl hl1
    have hc2 : ∀ W, Below w.heap.size w W → Calls Tryd.prog 34 #[.slice (some ⟨b, o, none⟩) t.length cap, .int .i64 nr] W (RetOwn l2 W) := fun W hW =>
      ih W b o cap nr l2 (fun j u hj => (hW.cell (World.block_lt_of_cell? w _ (ht j u hj))).trans (ht j u hj)) htl hl2
    have F : ∀ W, Below w.heap.size w W → W.cell? ⟨b, o + v * 3, none⟩ = some (.int .i64 nl) ∧ W.cell? ⟨b, o + v * 3 + 1, none⟩ = some (.int .i64 nr) := fun W hW =>
      ⟨(hW.cell (World.block_lt_of_cell? w _ n0)).trans n0, (hW.cell (World.block_lt_of_cell? w _ n1)).trans n1⟩
    have hb0 : Hid (Below w.heap.size w w) := Lib.hid (Below.refl _ w)
    obtain ⟨i0, hi0, hz0, hz1, hz2⟩ := info_parts int_info
    have hlen1 : (l1.map encZ).length = l1.length * 1 := by simp
    have hlen2 : (l2.map encZ).length = l2.length * 1 := by simp
    have hone : ∀ l : List Int, ∀ u ∈ l.map encZ, u.oneCell' = true := fun l u hu => by
      obtain ⟨z, _, rfl⟩ := List.mem_map.1 hu; rfl
    have hp1 : 0 < l1.length := List.length_pos_iff.2 hne1
    have hp2 : 0 < l2.length := List.length_pos_iff.2 hne2
    clear ih ht hl1 hl2 n2
    have hbe : Below w.heap.size w (w.alloc (.cells #[] 3)).drew := ((Below.refl _ w).alloc (Nat.le_refl _) _).drew
    have hC1a := Lib.hid (hc1 w.drew (Below.refl _ w).drew)
    have hC1b := Lib.hid (hc1 (w.alloc (.cells #[] 3)).drew hbe)
    have hN : Hid ((w.alloc (.cells #[] 3)).drew.ownsRow w.heap.size 3 1 (.slice (some ⟨w.heap.size, 0, none⟩) 0 0) 0 (([] : List Int).map encZ)) := Lib.hid (own_none (Nat.le_refl _))
    have hle : w.heap.size ≤ (w.alloc (.cells #[] 3)).drew.heap.size := by simp [World.drew]
    have hbe := Lib.hid hbe
    have hle := Lib.hid hle
    replace hc1 := Lib.hid hc1
    replace hc2 := Lib.hid hc2
    replace F := Lib.hid F
    go_enter Tryd.func34, Tryd.ntmps34
    go_wp2_with fail
    clear n0 n1
    have hM0 : True := trivial
    go_region_held3 (fun W => W.cell? ⟨b, o + v * 3, none⟩ = some (.int .i64 nl) ∧ W.cell? ⟨b, o + v * 3 + 1, none⟩ = some (.int .i64 nr))
      (first | exact F.out _ hb0.out | exact F.out _ hb0.out.drew | exact F.out _ (hb0.out.alloc (Nat.le_refl _) _) | exact F.out _ (hb0.out.alloc (Nat.le_refl _) _).drew | exact F.out _ hB5.out | exact F.out _ hB4.out | exact F.out _ hB3.out | exact F.out _ hB2.out | exact F.out _ (hB2.out.alloc hB2.out.size _) | exact F.out _ hB1.out | exact F.out _ (hB1.out.alloc hB1.out.size _) | go_keep)
      (first
        | (go_at_call 34; clear hM0; refine hC1a.out.mono ?_; rintro e w1 ⟨v1, rfl, ho1, hb1⟩; have hB1 := Lib.hid (hb0.out.drew.trans hb1); obtain ⟨g1, k1, rfl, hg1, hx1⟩ := own_open ho1 hne1; have ho1 := Lib.hid ho1; have hx1 := Lib.hid hx1; clear hb1; have hM1a : True := trivial)
        | (go_at_call 34; clear hM0; refine hC1b.out.mono ?_; rintro e w1 ⟨v1, rfl, ho1, hb1⟩; have hB1 := Lib.hid (hbe.out.trans (hb1.mono hle.out)); have hD1 := Lib.hid (own_lift hN.out hb1); obtain ⟨g1, k1, rfl, hg1, hx1⟩ := own_open ho1 hne1; have ho1 := Lib.hid ho1; have hx1 := Lib.hid hx1; clear hb1; have hM1b : True := trivial)
        | (go_at_call 34; clear hM3; refine (hc2.out w3 hB3.out).mono ?_; rintro e w4 ⟨v2, rfl, ho2, hb2⟩; have hB4 := Lib.hid (hB3.out.trans (hb2.mono hB3.out.size)); have ho4 := Lib.hid (own_lift' ho3.out hb2); obtain ⟨g2, k2, rfl, hg2, hx2⟩ := own_open ho2 hne2; have ho2 := Lib.hid ho2; have hx4 := Lib.hid hx2; clear hb2; have hM4 : True := trivial)
        | (go_at_call 34; clear hM1b; refine (hc2.out w1 hB1.out).mono ?_; rintro e w2 ⟨v2, rfl, ho2, hb2⟩; have hB2 := Lib.hid (hB1.out.trans (hb2.mono hB1.out.size)); have hx1 := Lib.hid (news_lift hx1.out hb2); have hD2 := Lib.hid (own_lift hD1.out hb2); have hlt := Lib.hid (own_lt hD1.out rfl).1; obtain ⟨g2, k2, rfl, hg2, hx2⟩ := own_open ho2 hne2; have ho2 := Lib.hid ho2; have hx2 := Lib.hid hx2; clear hb2; have hM2b : True := trivial)
        | (go_at_call 34; clear hM1a; refine (hc2.out (w1.alloc (.cells #[] 3)) (hB1.out.alloc hB1.out.size _)).mono ?_; rintro e w2 ⟨v2, rfl, ho2, hb2⟩; have hB2 := Lib.hid ((hB1.out.alloc hB1.out.size _).trans (hb2.mono (hB1.out.alloc hB1.out.size _).size)); have hx1 := Lib.hid (news_lift (news_lift hx1.out ((Below.refl _ w1).alloc (Nat.le_refl _) _)) hb2); have hD2 := Lib.hid (own_lift (own_none hB1.out.size) hb2); have hlt := Lib.hid (own_lt (own_none hB1.out.size) rfl).1; obtain ⟨g2, k2, rfl, hg2, hx2⟩ := own_open ho2 hne2; have ho2 := Lib.hid ho2; have hx2 := Lib.hid hx2; clear hb2; have hM2c : True := trivial)
        | (go_at_call 34; clear hM1a; refine (hc2.out w1 hB1.out).mono ?_; rintro e w2 ⟨v2, rfl, ho2, hb2⟩; have hB2 := Lib.hid (hB1.out.trans (hb2.mono hB1.out.size)); have hx1 := Lib.hid (news_lift hx1.out hb2); obtain ⟨g2, k2, rfl, hg2, hx2⟩ := own_open ho2 hne2; have ho2 := Lib.hid ho2; have hx2 := Lib.hid hx2; clear hb2; have hM2a : True := trivial)
        | (clear hM1b; refine step_append_lies w1 (by rfl) _ _ 37 (by rfl) w.heap.size 3 i0 (.int .i64 0) 1 8 Tryd.underlying37 hi0 hz0 hz1 hz2 rfl (by decide) (.slice (some ⟨w.heap.size, 0, none⟩) 0 0) 0 (([] : List Int).map encZ) (by rfl) hD1.out ⟨g1, 0, none⟩ l1.length k1 (l1.map encZ) (by rfl) hlen1 hx1.out (hone l1) (by omega) (by unfold maxLen; omega) (by omega) (by exact hB1.out.size) _ rfl ?_; intro g3 cap3 w3 ho3 hg3 _ _; have hB3 := Lib.hid (Below.grown hB1.out hg3 (by exact hB1.out.size) (fun k e => own_ge hD1.out e)); clear hg3; rw [Nat.zero_add] at ho3; have ho3 : Hid (w3.ownsRow w.heap.size 3 1 (.slice (some ⟨g3, 0, none⟩) l1.length cap3) l1.length (l1.map encZ)) := Lib.hid ho3; have hM3 : True := trivial)
        | (clear hM1a; refine step_append_lies (w1.alloc (.cells #[] 3)) (by rfl) _ _ 37 (by rfl) w.heap.size 3 i0 (.int .i64 0) 1 8 Tryd.underlying37 hi0 hz0 hz1 hz2 rfl (by decide) (.slice (some ⟨w1.heap.size, 0, none⟩) 0 0) 0 (([] : List Int).map encZ) (by rfl) (own_none hB1.out.size) ⟨g1, 0, none⟩ l1.length k1 (l1.map encZ) (by rfl) hlen1 (news_lift hx1.out ((Below.refl _ w1).alloc (Nat.le_refl _) _)) (hone l1) (by omega) (by unfold maxLen; omega) (by omega) (by exact (hB1.out.alloc hB1.out.size _).size) _ rfl ?_; intro g3 cap3 w3 ho3 hg3 _ _; have hB3 := Lib.hid (Below.grown (hB1.out.alloc hB1.out.size _) hg3 (by exact (hB1.out.alloc hB1.out.size _).size) (fun k e => own_ge (own_none hB1.out.size) e)); clear hg3; rw [Nat.zero_add] at ho3; have ho3 : Hid (w3.ownsRow w.heap.size 3 1 (.slice (some ⟨g3, 0, none⟩) l1.length cap3) l1.length (l1.map encZ)) := Lib.hid ho3; have hM3 : True := trivial)
        | (clear hM2b; refine step_append_lies w2 (by rfl) _ _ 37 (by rfl) w.heap.size 3 i0 (.int .i64 0) 1 8 Tryd.underlying37 hi0 hz0 hz1 hz2 rfl (by decide) (.slice (some ⟨w.heap.size, 0, none⟩) 0 0) 0 (([] : List Int).map encZ) (by rfl) hD2.out ⟨g1, 0, none⟩ l1.length k1 (l1.map encZ) (by rfl) hlen1 hx1.out (hone l1) (by omega) (by unfold maxLen; omega) (by omega) (by exact hB2.out.size) _ rfl ?_; intro g3 cap3 w3 ho3 hg3 _ _; have hB3 := Lib.hid (Below.grown hB2.out hg3 (by exact hB2.out.size) (fun k e => own_ge hD2.out e)); have hx3 := Lib.hid (news_grown hx2.out hg3 (fun e => by have h1 := hlt.out; have h2 := hg2; simp only [Value.ownBlock, Option.some.injEq] at e; exact absurd (e ▸ h1) (Nat.not_lt.2 h2))); clear hg3; rw [Nat.zero_add] at ho3; have ho3 : Hid (w3.ownsRow w.heap.size 3 1 (.slice (some ⟨g3, 0, none⟩) l1.length cap3) l1.length (l1.map encZ)) := Lib.hid ho3; have hM5 : True := trivial)
        | (clear hM2c; refine step_append_lies w2 (by rfl) _ _ 37 (by rfl) w.heap.size 3 i0 (.int .i64 0) 1 8 Tryd.underlying37 hi0 hz0 hz1 hz2 rfl (by decide) (.slice (some ⟨w1.heap.size, 0, none⟩) 0 0) 0 (([] : List Int).map encZ) (by rfl) hD2.out ⟨g1, 0, none⟩ l1.length k1 (l1.map encZ) (by rfl) hlen1 hx1.out (hone l1) (by omega) (by unfold maxLen; omega) (by omega) (by exact hB2.out.size) _ rfl ?_; intro g3 cap3 w3 ho3 hg3 _ _; have hB3 := Lib.hid (Below.grown hB2.out hg3 (by exact hB2.out.size) (fun k e => own_ge hD2.out e)); have hx3 := Lib.hid (news_grown hx2.out hg3 (fun e => by have h1 := hlt.out; have h2 := hg2; simp only [Value.ownBlock, Option.some.injEq] at e; exact absurd (e ▸ h1) (Nat.not_lt.2 h2))); clear hg3; rw [Nat.zero_add] at ho3; have ho3 : Hid (w3.ownsRow w.heap.size 3 1 (.slice (some ⟨g3, 0, none⟩) l1.length cap3) l1.length (l1.map encZ)) := Lib.hid ho3; have hM5 : True := trivial)
        | (clear hM2a; refine step_append_lies (w2.alloc (.cells #[] 3)) (by rfl) _ _ 37 (by rfl) w.heap.size 3 i0 (.int .i64 0) 1 8 Tryd.underlying37 hi0 hz0 hz1 hz2 rfl (by decide) (.slice (some ⟨w2.heap.size, 0, none⟩) 0 0) 0 (([] : List Int).map encZ) (by rfl) (own_none hB2.out.size) ⟨g1, 0, none⟩ l1.length k1 (l1.map encZ) (by rfl) hlen1 (news_lift hx1.out ((Below.refl _ w2).alloc (Nat.le_refl _) _)) (hone l1) (by omega) (by unfold maxLen; omega) (by omega) (by exact (hB2.out.alloc hB2.out.size _).size) _ rfl ?_; intro g3 cap3 w3 ho3 hg3 _ _; have hB3 := Lib.hid (Below.grown (hB2.out.alloc hB2.out.size _) hg3 (by exact (hB2.out.alloc hB2.out.size _).size) (fun k e => own_ge (own_none hB2.out.size) e)); have hx3 := Lib.hid (news_grown (news_lift hx2.out ((Below.refl _ w2).alloc (Nat.le_refl _) _)) hg3 (fun e => by have h1 := (own_lt ho2.out rfl).1; simp only [Value.ownBlock, Option.some.injEq] at e; exact absurd h1 (e ▸ Nat.lt_irrefl _))); clear hg3; rw [Nat.zero_add] at ho3; have ho3 : Hid (w3.ownsRow w.heap.size 3 1 (.slice (some ⟨g3, 0, none⟩) l1.length cap3) l1.length (l1.map encZ)) := Lib.hid ho3; have hM5 : True := trivial)
        | (clear hM4; refine step_append_lies w4 (by rfl) _ _ 37 (by rfl) w.heap.size 3 i0 (.int .i64 0) 1 8 Tryd.underlying37 hi0 hz0 hz1 hz2 rfl (by decide) (.slice (some ⟨g3, 0, none⟩) l1.length cap3) l1.length (l1.map encZ) (by rfl) ho4.out ⟨g2, 0, none⟩ l2.length k2 (l2.map encZ) (by rfl) hlen2 hx4.out (hone l2) (by omega) (by unfold maxLen; omega) (by omega) (by exact hB4.out.size) _ rfl ?_; intro g5 cap5 w5 ho5 hg5 _ _; have hB5 := Lib.hid (Below.grown hB4.out hg5 (by exact hB4.out.size) (fun k e => own_ge ho4.out e)); clear hg5; have ho5 := Lib.hid ho5)
        | (clear hM5; refine step_append_lies w3 (by rfl) _ _ 37 (by rfl) w.heap.size 3 i0 (.int .i64 0) 1 8 Tryd.underlying37 hi0 hz0 hz1 hz2 rfl (by decide) (.slice (some ⟨g3, 0, none⟩) l1.length cap3) l1.length (l1.map encZ) (by rfl) ho3.out ⟨g2, 0, none⟩ l2.length k2 (l2.map encZ) (by rfl) hlen2 hx3.out (hone l2) (by omega) (by unfold maxLen; omega) (by omega) (by exact hB3.out.size) _ rfl ?_; intro g5 cap5 w5 ho5 hg5 _ _; have hB5 := Lib.hid (Below.grown hB3.out hg5 (by exact hB3.out.size) (fun k e => own_ge ho3.out e)); clear hg5; have ho5 := Lib.hid ho5))
    all_goals
      have hlen : (l1 ++ l2).length = l1.length + l2.length := by simp
      have hsl : SlI w5 (.slice (some ⟨g5, 0, none⟩) (l1.length + l2.length) cap5) (l1 ++ l2) := owns_slI (base := w.heap.size) (own_cast ho5.out hlen.symm (by simp))
      have hof := refOf_any (l1 ++ l2) _ w5 hsl (by rw [hlen]; omega)
      clear hsl
      go_wp2_with fail
      refine hof.mono ?_
      rintro e w6 ⟨rfl, hb6⟩
      have hB6 := Lib.hid (hB5.out.trans (hb6.mono hB5.out.size))
      clear hb6 hof
      have hli := refList_any (ofS (l1 ++ l2)) w6
      go_wp2_with fail
      refine hli.mono ?_
      rintro e w7 ⟨v7, rfl, ho7, hb7⟩
      have hfin : RetOwn (listV (ofS (l1 ++ l2))) w (.returned v7) w7 := ⟨_, rfl, own_base ho7 hB6.out.size, hB6.out.trans (hb7.mono hB6.out.size)⟩
      clear ho7 hb7 hli
      go_wp2_with fail
      go_ret
      exact hfin

/-- the variables of a valid vtree, as the reference lists them -/
def varsR (t : List VN) : Option (List Int) := belowR t (t.length + 1) (t.length - 1)
set_option maxRecDepth 100000 in
set_option maxHeartbeats 1000000 in
theorem refVars_any {t : List VN} (w : World) (b o cap : Nat) (l : List Int) (ht : TreeAt w b o t) (h0 : 0 < t.length) (htl : t.length ≤ 1048576) (h : varsR t = some l) :
    Calls Tryd.prog 13 #[.slice (some ⟨b, o, none⟩) t.length cap] w (RetOwn l w) := by
  have hq := refBelow_any (t.length + 1) w b o cap (t.length - 1) l ht htl h
  have e : ((t.length - 1 : Nat) : Int) = (t.length : Int) - 1 := by omega
  rw [e] at hq
  clear h ht
  go_enter Tryd.func13, Tryd.ntmps13
  go_wp2_with fail
  refine hq.mono ?_
  rintro e w1 ⟨v1, rfl, ho1, hb1⟩
  go_wp2_with fail
  go_ret
  exact ⟨_, rfl, ho1, hb1⟩
end Go.Proofs.YtgphkbnoflfneaaDoor
