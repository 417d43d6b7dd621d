import Derived.Test.YtgphkbnoflfneaaDoorKnown
namespace Go.Proofs.YtgphkbnoflfneaaDoor
open Go Go.RowKit Go.Shelf

theorem belowR_len {t : List VN} {f v : Nat} {l : List Int} (h : belowR t f v = some l) : l.length ≤ 128 := by
  cases f with
  | zero => cases h
  | succ f =>
    rw [belowR] at h
    split at h
    · cases h
    split at h
    · cases h; simp
    split at h
    case h_2 => cases h
    split at h
    · cases h; exact listVK_len _ 128
    · cases h
/-- what holds in the inner loop of SddKnown -/
def KIn (wo w6 : World) (sb g : Nat) (fin : Nat × St) (l : List Int) (k a : Nat) (wi : World) : Prop :=
  ∃ (B : Blks) (s : St), Rep B s wi ∧ conjF 12 (l.drop k) s a = some fin ∧ Below wo.heap.size wo wi ∧ (∀ j ∈ B.mut, wo.heap.size ≤ j) ∧ wo.heap.size ≤ wi.heap.size ∧ B.sb = sb ∧ g ∉ B.mut ∧ wi.heap[g]? = w6.heap[g]? ∧ g < wi.heap.size
theorem KIn.stp {B B' : Blks} {w w' w6 : World} {g : Nat} (hS : Stp [] B w B' w') (hg : g ∉ B.mut) (he : w.heap[g]? = w6.heap[g]?) (hl : g < w.heap.size) : g ∉ B'.mut ∧ w'.heap[g]? = w6.heap[g]? ∧ g < w'.heap.size :=
  ⟨fun hc => (hS.new g hc).elim hg (fun h => by omega), (hS.fr.block g hl (fun hc => (List.mem_append.1 hc).elim hg (fun h => by cases h))).trans he, Nat.lt_of_lt_of_le hl hS.fr.size⟩

set_option maxRecDepth 100000 in
set_option maxHeartbeats 8000000 in
theorem known_any (w : World) (hT : TzTab w) (hP : PowTab w) : Calls Tryd.prog 6 #[] w fun e w' => e = .returned (.bool true) ∧ Below w.heap.size w w' := by
  go_enter Tryd.func6, Tryd.ntmps6
  go_wp2_with fail
  refine (lawLeaf_any 1 _).mono ?_
  rintro e w1 ⟨rfl, hx1⟩
  go_wp2_with fail
  refine (lawLeaf_any 2 _).mono ?_
  rintro e w2 ⟨rfl, hx2⟩
  go_wp2_with fail
  refine (lawLeaf_any 3 _).mono ?_
  rintro e w3 ⟨rfl, hx3⟩
  have hx := (hx1.trans hx2).trans hx3
  clear hx1 hx2 hx3
  go_wp2_with fail
  refine (show Code.wp _ _ _ _ (knW w3) from ?_)
  obtain ⟨hrows, hlast, hx4⟩ := knW_rows w3
  generalize w3.heap.size + 1 + 1 + 1 + 1 + 1 + 1 + 1 = gt at *
  generalize knW w3 = w4 at *
  have hx5 := hx.trans hx4
  have hT4 := hT.same (hx5.below.block _ hT.lt')
  have hP4 := hP.same (hx5.below.block _ hP.lt)
  clear hx hx4 hT hP
  replace hrows := Lib.hid hrows
  replace hlast := Lib.hid hlast
  replace hT4 := Lib.hid hT4
  replace hP4 := Lib.hid hP4
  replace hx5 := Lib.hid hx5
  go_loopw [7] (fun i wr => ∃ k : Nat, k ≤ 4 ∧ i = .int .i64 k ∧ Hid (Below w4.heap.size w4 wr)) (fun i _ => 4 - (intOf i).toNat)
  case atStart => exact ⟨0, Nat.zero_le _, rfl, Lib.hid (Below.refl _ w4)⟩
  case round =>
    obtain ⟨k, hk, rfl, hB0⟩ := hrel
    by_cases hlt : k < 4
    · obtain ⟨b, t, x, z, r0, r1, r2, r3, r4⟩ := (hrows.out k hlt).below hB0.out
      obtain ⟨l, a, s, v1, v2, v3, v4, v5, v6, v7⟩ := oneB_parts r4
      obtain ⟨wo, rfl⟩ : ∃ wo, wo = wr := ⟨wr, rfl⟩
      have hTo := hT4.out.same (hB0.out.block _ hT4.out.lt')
      have hPo := hP4.out.same (hB0.out.block _ hP4.out.lt)
      have hnew := new_ok wo b 0 t.length hTo hPo r1 v3
      obtain ⟨ht0, ht1, _⟩ := check_ok v3
      have hll := belowR_len v1
      have hneN : (newSt t).tree ≠ [] := by show t ≠ []; intro e; rw [e] at ht0; simp at ht0
      replace v1 := Lib.hid v1
      replace v2 := Lib.hid v2
      replace v3 := Lib.hid v3
      replace v6 := Lib.hid v6
      replace v7 := Lib.hid v7
      replace r1 := Lib.hid r1
      replace r4 := Lib.hid r4
      clear hTo hPo
      go_wp2_with fail
      refine hnew.mono ?_
      rintro e w5 ⟨B, rfl, hR, hm, _, _, hb5⟩
      have hvars := refVars_any w5 b 0 t.length l (r1.out.below hb5) ht0 (by omega) v1.out
      replace hR := Lib.hid hR
      clear hnew
      have r0' := (hb5.cell (World.block_lt_of_cell? wo _ r0)).trans r0
      go_wp2_with fail
      refine hvars.mono ?_
      rintro e w6 ⟨vl, rfl, ho6, hb6⟩
      have hrow : ∃ ba cp, vl = .slice ba l.length cp ∧ ∃ g, (g < w6.heap.size ∧ g ∉ B.mut) ∧ ∀ j (hj : j < l.length), ba = some ⟨g, 0, none⟩ ∧ ∀ wi : World, wi.heap[g]? = w6.heap[g]? → wi.cell? ⟨g, j, none⟩ = some (.int .i64 l[j]) := by
        cases hl0 : l with
        | nil =>
          rw [hl0] at ho6
          obtain ⟨ba, cp, e, _⟩ := owns_slI ho6
          have hmut : ∃ g, g < w6.heap.size ∧ g ∉ B.mut := by
            refine ⟨0, ?_, fun hc => ?_⟩
            · have := World.block_lt_of_cell? wo _ r0; have := hb5.size; have := hb6.size; omega
            · have := hm 0 hc; have := World.block_lt_of_cell? wo _ r0; omega
          obtain ⟨g, hg⟩ := hmut
          exact ⟨ba, cp, e, g, hg, fun j hj => by simp at hj⟩
        | cons x0 l0 =>
          rw [← hl0]
          obtain ⟨g, cp, e, hge, hc⟩ := own_open ho6 (by rw [hl0]; simp)
          have hgm : g ∉ B.mut := fun hcm => by
            obtain ⟨c, hgh⟩ := (own_lt ho6 (k := g) (by rw [e]; rfl)).2
            exact (hR.out.below hb6).not_mut hgh (by decide) (by decide) hcm
          have hcell : ∀ j (hj : j < l.length), w6.cell? ⟨g, j, none⟩ = some (.int .i64 l[j]) := fun j hj => by
            have h1 := hc j (encZ l[j]) (by rw [List.getElem?_map, List.getElem?_eq_getElem hj]; rfl)
            have hadd : (⟨g, 0, none⟩ : Addr).add j = ⟨g, j, none⟩ := by unfold Addr.add; split <;> simp_all
            rw [hadd] at h1
            exact h1
          have hgl : g < w6.heap.size := World.block_lt_of_cell? w6 _ (hcell 0 (by rw [hl0]; simp))
          refine ⟨_, cp, e, g, ⟨hgl, hgm⟩, fun j hj => ⟨rfl, fun wi hwi => ?_⟩⟩
          rw [← hcell j hj]
          simp only [World.cell?, hwi]
      obtain ⟨ba, cp, rfl, g, ⟨hgl, hgm⟩, hcell⟩ := hrow
      have hin0 : Hid (KIn wo w6 B.sb g (a, s) l 0 1 w6) := Lib.hid
        ⟨B, newSt t, hR.out.below hb6, v2.out, hb5.trans (hb6.mono hb5.size), hm, Nat.le_trans hb5.size hb6.size, rfl, hgm, rfl, hgl⟩
      clear hR hm hb5 hb6 ho6 hvars r0' hneN
      generalize B.sb = sb at *
      replace hcell := Lib.hid hcell
      go_wp2_with fail
      go_loopw [10, 12] (fun av i wi => ∃ m a' : Nat, m ≤ l.length ∧ i = .int .i64 m ∧ av = .int .i64 a' ∧ Hid (KIn wo w6 sb g (a, s) l m a' wi)) (fun _ i _ => l.length - (intOf i).toNat)
      case atStart => exact ⟨0, 1, Nat.zero_le _, rfl, rfl, hin0⟩
      case round =>
        clear hin0
        obtain ⟨m, a', hml, rfl, rfl, hI⟩ := hrel
        obtain ⟨Bi, si, hRi, hci, hBi, hmi, hni, rfl, hgi, hei, hli⟩ := hI.out
        clear hI
        by_cases hlm : m < l.length
        · rw [List.drop_eq_getElem_cons hlm] at hci
          obtain ⟨pl, bb, s1, cc, s2, k1, k2, k3, k4, k5, k6, k7, k8, k9, k10⟩ := conj_step hci
          obtain ⟨rfl, hce⟩ := hcell.out m hlm
          have hc0 := hce wr hei
          generalize l[m] = vv at *
          obtain ⟨nv, rfl⟩ : ∃ n : Nat, vv = n := ⟨vv.toNat, by omega⟩
          have hvf : varF (nv : Int) = nv := if_pos ⟨k4, k5⟩
          rw [Int.toNat_natCast] at k1
          have q1 := lit_top (l := nv) hRi k3 hvf k1 k2
          replace hRi := Lib.hid hRi
          replace hei := Lib.hid hei
          replace k2 := Lib.hid k2
          replace k9 := Lib.hid k9
          replace k10 := Lib.hid k10
          clear hci hce
          go_wp2_with fail
          refine q1.mono ?_
          rintro e w7 ⟨rfl, B7, hR7, hS7⟩
          obtain ⟨hB7, hm7, hn7⟩ := hS7.behind hBi hmi hni
          obtain ⟨hg7, he7, hl7⟩ := KIn.stp hS7 hgi hei.out hli
          have q2 := and_top (andF_law 12) hR7 k8 k6 k7 k9.out
          rw [hS7.sb] at q2
          replace hR7 := Lib.hid hR7
          replace he7 := Lib.hid he7
          clear q1
          go_wp2_with fail
          refine q2.mono ?_
          rintro e w8 ⟨rfl, B8, hR8, hS8⟩
          obtain ⟨hB8, hm8, hn8⟩ := hS8.behind hB7 hm7 hn7
          obtain ⟨hg8, he8, hl8⟩ := KIn.stp hS8 hg7 he7.out hl7
          have hnext : Hid (KIn wo w6 Bi.sb g (a, s) l (m + 1) cc w8) := Lib.hid ⟨B8, s2, hR8, k10.out, hB8, hm8, hn8, by rw [hS8.sb, hS7.sb], hg8, he8, hl8⟩
          clear hR8 he8 q2
          go_wp2_with fail
          go_roundw
          case rel => exact ⟨m + 1, cc, by omega, by go_num, rfl, hnext⟩
          case measure => simp [intOf]; omega
        · obtain rfl : m = l.length := by omega
          rw [List.drop_length] at hci
          simp only [conjF, Option.some.injEq, Prod.mk.injEq] at hci
          obtain ⟨rfl, rfl⟩ := hci
          have q1 := text_any hRi v4 v5 v6.out
          replace hRi := Lib.hid hRi
          replace hei := Lib.hid hei
          go_wp2_with fail
          refine q1.mono ?_
          rintro e w7 ⟨rfl, hb7⟩
          have hR7 := hRi.out.below hb7
          have q2 := size_any hR7 v4 v5 v7.out
          replace hR7 := Lib.hid hR7
          clear q1
          go_wp2_with fail
          refine q2.mono ?_
          rintro e w8 ⟨rfl, hb8⟩
          have hB8 := hBi.trans ((hb7.trans (hb8.mono hb7.size)).mono hni)
          have hB9 := Lib.hid (hB0.out.trans (hB8.mono hB0.out.size))
          have c2 := (hB8.cell (World.block_lt_of_cell? wo _ r2)).trans r2
          have c3 := (hB8.cell (World.block_lt_of_cell? wo _ r3)).trans r3
          clear q2 hb7 hb8 hBi r0 r2 r3
          replace hB8 := Lib.hid hB8
          have dz : ((z : Int) != z) = false := by simp
          go_wp2_with fail
          go_roundw
          case rel => exact ⟨k + 1, by omega, by go_num, hB9⟩
          case measure => simp [intOf]; omega
    · obtain rfl : k = 4 := by omega
      obtain ⟨b, r0, r1⟩ := hlast.out
      have r0' := (hB0.out.cell (World.block_lt_of_cell? w4 _ r0)).trans r0
      have r1' := TreeAt.below r1 hB0.out
      obtain ⟨wo, rfl⟩ : ∃ wo, wo = wr := ⟨wr, rfl⟩
      have hTo := hT4.out.same (hB0.out.block _ hT4.out.lt')
      have hPo := hP4.out.same (hB0.out.block _ hP4.out.lt)
      have hnew : Calls Tryd.prog 8 #[.slice (some ⟨b, 0, none⟩) 5 5] wo (RetNew kT4 wo) := new_ok wo b 0 5 hTo hPo r1' (by kernel_rfl)
      obtain ⟨a, s1, bb, s2, c, s3, d, s4, e, s5, f, s6, h1, h2, h3, h4, h5, h6, ⟨t1, t2, t3, t4, t5, t6⟩, ⟨q1, q2, q3, q4, q5, q6, q7, q8, q9⟩, x1, x2, ⟨n, x3, x4⟩⟩ := known_facts
      have tn : ∀ s : St, s.tree = kT4 → s.tree ≠ [] := fun s hs => by rw [hs]; simp [kT4]
      have l2 : leafAt s1.tree 2 = some 1 := by rw [t1]; kernel_rfl
      replace h1 := Lib.hid h1
      replace h2 := Lib.hid h2
      replace h3 := Lib.hid h3
      replace h4 := Lib.hid h4
      replace h5 := Lib.hid h5
      replace h6 := Lib.hid h6
      replace x1 := Lib.hid x1
      replace x2 := Lib.hid x2
      replace x3 := Lib.hid x3
      replace tn := Lib.hid tn
      replace l2 := Lib.hid l2
      clear r1 r1' r0 hTo hPo hlast
      go_wp2_with fail
      refine hnew.mono ?_
      rintro e0 w5 ⟨B, rfl, hR5, hm5, _, _, hb5⟩
      have hn5 : wo.heap.size ≤ w5.heap.size := hb5.size
      have c1 := lit_top (l := 1) (v := 1) (pl := 0) hR5 (by simp [newSt, kT4]) rfl (by kernel_rfl) h1.out
      replace hR5 := Lib.hid hR5
      clear hnew
      go_wp2_with fail
      refine c1.mono ?_
      rintro e0 w6 ⟨rfl, B6, hR6, hS6⟩
      obtain ⟨hB6, hm6, hn6⟩ := hS6.behind hb5 hm5 hn5
      have c2 := lit_top (l := 2) (v := 2) (pl := 1) hR6 (tn.out _ t1) rfl l2.out h2.out
      rw [hS6.sb] at c2
      replace hR6 := Lib.hid hR6
      clear c1
      go_wp2_with fail
      refine c2.mono ?_
      rintro e0 w7 ⟨rfl, B7, hR7, hS7⟩
      obtain ⟨hB7, hm7, hn7⟩ := hS7.behind hB6 hm6 hn6
      have c3 := and_top (andF_law 12) hR7 (tn.out _ t2) q1 q2 h3.out
      rw [hS7.sb, hS6.sb] at c3
      replace hR7 := Lib.hid hR7
      clear c2
      go_wp2_with fail
      refine c3.mono ?_
      rintro e0 w8 ⟨rfl, B8, hR8, hS8⟩
      obtain ⟨hB8, hm8, hn8⟩ := hS8.behind hB7 hm7 hn7
      have c4 := or_top (orF_law (notF_law 12) (andF_law 12)) hR8 (tn.out _ t3) q3 q4 h4.out
      rw [hS8.sb, hS7.sb, hS6.sb] at c4
      replace hR8 := Lib.hid hR8
      clear c3
      go_wp2_with fail
      refine c4.mono ?_
      rintro e0 w9 ⟨rfl, B9, hR9, hS9⟩
      obtain ⟨hB9, hm9, hn9⟩ := hS9.behind hB8 hm8 hn8
      have c5 := not_top (notF_law 12) hR9 (tn.out _ t4) q5 h5.out
      rw [hS9.sb, hS8.sb, hS7.sb, hS6.sb] at c5
      replace hR9 := Lib.hid hR9
      clear c4
      go_wp2_with fail
      refine c5.mono ?_
      rintro e0 w10 ⟨rfl, B10, hR10, hS10⟩
      obtain ⟨hB10, hm10, hn10⟩ := hS10.behind hB9 hm9 hn9
      have c6 := or_top (orF_law (notF_law 12) (andF_law 12)) hR10 (tn.out _ t5) q6 q7 h6.out
      rw [hS10.sb, hS9.sb, hS8.sb, hS7.sb, hS6.sb] at c6
      replace hR10 := Lib.hid hR10
      clear c5
      go_wp2_with fail
      refine c6.mono ?_
      rintro e0 w11 ⟨rfl, B11, hR11, hS11⟩
      obtain ⟨hB11, hm11, hn11⟩ := hS11.behind hB10 hm10 hn10
      have hsb : B11.sb = B.sb := by rw [hS11.sb, hS10.sb, hS9.sb, hS8.sb, hS7.sb, hS6.sb]
      have c7 := text_any hR11 (tn.out _ t6) q8 x1.out
      rw [hsb] at c7
      replace hR11 := Lib.hid hR11
      clear c6
      go_wp2_with fail
      refine c7.mono ?_
      rintro e0 w12 ⟨rfl, hb12⟩
      have hR12 := hR11.out.below hb12
      have c8 := text_any hR12 (tn.out _ t6) q9 x2.out
      rw [hsb] at c8
      replace hR12 := Lib.hid hR12
      clear c7
      go_wp2_with fail
      refine c8.mono ?_
      rintro e0 w13 ⟨rfl, hb13⟩
      have hR13 := hR12.out.below hb13
      have c9 := at_any hR13 (tn.out _ t6) x3.out
      rw [hsb, x4] at c9
      replace hR13 := Lib.hid hR13
      clear c8
      go_wp2_with fail
      refine c9.mono ?_
      rintro e0 w14 ⟨rfl, hb14⟩
      have hB14 := hB11.trans (((hb12.trans (hb13.mono hb12.size)).trans (hb14.mono (Nat.le_trans hb12.size hb13.size))).mono hn11)
      have hBw := hB0.out.trans (hB14.mono hB0.out.size)
      have cw := works_any w14 (hT4.out.same (hBw.block _ hT4.out.lt')) (hP4.out.same (hBw.block _ hP4.out.lt))
      have hBf := Lib.hid (hx5.out.below.trans (hBw.mono hx5.out.size))
      have hsz := Lib.hid (show w.heap.size ≤ w14.heap.size from Nat.le_trans hx5.out.size hBw.size)
      clear c9 hBw hB14
      go_wp2_with fail
      refine cw.mono ?_
      rintro e0 w15 ⟨rfl, hb15⟩
      go_wp2_with fail
      go_ret
      exact ⟨rfl, hBf.out.trans (hb15.mono hsz.out)⟩
end Go.Proofs.YtgphkbnoflfneaaDoor
