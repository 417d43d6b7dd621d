import Derived.Test.YteikmmfjhabijaaGreatDoorVcopy
import Derived.ChangeKeysEq
set_option linter.unusedSimpArgs false
set_option linter.unusedVariables false
namespace Go.Proofs.YteikmmfjhabijaaGreatDoor
open Go Go.RowKit Go.Shelf

/-! vmove.all, Copy; censusref25.Same, censusref28.Alike, censuslaw28.has. -/
theorem lohi_inj {a b : VSet} (h1 : lo a = lo b) (h2 : hi a = hi b) : a = b := by
  unfold lo at h1
  unfold hi at h2
  have e1 : a.setWidth 64 = b.setWidth 64 := BitVec.eq_of_toNat_eq (by exact_mod_cast h1)
  have e2 : (a >>> 64).setWidth 64 = (b >>> 64).setWidth 64 := BitVec.eq_of_toNat_eq (by exact_mod_cast h2)
  refine BitVec.eq_of_getLsbD_eq fun i hi => ?_
  by_cases hlt : i < 64
  · have := congrArg (fun x : BitVec 64 => x.getLsbD i) e1
    simpa [hlt] using this
  · have := congrArg (fun x : BitVec 64 => x.getLsbD (i - 64)) e2
    simp only [BitVec.getLsbD_setWidth, BitVec.getLsbD_ushiftRight] at this
    rw [show 64 + (i - 64) = i by omega, show decide (i - 64 < 64) = true from decide_eq_true (by omega)] at this
    simpa using this
set_option maxRecDepth 100000 in
theorem setEqD (x y a b : Int) (w : World) : (Op.equalIn 10000 29 (.agg #[.int .u64 x, .int .u64 y]) (.agg #[.int .u64 a, .int .u64 b])).run Tryz.prog w = .ok (decide (x = a) && decide (y = b)) w := by
  obtain ⟨i0, hi0, _, _, _⟩ := info_parts (show (Tryz.prog.info? 27).map (fun i => (i.zero, i.size, i.bytes)) = some (some (.int .u64 0), 1, 8) by kernel_rfl)
  rw [run_equalIn_array w 9999 _ _ Tryz.underlying29 hi0]
  have hc : Tryz.prog.cellsOf 27 = 1 := by kernel_rfl
  rw [hc, show List.range 2 = [0, 1] from rfl]
  simp [Op.eqItems, go_sem, Tryz.underlying27]
  by_cases h1 : x = a <;> by_cases h2 : y = b <;> simp [h1, h2]
theorem setEqS (m n : VSet) (w : World) : (Op.equalIn 10000 29 (.agg #[.int .u64 (lo m), .int .u64 (hi m)]) (.agg #[.int .u64 (lo n), .int .u64 (hi n)])).run Tryz.prog w = .ok (decide (m = n)) w := by
  rw [setEqD]
  congr 1
  rw [Bool.eq_iff_iff, Bool.and_eq_true, decide_eq_true_iff, decide_eq_true_iff, decide_eq_true_iff]
  exact ⟨fun h => lohi_inj h.1 h.2, fun h => by subst h; exact ⟨rfl, rfl⟩⟩
set_option maxRecDepth 100000 in
set_option maxHeartbeats 1000000 in
theorem vall_any {t : List VN} (w : World) (b o cap : Nat) (h : TreeAt w b o t) (hc : checkF t = 0) :
    Calls Tryz.prog 92 #[.slice (some ⟨b, o, none⟩) t.length cap] w fun e w' => ∃ m, e = .returned (.agg #[.int .u64 (lo m), .int .u64 (hi m)]) ∧ IsBel t (t.length - 1) m ∧ Below w.heap.size w w' := by
  obtain ⟨hl0, hl1, _⟩ := check_ok hc
  obtain ⟨n, hn⟩ : ∃ n, t.length = n + 1 := ⟨t.length - 1, by omega⟩
  have d0 : ((t.length : Int) == 0) = false := beq_eq_false_iff_ne.2 (by omega)
  have hwr : IntKind.i64.wrap ((t.length : Int) - 1) = (n : Int) := by rw [hn]; rw [IntWalk.i64_in _ (by omega)]; omega
  have g0 : (0 : Int) ≤ n := by omega
  have g1 : (n : Int) < t.length := by omega
  have hb1 := (Below.refl w.heap.size w).alloc (Nat.le_refl _) (.cells #[.int .u64 0, .int .u64 0] 29)
  have hbx := heap_alloc_new w (.cells #[.int .u64 0, .int .u64 0] 29)
  have q := vvars_any (cap := cap) _ b o (h.below hb1) hc
  replace hb1 := Lib.hid hb1
  replace hbx := Lib.hid hbx
  rw [show t.length - 1 = n by omega]
  replace hn := Lib.hid hn
  go_enter Tryz.func92, Tryz.ntmps92
  go_wp2_with fail
  generalize w.alloc (.cells #[.int .u64 0, .int .u64 0] 29) = w1 at *
  refine q.mono ?_
  rintro e w2 ⟨g, f, hg, rfl, hS, hf, hx2⟩
  obtain ⟨⟨s1, s2⟩, _⟩ := hS.cell (j := n) (by have := hn.out; omega)
  have hm := Lib.hid (hf n (by have := hn.out; omega))
  have hblk : w2.heap[w.heap.size]? = _ := (hx2.below.block _ (Array.getElem?_eq_some_iff.1 hbx.out).1).trans hbx.out
  obtain ⟨y0, y1⟩ := pbox_cells hblk
  have z0 : w2.frozen? ⟨w.heap.size, 0, none⟩ = false := by simp [World.frozen?, hblk]
  have z1 : w2.frozen? ⟨w.heap.size, 1, none⟩ = false := by simp [World.frozen?, hblk]
  generalize hx0 : lo (f n) = x0 at *
  generalize hx1 : hi (f n) = x1 at *
  obtain ⟨r0, r1⟩ := pbox_cells (heap_set2 hblk (.int .u64 x0) (.int .u64 x1))
  have hBo : Below w.heap.size w ((w2.setCell ⟨w.heap.size, 0, none⟩ (.int .u64 x0)).setCell ⟨w.heap.size, 1, none⟩ (.int .u64 x1)) := ((hb1.out.trans (hx2.below.mono hb1.out.size)).setCell (Nat.le_refl _) _).setCell (Nat.le_refl _) _
  replace hf := Lib.hid hf
  replace hblk := Lib.hid hblk
  replace hx2 := Lib.hid hx2
  replace hS := Lib.hid hS
  replace hBo := Lib.hid hBo
  clear q
  go_wp2_with fail
  exact bodyPost_ret (v := .agg #[.int .u64 x0, .int .u64 x1]) (by simp [results, Tryz.results92, go_sem, r0, r1]) rfl ⟨f n, by rw [hx0, hx1], hm.out, hBo.out⟩
theorem bel_root {t : List VN} (hc : checkF t = 0) (v : Int) : L.Bel t (t.length - 1) v ↔ VarOf t v :=
  ⟨fun ⟨u, y, h1, h2, h3, _⟩ => ⟨u, y, h1, h2, h3⟩, fun ⟨u, y, h1, h2, h3⟩ => ⟨u, y, h1, h2, h3, L.Und.root hc t.length u (List.getElem?_eq_some_iff.1 h1).1 (by omega)⟩⟩
/-- what a copy ends with -/
def RetCopy (u : List VN) (φ : L.Asg → Bool) (w : World) (e : Ending) (w' : World) : Prop :=
  ∃ (B : Blks) (so : St) (r : Nat), e = .returned (.tuple #[.pointer (some ⟨B.sb, 0, none⟩), .int .i64 (r : Nat), .int .i64 0]) ∧ SS u B w' 300000 so w' ∧ Val so r φ ∧ (∀ j ∈ B.mut, w.heap.size ≤ j) ∧ Below w.heap.size w w'
def RetNone (err : Int) (w : World) (e : Ending) (w' : World) : Prop := e = .returned (.tuple #[.pointer none, .int .i64 0, .int .i64 err]) ∧ Below w.heap.size w w'
set_option maxRecDepth 100000 in
set_option maxHeartbeats 2000000 in
theorem copy_any {w : World} {t u : List VN} {s : St} {B1 : Blks} {k1 root b o cap : Nat} {φ : L.Asg → Bool} (hs : SS t B1 w k1 s w) (hv : Val s root φ) (hu : TreeAt w b o u) (hcu : checkF u = 0) (h7 : u.length ≤ 7) (hvar : ∀ v, VarOf t v ↔ VarOf u v) (hT : TzTab w) (hP : PowTab w) :
    Calls Tryz.prog 44 #[.pointer (some ⟨B1.sb, 0, none⟩), .int .i64 (root : Nat), .slice (some ⟨b, o, none⟩) u.length cap] w (RetCopy u φ w) := by
  have q1 := size_v hs hv.lt
  have hfew := hs.few
  have hct := hs.chk
  replace hs := Lib.hid hs
  replace hcu := Lib.hid hcu
  replace hct := Lib.hid hct
  go_enter Tryz.func44, Tryz.ntmps44
  go_wp2_with fail
  refine q1.mono ?_
  rintro e w2 ⟨oo, _, rfl, hb2⟩
  have qc := check_any w2 (some ⟨b, o, none⟩) cap (.inr ⟨b, o, rfl, hu.below hb2⟩)
  rw [hcu.out] at qc
  clear q1
  go_wp2_with fail
  refine qc.mono ?_
  rintro e w3 ⟨rfl, hx3⟩
  have hb3 := hb2.trans (hx3.below.mono hb2.size)
  have qa := vall_any w3 b o cap (hu.below hb3) hcu.out
  clear qc
  go_wp2_with fail
  refine qa.mono ?_
  rintro e w4 ⟨m, rfl, hm, hb4⟩
  have hb4' := hb3.trans (hb4.mono hb3.size)
  have hs4 := hs.out.below hb4'
  have htr := hs4.tree
  obtain ⟨Bh, hRh, hSh⟩ := hs4.held
  have qt := tree_any hRh (by rw [htr]; omega)
  rw [hSh.sb, htr] at qt
  replace hm := Lib.hid hm
  replace hs4 := Lib.hid hs4
  clear qa hRh hSh htr
  go_wp2_with fail
  refine qt.mono ?_
  rintro e w5 ⟨g5, cp5, cs5, rfl, hg5, hh5, hcs5, hb5⟩
  have ht5 : TreeAt w5 g5 0 t := fun j x hj => by rw [World.cell?, hh5]; exact hcs5 j x hj
  have hb5' := hb4'.trans (hb5.mono hb4'.size)
  have qb := vall_any w5 g5 0 cp5 ht5 hct.out
  clear qt hh5 hcs5 ht5
  go_wp2_with fail
  refine qb.mono ?_
  rintro e w6 ⟨m', rfl, hm', hb6⟩
  have hb6' := hb5'.trans (hb6.mono hb5'.size)
  obtain rfl : m = m' := (hm.out.iff hm').2 fun v => by rw [bel_root hcu.out, bel_root hct.out]; exact (hvar v).symm
  have hse := fun W => setEqD (lo m) (hi m) (lo m) (hi m) W
  obtain ⟨B6, hB6, hR6, hs6, _⟩ := (hs.out.below hb6').here
  have qo := over_any (cap := cap) hs6 hv (hu.below hb6') hcu.out h7 (fun v hv => (hvar v).1 hv) (hT.same (hb6'.block _ hT.lt')) (hP.same (hb6'.block _ hP.lt))
  rw [hB6] at qo
  generalize lo m = x0 at *
  generalize hi m = x1 at *
  replace hs6 := Lib.hid hs6
  replace hR6 := Lib.hid hR6
  replace hb6' := Lib.hid hb6'
  clear qb hm hm' hs4 hb6 hb5' hb4' hb3 hb2
  go_wp2_with fail
  refine qo.mono ?_
  rintro e w7 ⟨B, so, r, rfl, hS7, hv7, hm7, hb7⟩
  replace hS7 := Lib.hid hS7
  clear qo
  go_wp2_with fail
  go_ret3
  exact ⟨B, so, r, rfl, hS7.out, hv7, fun j hj => Nat.le_trans hb6'.out.size (hm7 j hj), hb6'.out.trans (hb7.mono hb6'.out.size)⟩
set_option maxRecDepth 100000 in
set_option maxHeartbeats 2000000 in
theorem copy_no {w : World} {t u : List VN} {s : St} {B1 : Blks} {k1 root b o cap : Nat} {φ : L.Asg → Bool} (hs : SS t B1 w k1 s w) (hv : Val s root φ) (hu : TreeAt w b o u) (hcu : checkF u = 0) (hvar : ¬ ∀ v, VarOf t v ↔ VarOf u v) :
    Calls Tryz.prog 44 #[.pointer (some ⟨B1.sb, 0, none⟩), .int .i64 (root : Nat), .slice (some ⟨b, o, none⟩) u.length cap] w (RetNone 1 w) := by
  have q1 := size_v hs hv.lt
  have hfew := hs.few
  have hct := hs.chk
  replace hs := Lib.hid hs
  replace hcu := Lib.hid hcu
  replace hct := Lib.hid hct
  replace hvar := Lib.hid hvar
  go_enter Tryz.func44, Tryz.ntmps44
  go_wp2_with fail
  refine q1.mono ?_
  rintro e w2 ⟨oo, _, rfl, hb2⟩
  have qc := check_any w2 (some ⟨b, o, none⟩) cap (.inr ⟨b, o, rfl, hu.below hb2⟩)
  rw [hcu.out] at qc
  clear q1
  go_wp2_with fail
  refine qc.mono ?_
  rintro e w3 ⟨rfl, hx3⟩
  have hb3 := hb2.trans (hx3.below.mono hb2.size)
  have qa := vall_any w3 b o cap (hu.below hb3) hcu.out
  clear qc
  go_wp2_with fail
  refine qa.mono ?_
  rintro e w4 ⟨m, rfl, hm, hb4⟩
  have hb4' := hb3.trans (hb4.mono hb3.size)
  have hs4 := hs.out.below hb4'
  have htr := hs4.tree
  obtain ⟨Bh, hRh, hSh⟩ := hs4.held
  have qt := tree_any hRh (by rw [htr]; omega)
  rw [hSh.sb, htr] at qt
  replace hm := Lib.hid hm
  replace hs4 := Lib.hid hs4
  clear qa hRh hSh htr
  go_wp2_with fail
  refine qt.mono ?_
  rintro e w5 ⟨g5, cp5, cs5, rfl, hg5, hh5, hcs5, hb5⟩
  have ht5 : TreeAt w5 g5 0 t := fun j x hj => by rw [World.cell?, hh5]; exact hcs5 j x hj
  have hb5' := hb4'.trans (hb5.mono hb4'.size)
  have qb := vall_any w5 g5 0 cp5 ht5 hct.out
  clear qt hh5 hcs5 ht5
  go_wp2_with fail
  refine qb.mono ?_
  rintro e w6 ⟨m', rfl, hm', hb6⟩
  have hb6' := hb5'.trans (hb6.mono hb5'.size)
  have hne : ¬ m = m' := fun e => hvar.out fun v => by
    have := (hm.out.iff hm').1 e v
    rw [bel_root hcu.out, bel_root hct.out] at this
    exact this.symm
  have hse := fun W => setEqS m m' W
  rw [decide_eq_false hne] at hse
  generalize lo m = x0 at *
  generalize hi m = x1 at *
  generalize lo m' = y0 at *
  generalize hi m' = y1 at *
  replace hb6' := Lib.hid hb6'
  clear qb hm hm' hs4 hb6 hb5' hb4' hb3 hb2 hne
  go_wp2_with fail
  go_ret3
  exact ⟨rfl, hb6'.out⟩
set_option maxRecDepth 100000 in
set_option maxHeartbeats 1000000 in
theorem copy_bad {w : World} {t u : List VN} {s : St} {B1 : Blks} {k1 root : Nat} {ba : Option Addr} {cap : Nat} {φ : L.Asg → Bool} (hs : SS t B1 w k1 s w) (hv : Val s root φ) (hu : u = [] ∨ ∃ b o, ba = some ⟨b, o, none⟩ ∧ TreeAt w b o u) (hcu : checkF u = 1) :
    Calls Tryz.prog 44 #[.pointer (some ⟨B1.sb, 0, none⟩), .int .i64 (root : Nat), .slice ba u.length cap] w (RetNone 1 w) := by
  have q1 := size_v hs hv.lt
  replace hs := Lib.hid hs
  go_enter Tryz.func44, Tryz.ntmps44
  go_wp2_with fail
  refine q1.mono ?_
  rintro e w2 ⟨oo, _, rfl, hb2⟩
  have qc := check_any w2 ba cap (hu.imp id (fun ⟨b, o, e, ht⟩ => ⟨b, o, e, ht.below hb2⟩))
  rw [hcu] at qc
  clear q1
  go_wp2_with fail
  refine qc.mono ?_
  rintro e w3 ⟨rfl, hx3⟩
  have hb3 := hb2.trans (hx3.below.mono hb2.size)
  clear qc
  go_wp2_with fail
  go_ret3
  exact ⟨rfl, hb3⟩
set_option maxRecDepth 100000 in
set_option maxHeartbeats 2000000 in
/-- Same of the reference's vtrees -/
theorem vsame_any {t u : List VN} (w : World) (ba ca : Option Addr) (c c' : Nat) (ht : t = [] ∨ ∃ b o, ba = some ⟨b, o, none⟩ ∧ TreeAt w b o t) (hu : u = [] ∨ ∃ b o, ca = some ⟨b, o, none⟩ ∧ TreeAt w b o u) (hl : t.length ≤ 1048576) :
    Calls Tryz.prog 90 #[.slice ba t.length c, .slice ca u.length c'] w fun e w' => e = .returned (.bool (decide (t = u))) ∧ Ext w w' := by
  generalize hD : decide (t = u) = D at *
  replace hD := Lib.hid hD
  by_cases hlen : t.length = u.length
  · have d0 : ((t.length : Int) != (u.length : Int)) = false := by simp [hlen]
    have hu' : u.length = t.length := hlen.symm
    replace hlen := Lib.hid hlen
    rw [hu']
    have dn : ((t.length : Int) != (t.length : Int)) = false := by simp
    clear d0
    replace hu' := Lib.hid hu'
    go_enter Tryz.func90, Tryz.ntmps90
    go_wp2_with fail
    have h0 : Hid (Ext w w ∧ t.take 0 = u.take 0) := Lib.hid ⟨Ext.refl w, rfl⟩
    go_loopw [5] (fun i wr => ∃ k : Nat, k ≤ t.length ∧ i = .int .i64 (k : Nat) ∧ Hid (Ext w wr ∧ t.take k = u.take k)) (fun i _ => t.length - (intOf i).toNat)
    case atStart => exact ⟨0, Nat.zero_le _, rfl, h0⟩
    case round =>
      clear h0
      obtain ⟨k, hk, rfl, hI⟩ := hrel
      by_cases hlt : k < t.length
      · have dlt : decide ((k : Int) < (t.length : Int)) = true := decide_eq_true (by omega)
        have hlu : k < u.length := by have := hlen.out; omega
        obtain ⟨b, o, rfl, hta⟩ := ht.resolve_left (fun e => by rw [e] at hlt; simp at hlt)
        obtain ⟨b', o', rfl, hua⟩ := hu.resolve_left (fun e => by rw [e] at hlu; simp at hlu)
        obtain ⟨n0, n1, n2⟩ := (hta.ext hI.out.1).node hlt
        obtain ⟨m0, m1, m2⟩ := (hua.ext hI.out.1).node hlu
        have htk : t.take (k + 1) = t.take k ++ [t[k]] := by rw [List.take_add_one, List.getElem?_eq_getElem hlt]; rfl
        have huk : u.take (k + 1) = u.take k ++ [u[k]] := by rw [List.take_add_one, List.getElem?_eq_getElem hlu]; rfl
        have hne : t[k] ≠ u[k] → ¬ t = u := fun h e => by subst e; exact h rfl
        generalize t[k] = x at *
        generalize u[k] = y at *
        obtain ⟨x1, x2, x3⟩ := x
        obtain ⟨y1, y2, y3⟩ := y
        simp only at n0 n1 n2 m0 m1 m2
        have g0 : (0 : Int) ≤ k := by omega
        have g1 : (k : Int) < t.length := by omega
        have hv : ∀ W, (Op.equalIn 10000 96 (.agg #[.int .i64 x1, .int .i64 x2, .int .i64 x3]) (.agg #[.int .i64 y1, .int .i64 y2, .int .i64 y3])).run Tryz.prog W = .ok (decide (x1 = y1) && decide (x2 = y2) && decide (x3 = y3)) W := fun W => vnEq x1 x2 x3 y1 y2 y3 W
        have F1 := Lib.hid fun (W : World) (hW : Ext wr W) => And.intro (And.intro (hW.cell n0) (And.intro (hW.cell n1) (hW.cell n2))) (And.intro (hW.cell m0) (And.intro (hW.cell m1) (hW.cell m2)))
        replace htk := Lib.hid htk
        replace huk := Lib.hid huk
        clear n0 n1 n2 m0 m1 m2
        cases he : (decide (x1 = y1) && decide (x2 = y2) && decide (x3 = y3))
        · have hDf : D = false := hD.out.symm.trans (decide_eq_false (hne fun e => by
            cases e
            simp at he))
          rw [he] at hv
          replace he := Lib.hid he
          replace hDf := Lib.hid hDf
          clear hne
          go_wp2_with fail
          (refine wp_region_below (by kernel_rfl) (by kernel_rfl) ?_
           repeat (refine wpQuiet_step (fun K hK => ?_)
                   go_simp
                   first
                     | (refine hK _ ?_; clear hK K)
                     | (replace hK := Lib.hid hK
                        apply Exists.intro
                        refine ⟨fun wq hq => ?_, hK.out _ ?_⟩
                        · (obtain ⟨⟨f1, f2, f3⟩, f4, f5, f6⟩ := F1.out wq hq)
                          go_simp
                          first
                            | done
                            | rfl
                            | exact ⟨rfl, rfl⟩
                            | fail
                        clear hK K))
           refine wpQuiet_nil ?_)
          intro w5 hx5
          go_wp2_with fail
          go_ret
          exact ⟨by rw [hDf.out]; rfl, hI.out.1.trans hx5⟩
        · rw [he] at hv
          simp only [Bool.and_eq_true, decide_eq_true_eq] at he
          obtain ⟨⟨rfl, rfl⟩, rfl⟩ := he
          clear hne
          go_wp2_with fail
          (refine wp_region_below (by kernel_rfl) (by kernel_rfl) ?_
           repeat (refine wpQuiet_step (fun K hK => ?_)
                   go_simp
                   first
                     | (refine hK _ ?_; clear hK K)
                     | (replace hK := Lib.hid hK
                        apply Exists.intro
                        refine ⟨fun wq hq => ?_, hK.out _ ?_⟩
                        · (obtain ⟨⟨f1, f2, f3⟩, f4, f5, f6⟩ := F1.out wq hq)
                          go_simp
                          first
                            | done
                            | rfl
                            | exact ⟨rfl, rfl⟩
                            | fail
                        clear hK K))
           refine wpQuiet_nil ?_)
          intro w5 hx5
          go_wp2_with fail
          go_roundw
          case rel => exact ⟨k + 1, by omega, by go_num, Lib.hid ⟨hI.out.1.trans hx5, by rw [htk.out, huk.out, hI.out.2]⟩⟩
          case measure => simp [intOf]; omega
      · have dlt : decide ((k : Int) < (t.length : Int)) = false := decide_eq_false (by omega)
        have hDt := Lib.hid (hD.out.symm.trans (decide_eq_true (by
          have := hI.out.2
          rwa [List.take_of_length_le (by omega), List.take_of_length_le (by have := hlen.out; omega)] at this)))
        go_wp2_with fail
        go_ret
        exact ⟨by rw [hDt.out]; rfl, hI.out.1⟩
  · have d0 : ((t.length : Int) != (u.length : Int)) = true := by simp; omega
    have hDf : D = false := hD.out.symm.trans (decide_eq_false fun e => hlen (by rw [e]))
    rw [hDf]
    clear hDf
    go_enter Tryz.func90, Tryz.ntmps90
    go_wp2_with fail
    go_ret
    exact ⟨rfl, Ext.refl w⟩
set_option maxRecDepth 100000 in
set_option maxHeartbeats 1000000 in
theorem lhas_any {w : World} {t : List VN} {s : St} {B : Blks} {k r b o cap : Nat} {φ : L.Asg → Bool} (hs : SS t B w k s w) (hv : Val s r φ) (hu : TreeAt w b o t) :
    Calls Tryz.prog 41 #[.pointer (some ⟨B.sb, 0, none⟩), .int .i64 (r : Nat), .slice (some ⟨b, o, none⟩) t.length cap, .string ⟨(L.tx s.nodes r).toArray⟩] w fun e w' => e = .returned (.bool true) ∧ Below w.heap.size w w' := by
  obtain ⟨Bh, hRh, hSh⟩ := hs.held
  have htr := hs.tree
  have hfew := hs.few
  have qt := tree_any hRh (by rw [htr]; omega)
  rw [hSh.sb, htr] at qt
  have qx := fun W (hb : Below w.heap.size w W) => text_v (hs.below hb) hv.lt
  generalize (⟨(L.tx s.nodes r).toArray⟩ : ByteArray) = txt at *
  replace qx := Lib.hid qx
  replace hs := Lib.hid hs
  clear hRh hSh htr
  go_enter Tryz.func41, Tryz.ntmps41
  go_wp2_with fail
  refine qt.mono ?_
  rintro e w5 ⟨g5, cp5, cs5, rfl, hg5, hh5, hcs5, hb5⟩
  have ht5 : TreeAt w5 g5 0 t := fun j x hj => by rw [World.cell?, hh5]; exact hcs5 j x hj
  have qs := vsame_any w5 (some ⟨g5, 0, none⟩) (some ⟨b, o, none⟩) cp5 cap (.inr ⟨g5, 0, rfl, ht5⟩) (.inr ⟨b, o, rfl, hu.below hb5⟩) (by omega)
  rw [decide_eq_true rfl] at qs
  clear qt hh5 hcs5 ht5
  go_wp2_with fail
  refine qs.mono ?_
  rintro e w6 ⟨rfl, hx6⟩
  have hb6 := hb5.trans (hx6.below.mono hb5.size)
  have q6 := qx.out w6 hb6
  clear qs
  go_wp2_with fail
  refine q6.mono ?_
  rintro e w7 ⟨rfl, hb7⟩
  clear q6
  go_wp2_with fail
  go_ret
  exact ⟨by simp, hb6.trans (hb7.mono hb6.size)⟩
end Go.Proofs.YteikmmfjhabijaaGreatDoor
