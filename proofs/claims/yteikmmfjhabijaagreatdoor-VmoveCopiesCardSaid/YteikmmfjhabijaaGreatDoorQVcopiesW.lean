import Derived.Test.YteikmmfjhabijaaGreatDoorQTab8
import Derived.Test.YteikmmfjhabijaaGreatDoorQVthruW
set_option linter.unusedSimpArgs false
set_option linter.unusedVariables false
namespace Go.Proofs.YteikmmfjhabijaaGreatDoor
open Go Go.RowKit Go.Shelf
theorem bit_one16 {x : Nat} (hx : x < 65536) (m : Nat) : (((x : Int) / 2 ^ min m 16).tmod 2 == 1) = x.testBit m := by
 have h := bit_zero16 hx m
 have h2 : ∀ z : Int,(z = 0 ∨ z = 1) → ((z == 1) = !(z == 0)) := fun z hz => by rcases hz with rfl | rfl <;> rfl
 rw [h2 _ ?_,h,Bool.not_not]
 have hn : (0 : Int) ≤ (x : Int) / 2 ^ min m 16 := Int.ediv_nonneg (by omega) (Int.le_of_lt (by exact_mod_cast Nat.pos_of_ne_zero (by simp)))
 generalize ((x : Int) / 2 ^ min m 16) = q at *
 rw [Int.tmod_eq_emod_of_nonneg hn]
 omega
set_option maxRecDepth 100000 in
set_option maxHeartbeats 1000000 in
theorem ttable_any {w : World} {t : List VN} {b o c bits : Nat} {l : List Int} (ht : TreeAt w b o t) (t0 : 0 < t.length) (htl : t.length ≤ 1048576) (hvr : varsR t = some l) (hl6 : l.length ≤ 6) (hbt : bits < 65536) :
  Calls Tryz.prog 43 #[.slice (some ⟨b,o,none⟩) t.length c,.int .u16 (bits : Nat)] w (RetTab (tabN (2 ^ l.length) fun i => bits.testBit i) w) := by
 have q1 := refVars_any w b o c l ht t0 htl hvr
 have hN := pow_le64 hl6
 have q2 := fun W => const_any l.length hl6 false W
 obtain ⟨N,hNN⟩ : ∃ N,N = 2 ^ l.length := ⟨_,rfl⟩
 rw [← hNN] at hN q2 ⊢
 replace hNN := Lib.hid hNN
 replace hvr := Lib.hid hvr
 go_enter Tryz.func43,Tryz.ntmps43
 go_wp2_with fail
 refine q1.mono ?_
 rintro e w1 ⟨v1,rfl,ho1,hb1⟩
 obtain ⟨ba,ca,rfl,_⟩ := owns_slI ho1
 replace ho1 := Lib.hid ho1
 clear q1
 go_wp2_with fail
 refine (q2 w1).mono ?_
 rintro e w2 ⟨g,cg,cs,rfl,hg,hcs,hcc,hb2⟩
 rw [tabN_len]
 have hb12 := hb1.trans (hb2.mono hb1.size)
 have hsz : N ≤ cs.size := by
  rcases Nat.eq_zero_or_pos N with h | h
  ·omega
  ·have := (Array.getElem?_eq_some_iff.1 (hcc (N - 1) (by rw [tabN_len]; omega))).1
   omega
 have h0 : Hid (FillB w g N (fun i => bits.testBit i) 0 w2) := Lib.hid ⟨Nat.le_trans hb1.size hg,hb12,cs,hcs,hsz,fun j _ h => by omega⟩
 clear hcc hcs hb12 hsz
 go_wp2_with fail
 go_loopw [6] (fun iv wr => ∃ i : Nat,i ≤ N ∧ iv = .int .i64 i ∧ Hid (FillB w g N (fun i => bits.testBit i) i wr)) (fun iv _ => N - (intOf iv).toNat)
 case atStart => exact ⟨0,Nat.zero_le _,rfl,h0⟩
 case round =>
  clear h0
  obtain ⟨i,hi,rfl,hI⟩ := hrel
  by_cases hlt : i < N
  ·have dlt : decide ((i : Int) < (N : Int)) = true := decide_eq_true (by omega)
   obtain ⟨⟨u,y1⟩,y2⟩ := hI.out.cell hlt
   have hbit := bit_one16 hbt i
   have hnext : Hid (FillB w g N (fun i => bits.testBit i) (i + 1) (wr.setCell ⟨g,i,none⟩ (.bool (bits.testBit i)))) := Lib.hid (hI.out.set hlt)
   have i0 : (0 : Int) ≤ i := by omega
   have i1 : (i : Int) < N := by omega
   go_wp2_with fail
   go_roundw
   case rel => exact ⟨i + 1,by omega,by go_num,hnext⟩
   case measure => simp [intOf]; omega
  ·have dlt : decide ((i : Int) < (N : Int)) = false := decide_eq_false (by omega)
   obtain rfl : i = N := by omega
   have hend := hI.out.done cg
   replace hend := Lib.hid hend
   go_wp2_with fail
   go_ret
   exact hend.out
theorem isT_all {t : List VN} (hc : checkF t = 0) {i : Nat} {T : L.Tr} (h : L.IsT L.idc t i T) : ∃ ps : List Nat,ps.length = T.size ∧ ∀ u,L.Und t i u → u ∈ ps := by
 induction h with
 | leaf h1 h2 => exact ⟨[_],rfl,fun u hu => List.mem_singleton.2 (hu.leaf hc h1 h2)⟩
 | @node i a b y l r h1 h2 h3 h4 g1 g2 ih1 ih2 =>
   obtain ⟨p,p1,p2⟩ := ih1
   obtain ⟨q,q1,q2⟩ := ih2
   refine ⟨i :: (p ++ q),by simp [L.Tr.size,p1,q1],fun u hu => ?_⟩
   rcases hu.kids hc h1 h3 h4 with rfl | h | h
   ·exact List.mem_cons_self ..
   ·exact List.mem_cons_of_mem _ (List.mem_append_left _ (p2 u h))
   ·exact List.mem_cons_of_mem _ (List.mem_append_right _ (q2 u h))
theorem len_vars {t : List VN} (hc : checkF t = 0) {l : List Int} (hl : L.SortedBel t (t.length - 1) l) : t.length + 1 = 2 * l.length := by
 have t0 := (check_ok hc).1
 obtain ⟨T,hT⟩ := L.isT_exists hc t.length (t.length - 1) (by omega) (by omega)
 obtain ⟨ps,p1,p2⟩ := isT_all hc hT
 have h1 := L.nodup_len (List.range t.length) ps List.nodup_range (fun x hx => p2 x (L.Und.root hc t.length x (List.mem_range.1 hx) (by omega)))
 rw [List.length_range] at h1
 have h2 := hT.size_le hc
 have h3 := T.size_vars
 have h4 := L.nodup_len l T.vars (L.sorted_nodup hl.sorted) (fun x hx => (hT.mem hc x).2 ((hl.mem x).1 hx))
 have h5 := L.nodup_len T.vars l (hT.nodup hc) (fun x hx => (hl.mem x).2 ((hT.mem hc x).1 hx))
 omega
theorem check_one {t : List VN} (h : checkF t ≠ 0) : checkF t = 1 := by
 unfold checkF endF at *
 split
 ·rfl
 ·rename_i h0
  rw [if_neg h0] at h
  split
  ·rfl
  ·rename_i sc hs
   rw [hs] at h
   simp only at h
   split
   ·rename_i h1
    rw [if_pos h1] at h
    exact (h rfl).elim
   ·rfl
theorem text_of_table {s : St} {t : List VN} {l : List Int} {r bits : Nat} (hi : L.Inv s) (htr : s.tree = t) (hfew : t.length ≤ 11) (hvr : varsR t = some l) (hsb : L.SortedBel t (t.length - 1) l) (hl6 : l.length ≤ 6) (hv : Val s r fun y => bits.testBit (idxF l y)) {w : World} {b o c : Nat} {vf : Value} (ht : TreeAt w b o t) (hf : SlB w vf (tabN (2 ^ l.length) fun i => bits.testBit i)) :
  Calls Tryz.prog 42 #[.slice (some ⟨b,o,none⟩) t.length c,vf] w fun e w' => e = .returned (.string ⟨(L.tx s.nodes r).toArray⟩) ∧ Below w.heap.size w w' := by
 subst htr
 have e : L.tabO l (L.sem s.nodes r) = tabN (2 ^ l.length) fun i => bits.testBit i := by
  unfold L.tabO
  refine tabN_congr fun i hlt => ?_
  rw [hv.sem,L.idxF_asgI hsb.sorted hlt]
 exact ttext_any hi hfew hvr hsb hl6 r hv.lt ht (by rw [e]; exact hf)
set_option maxRecDepth 100000 in
set_option maxHeartbeats 8000000 in
theorem vcopies_any {t u : List VN} {bits : Nat} (w : World) (ba bb : Option Addr) (ca cb : Nat) (hT : TzTab w) (hP : PowTab w) (ht : t = [] ∨ ∃ b o,ba = some ⟨b,o,none⟩ ∧ TreeAt w b o t) (hu : u = [] ∨ ∃ b o,bb = some ⟨b,o,none⟩ ∧ TreeAt w b o u) (hbt : bits < 65536) :
  Calls Tryz.prog 8 #[.slice ba t.length ca,.slice bb u.length cb,.int .u16 (bits : Nat)] w fun e w' => e = .returned (.bool true) ∧ Below w.heap.size w w' := by
 have hw : ∀ w',Below w.heap.size w w' → Calls Tryz.prog 37 #[] w' fun e w'' => e = .returned (.bool true) ∧ Below w'.heap.size w' w'' := fun w' hx => vworks_any w' (hT.same (hx.block _ hT.lt')) (hP.same (hx.block _ hP.lt))
 have hq := few7_any w ba ca ht
 replace hw := Lib.hid hw
 cases hf : few7 t
 ·rw [hf] at hq
  go_enter Tryz.func8,Tryz.ntmps8
  go_wp2_with fail
  refine hq.mono ?_
  rintro e w1 ⟨rfl,hx1⟩
  have q := hw.out w1 hx1.below
  clear hq
  go_wp2_with fail
  refine q.mono ?_
  rintro e w2 ⟨rfl,hb2⟩
  go_wp2_with fail
  go_ret
  exact ⟨rfl,hx1.below.trans (hb2.mono hx1.size)⟩
 ·rw [hf] at hq
  by_cases hul : 300 < u.length
  ·have du : decide ((u.length : Int) > 300) = true := decide_eq_true (by omega)
   go_enter Tryz.func8,Tryz.ntmps8
   go_wp2_with fail
   refine hq.mono ?_
   rintro e w1 ⟨rfl,hx1⟩
   have q := hw.out w1 hx1.below
   clear hq
   go_wp2_with fail
   refine q.mono ?_
   rintro e w2 ⟨rfl,hb2⟩
   go_wp2_with fail
   go_ret
   exact ⟨rfl,hx1.below.trans (hb2.mono hx1.size)⟩
  ·have du : decide ((u.length : Int) > 300) = false := decide_eq_false (by omega)
   obtain ⟨t0,t7,tc,lt,hlt,ltl,hlts⟩ := few7_vars hf
   obtain ⟨tb,to,rfl,hta⟩ := tree_some tc ht
   replace tc := Lib.hid tc
   replace hlt := Lib.hid hlt
   clear ht
   go_enter Tryz.func8,Tryz.ntmps8
   go_wp2_with fail
   refine hq.mono ?_
   rintro e w1 ⟨rfl,hx1⟩
   have b1 := hx1.below
   have q := made_any (cap := ca) (hT.same (b1.block _ hT.lt')) (hP.same (b1.block _ hP.lt)) (hta.below b1) tc.out t7 hbt hlt.out
   clear hq hx1
   go_wp2_with fail
   refine q.mono ?_
   rintro e w2 ⟨B,so,r,rfl,hS2,hv2,hm2,hb2⟩
   have b2 := b1.trans (hb2.mono b1.size)
   clear q
   by_cases hcu : checkF u = 0
   ·obtain ⟨ub,uo,rfl,hua⟩ := tree_some hcu hu
    have u0 := (check_ok hcu).1
    obtain ⟨lu,hlu,hlus⟩ := L.varsR_spec hcu
    have hlul := hlus.len hcu (by omega)
    have hnv := L.nv_le hcu (v := u.length - 1) (by omega)
    have q4 := fun W (hb : Below w.heap.size w W) => alike_any W tb to ca ub uo cb (hta.below hb) (hua.below hb) t0 u0 (by omega) (by omega) hlt.out hlu (by omega) (by omega)
    have qk := fun W (hb : Below w.heap.size w W) => refchk_any W (some ⟨ub,uo,none⟩) cb (.inr ⟨ub,uo,rfl,hua.below hb⟩) (by omega)
    rw [hcu] at qk
    replace qk := Lib.hid qk
    by_cases hal : lt = lu
    ·have hvs := (vars_same tc.out hcu hlts hlus).1 hal
     rw [decide_eq_true hal] at q4
     replace q4 := Lib.hid q4
     have hu7 : u.length ≤ 7 := by
      have h1 := len_vars hcu hlus
      have h2 := len_vars tc.out hlts
      rw [hal] at h2
      omega
     have qc := copy_any (cap := cb) hS2 hv2 (hua.below b2) hcu hu7 hvs (hT.same (b2.block _ hT.lt')) (hP.same (b2.block _ hP.lt))
     have qt := fun W (hb : Below w.heap.size w W) => ttable_any (c := ca) (hta.below hb) t0 (by omega) hlt.out ltl hbt
     replace qt := Lib.hid qt
     replace hvs := Lib.hid hvs
     replace hS2 := Lib.hid hS2
     replace hcu := Lib.hid hcu
     replace hlu := Lib.hid hlu
     replace hlul := Lib.hid hlul
     subst hal
     go_wp2_with fail
     refine qc.mono ?_
     rintro e w3 ⟨Bm,sm,rm,rfl,hS3,hv3,hm3,hb3⟩
     have b3 := b2.trans (hb3.mono b2.size)
     have qk1 := qk.out w3 b3
     clear qc
     have qtext := fun W (hb : Below w.heap.size w W) vf (hvf : SlB W vf _) => text_of_table (c := cb) hS3.inv hS3.tree (by omega) hlu.out hlus ltl hv3 (hua.below hb) hvf
     have qhas := fun W (hb : Below w3.heap.size w3 W) (hb0 : Below w.heap.size w W) => (hS3.below hb).here.elim fun Bz hz => by
      have := lhas_any (cap := cb) hz.2.2.1 hv3 (hua.below hb0)
      rw [hz.1] at this
      exact this
     generalize (⟨(L.tx sm.nodes rm).toArray⟩ : ByteArray) = X at *
     replace qtext := Lib.hid qtext
     replace qhas := Lib.hid qhas
     replace hS3 := Lib.hid hS3
     go_wp2_with fail
     refine qk1.mono ?_
     rintro e w4 ⟨rfl,hx4⟩
     have b4 := b3.trans (hx4.below.mono b3.size)
     have q4' := q4.out w4 b4
     clear qk1
     go_wp2_with fail
     refine q4'.mono ?_
     rintro e w5 ⟨rfl,hb5⟩
     have b5 := b4.trans (hb5.mono b4.size)
     have b35 := hx4.below.trans (hb5.mono hx4.size)
     have qt1 := qt.out w5 b5
     clear q4'
     go_wp2_with fail
     refine qt1.mono ?_
     rintro e w6 ⟨g6,c6,cs6,rfl,hg6,hcs6,hcc6,hb6⟩
     have b6 := b5.trans (hb6.mono b5.size)
     have b36 := b35.trans (hb6.mono b35.size)
     have qx := qtext.out w6 b6 _ (tab_slB (c := c6) hcs6 hcc6)
     replace hcs6 := Lib.hid hcs6
     replace hcc6 := Lib.hid hcc6
     clear qt1
     go_wp2_with fail
     refine qx.mono ?_
     rintro e w7 ⟨rfl,hb7⟩
     have b7 := b6.trans (hb7.mono b6.size)
     have qh := qhas.out w7 (b36.trans (hb7.mono b36.size)) b7
     clear qx
     go_wp2_with fail
     refine qh.mono ?_
     rintro e w8 ⟨rfl,hb8⟩
     have b8 := b7.trans (hb8.mono b7.size)
     have qw := hw.out w8 b8
     clear qh
     go_wp2_with fail
     refine qw.mono ?_
     rintro e w9 ⟨rfl,hb9⟩
     go_wp2_with fail
     go_ret
     exact ⟨rfl,b8.trans (hb9.mono b8.size)⟩
    ·have hvs : ¬ ∀ v,VarOf t v ↔ VarOf u v := fun h => hal ((vars_same tc.out hcu hlts hlus).2 h)
     rw [decide_eq_false hal] at q4
     replace q4 := Lib.hid q4
     have qc := copy_no (cap := cb) hS2 hv2 (hua.below b2) hcu hvs
     replace hvs := Lib.hid hvs
     replace hS2 := Lib.hid hS2
     replace hcu := Lib.hid hcu
     replace hlu := Lib.hid hlu
     replace hlul := Lib.hid hlul
     replace hal := Lib.hid hal
     go_wp2_with fail
     refine qc.mono ?_
     rintro e w3 ⟨rfl,hb3⟩
     have b3 := b2.trans (hb3.mono b2.size)
     have qk1 := qk.out w3 b3
     clear qc
     go_wp2_with fail
     refine qk1.mono ?_
     rintro e w4 ⟨rfl,hx4⟩
     have b4 := b3.trans (hx4.below.mono b3.size)
     have q4' := q4.out w4 b4
     clear qk1
     go_wp2_with fail
     refine q4'.mono ?_
     rintro e w5 ⟨rfl,hb5⟩
     have b5 := b4.trans (hb5.mono b4.size)
     have qw := hw.out w5 b5
     clear q4'
     go_wp2_with fail
     refine qw.mono ?_
     rintro e w9 ⟨rfl,hb9⟩
     go_wp2_with fail
     go_ret
     exact ⟨rfl,b5.trans (hb9.mono b5.size)⟩
   ·have hc1 : checkF u = 1 := check_one hcu
    have qk := fun W (hb : Below w.heap.size w W) => refchk_any W bb cb (hu.imp id (fun ⟨b,o,e,h⟩ => ⟨b,o,e,h.below hb⟩)) (by omega)
    rw [hc1] at qk
    replace qk := Lib.hid qk
    have qc := copy_bad (cap := cb) hS2 hv2 (hu.imp id (fun ⟨b,o,e,h⟩ => ⟨b,o,e,h.below b2⟩)) hc1
    replace hS2 := Lib.hid hS2
    replace hc1 := Lib.hid hc1
    replace hcu := Lib.hid hcu
    go_wp2_with fail
    refine qc.mono ?_
    rintro e w3 ⟨rfl,hb3⟩
    have b3 := b2.trans (hb3.mono b2.size)
    have qk1 := qk.out w3 b3
    clear qc
    go_wp2_with fail
    refine qk1.mono ?_
    rintro e w4 ⟨rfl,hx4⟩
    have b4 := b3.trans (hx4.below.mono b3.size)
    have qw := hw.out w4 b4
    clear qk1
    go_wp2_with fail
    refine qw.mono ?_
    rintro e w9 ⟨rfl,hb9⟩
    go_wp2_with fail
    go_ret
    exact ⟨rfl,b4.trans (hb9.mono b4.size)⟩
end Go.Proofs.YteikmmfjhabijaaGreatDoor
