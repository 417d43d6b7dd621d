import Derived.Test.YteikmmfjhabijaaGreatDoorQVcopy
set_option linter.unusedSimpArgs false
set_option linter.unusedVariables false
namespace Go.Proofs.YteikmmfjhabijaaGreatDoor
open Go Go.RowKit Go.Shelf
set_option maxRecDepth 100000 in
set_option maxHeartbeats 2000000 in
theorem alike_any {t u : List VN} {l m : List Int} (w : World) (b o c b' o' c' : Nat) (ht : TreeAt w b o t) (hu : TreeAt w b' o' u) (ht0 : 0 < t.length) (hu0 : 0 < u.length) (htl : t.length ≤ 1048576) (hul : u.length ≤ 1048576) (hl : varsR t = some l) (hm : varsR u = some m) (hll : l.length ≤ 1000) (hml : m.length ≤ 1000) :
  Calls Tryz.prog 45 #[.slice (some ⟨b,o,none⟩) t.length c,.slice (some ⟨b',o',none⟩) u.length c'] w fun e w' => e = .returned (.bool (decide (l = m))) ∧ Below w.heap.size w w' := by
 generalize hD : decide (l = m) = D at *
 replace hD := Lib.hid hD
 have q1 := refVars_any w b o c l ht ht0 htl hl
 have q2 := fun W (hb : Below w.heap.size w W) => refVars_any W b' o' c' m (hu.below hb) hu0 hul hm
 replace q2 := Lib.hid q2
 clear ht hu hl hm
 go_enter Tryz.func45,Tryz.ntmps45
 go_wp2_with fail
 refine q1.mono ?_
 rintro e w1 ⟨v1,rfl,hr1,hb1⟩
 have q3 := q2.out w1 hb1
 clear q1
 replace hr1 := Lib.hid hr1
 go_wp2_with fail
 refine q3.mono ?_
 rintro e w2 ⟨v2,rfl,hr2,hb2⟩
 obtain ⟨ba,ca,rfl,h1⟩ := owns_slI (own_lift hr1.out hb2)
 obtain ⟨bb,cb,rfl,h2⟩ := owns_slI hr2
 have hb12 := hb1.trans (hb2.mono hb1.size)
 replace h1 := Lib.hid h1
 replace h2 := Lib.hid h2
 clear q3 hr1 hr2
 by_cases hlen : l.length = m.length
 ·have dn : ((l.length : Int) != (m.length : Int)) = false := by simp [hlen]
  go_wp2_with fail
  have h0 : Hid (Ext w2 w2 ∧ l.take 0 = m.take 0) := Lib.hid ⟨Ext.refl _,rfl⟩
  go_loopw [7] (fun i wr => ∃ k : Nat,k ≤ l.length ∧ i = .int .i64 (k : Nat) ∧ Hid (Ext w2 wr ∧ l.take k = m.take k)) (fun i _ => l.length - (intOf i).toNat)
  case atStart => exact ⟨0,Nat.zero_le _,rfl,h0⟩
  case round =>
   clear h0
   obtain ⟨k,hk,rfl,hI⟩ := hrel
   by_cases hlt : k < l.length
   ·have dlt : decide ((k : Int) < (l.length : Int)) = true := decide_eq_true (by omega)
    have hlm : k < m.length := by omega
    obtain ⟨b1,o1,e1,g1⟩ := h1.out.resolve_left (fun e => by have := e.2.1; rw [this] at hlt; simp at hlt)
    obtain ⟨b2,o2,e2,g2⟩ := h2.out.resolve_left (fun e => by have := e.2.1; rw [this] at hlm; simp at hlm)
    subst e1 e2
    have c1 := hI.out.1.cell (g1 k hlt)
    have c2 := hI.out.1.cell (g2 k hlm)
    have hlk : l.take (k + 1) = l.take k ++ [l[k]] := by rw [List.take_add_one,List.getElem?_eq_getElem hlt]; rfl
    have hmk : m.take (k + 1) = m.take k ++ [m[k]] := by rw [List.take_add_one,List.getElem?_eq_getElem hlm]; rfl
    have hne : l[k] ≠ m[k] → ¬ l = m := fun h e => by subst e; exact h rfl
    generalize l[k] = x at *
    generalize m[k] = y at *
    have i0 : (0 : Int) ≤ k := by omega
    have i1 : (k : Int) < l.length := by omega
    have i2 : (k : Int) < m.length := by omega
    have F1 := Lib.hid fun (W : World) (hW : Ext wr W) => And.intro (hW.cell c1) (hW.cell c2)
    replace hlk := Lib.hid hlk
    replace hmk := Lib.hid hmk
    replace hlen := Lib.hid hlen
    clear c1 c2 g1 g2
    by_cases hxy : x = y
    ·subst hxy
     clear hne
     go_wp2_with fail
     (refine wp_region_below (by kernel_rfl) (by kernel_rfl) ?_
      repeat (refine wpQuiet_step (fun K hK => ?_)
              go_simp
              first
               | (refine hK _ ?_; clear hK K)
               | (replace hK := Lib.hid hK
                  apply Exists.intro
                  refine ⟨fun wq hq => ?_,hK.out _ ?_⟩
                  ·(obtain ⟨f1,f2⟩ := F1.out wq hq)
                   go_simp
                   first
                    | done
                    | rfl
                    | exact ⟨rfl,rfl⟩
                    | fail
                  clear hK K))
      refine wpQuiet_nil ?_)
     intro w5 hx5
     go_wp2_with fail
     go_roundw
     case rel => exact ⟨k + 1,by omega,by go_num,Lib.hid ⟨hI.out.1.trans hx5,by rw [hlk.out,hmk.out,hI.out.2]⟩⟩
     case measure => simp [intOf]; omega
    ·have hDf := Lib.hid (hD.out.symm.trans (decide_eq_false (hne hxy)))
     have dxy : (x != y) = true := by simpa using hxy
     replace hne := Lib.hid hne
     go_wp2_with fail
     (refine wp_region_below (by kernel_rfl) (by kernel_rfl) ?_
      repeat (refine wpQuiet_step (fun K hK => ?_)
              go_simp
              first
               | (refine hK _ ?_; clear hK K)
               | (replace hK := Lib.hid hK
                  apply Exists.intro
                  refine ⟨fun wq hq => ?_,hK.out _ ?_⟩
                  ·(obtain ⟨f1,f2⟩ := F1.out wq hq)
                   go_simp
                   first
                    | done
                    | rfl
                    | exact ⟨rfl,rfl⟩
                    | fail
                  clear hK K))
      refine wpQuiet_nil ?_)
     intro w5 hx5
     go_wp2_with fail
     go_ret
     exact ⟨by rw [hDf.out]; rfl,hb12.trans ((hI.out.1.trans hx5).below.mono hb12.size)⟩
   ·have dlt : decide ((k : Int) < (l.length : Int)) = false := decide_eq_false (by omega)
    have hDt := Lib.hid (hD.out.symm.trans (decide_eq_true (by
     have := hI.out.2
     rwa [List.take_of_length_le (by omega),List.take_of_length_le (by omega)] at this)))
    go_wp2_with fail
    go_ret
    exact ⟨by rw [hDt.out]; rfl,hb12.trans (hI.out.1.below.mono hb12.size)⟩
 ·have dn : ((l.length : Int) != (m.length : Int)) = true := by simp; omega
  have hDf := Lib.hid (hD.out.symm.trans (decide_eq_false fun e => hlen (by rw [e])))
  go_wp2_with fail
  go_ret
  exact ⟨by rw [hDf.out]; rfl,hb12⟩
theorem varsOf_mem {t : List VN} (hc : checkF t = 0) {l : List Int} (hl : L.SortedBel t (t.length - 1) l) (v : Int) : v ∈ l ↔ VarOf t v := by rw [hl.mem,bel_root hc]
theorem vars_same {t u : List VN} (hc : checkF t = 0) (hd : checkF u = 0) {l m : List Int} (hl : L.SortedBel t (t.length - 1) l) (hm : L.SortedBel u (u.length - 1) m) : (l = m) ↔ ∀ v,VarOf t v ↔ VarOf u v := by
 constructor
 ·rintro rfl v
  rw [← varsOf_mem hc hl,← varsOf_mem hd hm]
 ·intro h
  exact L.sorted_eq (lt := fun a b : Int => decide (a < b)) (fun a b h1 h2 => by simp at h1 h2; omega) l m (hl.sorted.imp fun h => by simpa using h) (hm.sorted.imp fun h => by simpa using h) fun v => by rw [varsOf_mem hc hl,varsOf_mem hd hm]; exact h v
theorem few7_vars {t : List VN} (hf : few7 t = true) : 0 < t.length ∧ t.length ≤ 7 ∧ checkF t = 0 ∧ ∃ l,varsR t = some l ∧ l.length ≤ 6 ∧ L.SortedBel t (t.length - 1) l := by
 obtain ⟨h7,hc⟩ := few7_parts hf
 obtain ⟨l,h1,h2,h3,_⟩ := vars_few hc (by omega)
 exact ⟨(check_ok hc).1,h7,hc,l,h1,h2,h3⟩
end Go.Proofs.YteikmmfjhabijaaGreatDoor
