import Derived.Test.YteikmmfjhabijaaGreatDoorMade
import Derived.Test.YteikmmfjhabijaaGreatDoorMoveIn
set_option linter.unusedSimpArgs false
set_option linter.unusedVariables false
namespace Go.Proofs.YteikmmfjhabijaaGreatDoor
open Go Go.RowKit Go.Shelf

/-! VmoveEvals. -/
/-- what holds in its loop -/
structure VeLoop (wa : World) (x : Nat) (xs : VSet) (φ : L.Asg → Bool) (sb r : Nat) (wr : World) : Prop where
  st : ∃ t so B, B.sb = sb ∧ SS t B wr 300000 so wr ∧ Val so r φ ∧ t.length ≤ 7
  bel : Below wa.heap.size wa wr
  box : wr.heap[x]? = some (.cells #[.int .u64 (lo xs), .int .u64 (hi xs)] 29 (0, 0))
theorem VeLoop.next {wa : World} {x : Nat} {xs : VSet} {φ : L.Asg → Bool} {sb r : Nat} {wr w' : World} (h : VeLoop wa x xs φ sb r wr) (hb : Below wr.heap.size wr w') : VeLoop wa x xs φ sb r w' := by
  obtain ⟨t, so, B, h0, h1, h2, h3⟩ := h.st
  obtain ⟨B', hB', _, hS', _⟩ := (h1.below hb).here
  exact ⟨⟨t, so, B', hB'.trans h0, hS', h2, h3⟩, h.bel.trans (hb.mono h.bel.size), (hb.block x (Array.getElem?_eq_some_iff.1 h.box).1).trans h.box⟩
set_option maxRecDepth 100000 in
set_option maxHeartbeats 2000000 in
theorem vevals_works {t : List VN} {n : Nat} {bits x0 x1 : Int} (w : World) (ba bo : Option Addr) (cap co : Nat) (hT : TzTab w) (hP : PowTab w) (h : t = [] ∨ ∃ b o, ba = some ⟨b, o, none⟩ ∧ TreeAt w b o t) (hn : few7 t = false ∨ 6 < n) :
    Calls Tryz.prog 12 #[.slice ba t.length cap, .int .u16 bits, .slice bo n co, .agg #[.int .u64 x0, .int .u64 x1]] w fun e w' => e = .returned (.bool true) ∧ Below w.heap.size w w' := by
  have hxb := (Ext.refl w).alloc (.cells #[.int .u64 x0, .int .u64 x1] 29)
  have hw : ∀ w', Ext w w' → Calls Tryz.prog 37 #[] w' fun e w'' => e = .returned (.bool true) ∧ Below w'.heap.size w' w'' := fun w' hx => vworks_any w' (hT.same (hx.below.block _ hT.lt')) (hP.same (hx.below.block _ hP.lt))
  have hq := few7_any (w.alloc (.cells #[.int .u64 x0, .int .u64 x1] 29)) ba cap (h.imp id (fun ⟨b, o, e, ht⟩ => ⟨b, o, e, ht.ext hxb⟩))
  cases hf : few7 t
  · rw [hf] at hq
    go_enter Tryz.func12, Tryz.ntmps12
    go_wp2_with fail
    refine hq.mono ?_
    rintro e w1 ⟨rfl, hx1⟩
    go_wp2_with fail
    refine (hw w1 (hxb.trans hx1)).mono ?_
    rintro e w2 ⟨rfl, hb2⟩
    go_wp2_with fail
    go_ret
    exact ⟨rfl, (hxb.trans hx1).below.trans (hb2.mono (hxb.trans hx1).size)⟩
  · rw [hf] at hq
    have h6 : 6 < n := hn.resolve_left (by rw [hf]; simp)
    have d6 : decide ((n : Int) > 6) = true := decide_eq_true (by omega)
    go_enter Tryz.func12, Tryz.ntmps12
    go_wp2_with fail
    refine hq.mono ?_
    rintro e w1 ⟨rfl, hx1⟩
    go_wp2_with fail
    refine (hw w1 (hxb.trans hx1)).mono ?_
    rintro e w2 ⟨rfl, hb2⟩
    go_wp2_with fail
    go_ret
    exact ⟨rfl, (hxb.trans hx1).below.trans (hb2.mono (hxb.trans hx1).size)⟩
set_option maxRecDepth 100000 in
set_option maxHeartbeats 8000000 in
theorem vevals_ok {t : List VN} {ps : List (Nat × Nat)} {bits : Nat} {xs : VSet} (w : World) (b o cap : Nat) (bo : Option Addr) (co : Nat) (hT : TzTab w) (hP : PowTab w) (h : TreeAt w b o t) (hps : U8In w bo ps) (hf : few7 t = true) (h6 : ps.length ≤ 6) (hbt : bits < 65536) :
    Calls Tryz.prog 12 #[.slice (some ⟨b, o, none⟩) t.length cap, .int .u16 (bits : Nat), .slice bo ps.length co, .agg #[.int .u64 (lo xs), .int .u64 (hi xs)]] w fun e w' => e = .returned (.bool true) ∧ Below w.heap.size w w' := by
  have hf' := hf
  unfold few7 at hf'
  simp only [Bool.and_eq_true, decide_eq_true_eq] at hf'
  obtain ⟨h7, hc⟩ := hf'
  obtain ⟨l, hl, _⟩ := vars_few hc (by omega)
  have d6 : decide ((ps.length : Int) > 6) = false := decide_eq_false (by omega)
  generalize hx : w.heap.size = x at *
  have hxb := (Ext.refl w).alloc (.cells #[.int .u64 (lo xs), .int .u64 (hi xs)] 29)
  have hbx := heap_alloc_new w (.cells #[.int .u64 (lo xs), .int .u64 (hi xs)] 29)
  rw [hx] at hbx
  have hq := few7_any (w.alloc (.cells #[.int .u64 (lo xs), .int .u64 (hi xs)] 29)) (some ⟨b, o, none⟩) cap (.inr ⟨b, o, rfl, h.ext hxb⟩)
  rw [hf] at hq
  replace hx := Lib.hid hx
  replace hbx := Lib.hid hbx
  replace hc := Lib.hid hc
  go_enter Tryz.func12, Tryz.ntmps12
  go_wp2_with fail
  simp only [hx.out]
  generalize w.alloc (.cells #[.int .u64 (lo xs), .int .u64 (hi xs)] 29) = w1 at *
  refine hq.mono ?_
  rintro e w2 ⟨rfl, hx2⟩
  have hw2 := (hxb.trans hx2).below
  have q1 := made_any (cap := cap) (hT.same (hw2.block _ hT.lt')) (hP.same (hw2.block _ hP.lt)) (h.below hw2) hc.out h7 hbt hl
  clear hq
  go_wp2_with fail
  refine q1.mono ?_
  rintro e w3 ⟨B, so, r, rfl, hS3, hv3, hm3, hb3⟩
  generalize (fun y => bits.testBit (idxF l y)) = φ at *
  have hw3 := hw2.trans (hb3.mono hw2.size)
  have hb23 := hx2.below.trans (hb3.mono hx2.size)
  have hbx3 := (hb23.block x (Array.getElem?_eq_some_iff.1 hbx.out).1).trans hbx.out
  obtain ⟨y0, y1⟩ := pbox_cells hbx3
  have qe := eval_v hS3 hv3 xs
  have hL : Hid (VeLoop w x xs φ B.sb r w3) := Lib.hid ⟨⟨t, so, B, rfl, hS3, hv3, h7⟩, hw3, hbx3⟩
  replace hbx3 := Lib.hid hbx3
  clear q1 hS3 hv3 hm3 hb3 hb23
  go_wp2_with fail
  refine qe.mono ?_
  rintro e w4 ⟨rfl, hx4⟩
  have hL4 := Lib.hid (hL.out.next hx4.below)
  generalize hpv : φ (L.asg xs) = pv at *
  replace hpv := Lib.hid hpv
  have hpne : (pv != pv) = false := by cases pv <;> rfl
  clear qe hL y0 y1 hbx3
  go_wp2_with fail
  go_loopw [9, 10, 13] (fun sv rv iv wr => ∃ (k sb r : Nat), k ≤ ps.length ∧ sv = .pointer (some ⟨sb, 0, none⟩) ∧ rv = .int .i64 (r : Nat) ∧ iv = .int .i64 (k : Nat) ∧ Hid (VeLoop w x xs φ sb r wr)) (fun _ _ iv _ => ps.length - (intOf iv).toNat)
  case atStart => exact ⟨0, B.sb, r, by omega, rfl, rfl, rfl, hL4⟩
  case round =>
    clear hL4
    obtain ⟨k, sb, r, hk, rfl, rfl, rfl, hI⟩ := hrel
    by_cases hlt : k < ps.length
    · have dlt : decide ((k : Int) < (ps.length : Int)) = true := decide_eq_true (by omega)
      obtain ⟨hrg, hps'⟩ := hps
      obtain ⟨pb, po, rfl, hcell⟩ := hps'.resolve_left (by rintro rfl; simp at hlt)
      obtain ⟨hr1, hr2⟩ := hrg ps[k] (List.getElem_mem hlt)
      obtain ⟨e1, e2⟩ := hcell k hlt
      generalize ps[k].1 = p1 at *
      generalize ps[k].2 = p2 at *
      clear hcell hps' hrg
      have hw1 : IntKind.i64.wrap (p1 : Int) = (p1 : Int) := IntWalk.i64_in _ (by omega)
      have hw2 : IntKind.i64.wrap (p2 : Int) = (p2 : Int) := IntWalk.i64_in _ (by omega)
      clear hr1 hr2
      have hbd := (Below.refl wr.heap.size wr).drew
      have hId := hI.out.next hbd
      replace e1 := (hId.bel.cell (World.block_lt_of_cell? w _ e1)).trans e1
      replace e2 := (hId.bel.cell (World.block_lt_of_cell? w _ e2)).trans e2
      obtain ⟨t', so, B, hsb, hS, hv, h7'⟩ := hId.st
      subst hsb
      have hT' := hT.same (hId.bel.block _ hT.lt')
      have hP' := hP.same (hId.bel.block _ hP.lt)
      have qm := move_any (i := (p1 : Int).tmod 8) (z := (p2 : Int).tmod 3) hS hv h7' hT' hP'
      replace hId := Lib.hid hId
      replace hS := Lib.hid hS
      replace hbd := Lib.hid hbd
      cases hcm : canM (kdOf ((p2 : Int).tmod 3)) t' ((p1 : Int).tmod 8)
      · replace hcm := Lib.hid hcm
        go_wp2_with fail
        (refine wp_region_held_drew (S := (fun W => W.cell? ⟨pb, po + k * 2, none⟩ = some (.int .u8 (p1 : Nat)) ∧ W.cell? ⟨pb, po + k * 2 + 1, none⟩ = some (.int .u8 (p2 : Nat)))) (by kernel_rfl) ?_ (fun hHeld => ?_))
        · exact ⟨e1, e2⟩
        (refine takeL (i := 0) (v := ?_) rfl (by kernel_rfl) (by kernel_rfl) (by kernel_rfl) (fun _ _ _ h => h) (Or.inl ⟨by rfl, ?_⟩) (by assumption) ?_)
        rotate_left
        · (intro w hSw; (try dsimp only at hSw); go_simp; first | done | with_reducible rfl)
        (try simp only [Act.put, List.setIfInBounds_toArray, List.set_cons_zero, List.set_cons_succ])
        (refine takeL (i := 1) (v := ?_) rfl (by kernel_rfl) (by kernel_rfl) (by kernel_rfl) (fun _ _ _ h => h) (Or.inl ⟨by rfl, ?_⟩) (by assumption) ?_)
        rotate_left
        · (intro w hSw; (try dsimp only at hSw); go_simp; first | done | with_reducible rfl)
        (try simp only [Act.put, List.setIfInBounds_toArray, List.set_cons_zero, List.set_cons_succ])
        (refine takeL (i := 2) (v := ?_) rfl (by kernel_rfl) (by kernel_rfl) (by kernel_rfl) (fun _ _ _ h => h) (Or.inl ⟨by rfl, ?_⟩) (by assumption) ?_)
        rotate_left
        · (intro w hSw; (try dsimp only at hSw); go_simp; first | done | with_reducible rfl)
        (try simp only [Act.put, List.setIfInBounds_toArray, List.set_cons_zero, List.set_cons_succ])
        (refine takeL (i := 3) (v := ?_) rfl (by kernel_rfl) (by kernel_rfl) (by kernel_rfl) (fun _ _ _ h => h) (Or.inl ⟨by rfl, ?_⟩) (by assumption) ?_)
        rotate_left
        · (intro w hSw; (try dsimp only at hSw); go_simp; first | done | with_reducible rfl)
        (try simp only [Act.put, List.setIfInBounds_toArray, List.set_cons_zero, List.set_cons_succ])
        (refine takeL (i := 4) (v := ?_) rfl (by kernel_rfl) (by kernel_rfl) (by kernel_rfl) (fun _ _ _ h => h) (Or.inl ⟨by rfl, ?_⟩) (by assumption) ?_)
        rotate_left
        · (intro w hSw; (try dsimp only at hSw); go_simp; first | done | with_reducible rfl)
        (try simp only [Act.put, List.setIfInBounds_toArray, List.set_cons_zero, List.set_cons_succ])
        (refine takeL (i := 5) (v := ?_) rfl (by kernel_rfl) (by kernel_rfl) (by kernel_rfl) (fun _ _ _ h => h) (Or.inl ⟨by rfl, ?_⟩) (by assumption) ?_)
        rotate_left
        · (intro w hSw; (try dsimp only at hSw); go_simp; first | done | with_reducible rfl)
        (try simp only [Act.put, List.setIfInBounds_toArray, List.set_cons_zero, List.set_cons_succ])
        (refine takeL (i := 6) (v := ?_) rfl (by kernel_rfl) (by kernel_rfl) (by kernel_rfl) (fun _ _ _ h => h) (Or.inl ⟨by rfl, ?_⟩) (by assumption) ?_)
        rotate_left
        · (intro w hSw; (try dsimp only at hSw); go_simp; first | done | with_reducible rfl)
        (try simp only [Act.put, List.setIfInBounds_toArray, List.set_cons_zero, List.set_cons_succ])
        (refine takeL (i := 7) (v := ?_) rfl (by kernel_rfl) (by kernel_rfl) (by kernel_rfl) (fun _ _ _ h => h) (Or.inl ⟨by rfl, ?_⟩) (by assumption) ?_)
        rotate_left
        · (intro w hSw; (try dsimp only at hSw); go_simp; first | done | with_reducible rfl)
        (try simp only [Act.put, List.setIfInBounds_toArray, List.set_cons_zero, List.set_cons_succ])
        (refine takeL (i := 8) (v := ?_) rfl (by kernel_rfl) (by kernel_rfl) (by kernel_rfl) (fun _ _ _ h => h) (Or.inl ⟨by rfl, ?_⟩) (by assumption) ?_)
        rotate_left
        · (intro w hSw; (try dsimp only at hSw); go_simp; first | done | with_reducible rfl)
        (try simp only [Act.put, List.setIfInBounds_toArray, List.set_cons_zero, List.set_cons_succ])
        (refine takeL (i := 9) (v := ?_) rfl (by kernel_rfl) (by kernel_rfl) (by kernel_rfl) (fun _ _ _ h => h) (Or.inl ⟨by rfl, ?_⟩) (by assumption) ?_)
        rotate_left
        · (intro w hSw; (try dsimp only at hSw); go_simp; first | done | with_reducible rfl)
        (try simp only [Act.put, List.setIfInBounds_toArray, List.set_cons_zero, List.set_cons_succ])
        (refine takeL (i := 10) (v := ?_) rfl (by kernel_rfl) (by kernel_rfl) (by kernel_rfl) (fun _ _ _ h => h) (Or.inl ⟨by rfl, ?_⟩) (by assumption) ?_)
        rotate_left
        · (intro w hSw; (try dsimp only at hSw); go_simp; first | done | with_reducible rfl)
        (try simp only [Act.put, List.setIfInBounds_toArray, List.set_cons_zero, List.set_cons_succ])
        (refine takeL (i := 11) (v := ?_) rfl (by kernel_rfl) (by kernel_rfl) (by kernel_rfl) (fun _ _ _ h => h) (Or.inl ⟨by rfl, ?_⟩) (by assumption) ?_)
        rotate_left
        · (intro w hSw; (try dsimp only at hSw); go_simp; first | done | with_reducible rfl)
        (try simp only [Act.put, List.setIfInBounds_toArray, List.set_cons_zero, List.set_cons_succ])
        (refine takeL (i := 12) (v := ?_) rfl (by kernel_rfl) (by kernel_rfl) (by kernel_rfl) (fun _ _ _ h => h) (Or.inl ⟨by rfl, ?_⟩) (by assumption) ?_)
        rotate_left
        · (intro w hSw; (try dsimp only at hSw); go_simp; first | done | with_reducible rfl)
        (try simp only [Act.put, List.setIfInBounds_toArray, List.set_cons_zero, List.set_cons_succ])
        (refine takeL (i := 13) (v := ?_) rfl (by kernel_rfl) (by kernel_rfl) (by kernel_rfl) (fun _ _ _ h => h) (Or.inl ⟨by rfl, ?_⟩) (by assumption) ?_)
        rotate_left
        · (intro w hSw; (try dsimp only at hSw); go_simp; first | done | with_reducible rfl)
        (try simp only [Act.put, List.setIfInBounds_toArray, List.set_cons_zero, List.set_cons_succ])
        (refine takeL (i := 14) (v := ?_) rfl (by kernel_rfl) (by kernel_rfl) (by kernel_rfl) (fun _ _ _ h => h) (Or.inl ⟨by rfl, ?_⟩) (by assumption) ?_)
        rotate_left
        · (intro w hSw; (try dsimp only at hSw); go_simp; first | done | with_reducible rfl)
        (try simp only [Act.put, List.setIfInBounds_toArray, List.set_cons_zero, List.set_cons_succ])
        (refine takeL (i := 15) (v := ?_) rfl (by kernel_rfl) (by kernel_rfl) (by kernel_rfl) (fun _ _ _ h => h) (Or.inl ⟨by rfl, ?_⟩) (by assumption) ?_)
        rotate_left
        · (intro w hSw; (try dsimp only at hSw); go_simp; first | done | with_reducible rfl)
        (try simp only [Act.put, List.setIfInBounds_toArray, List.set_cons_zero, List.set_cons_succ])
        (refine wpAnyH_ready (rs := [16]) (by kernel_rfl) (by simp) ?_)
        (refine consL rfl (fun K hK => ?_))
        ((rw [if_pos (by rfl)]); go_simp; (go_at_call 39); refine qm.mono ?_; rintro e w6 ⟨hb6, hcase⟩; obtain ⟨_, rfl⟩ := hcase.resolve_right (fun h => by rw [hcm.out] at h; exact Bool.noConfusion h.1); refine hK.out _ _ ⟨(hb6.cell (World.block_lt_of_cell? _ _ e1)).trans e1, (hb6.cell (World.block_lt_of_cell? _ _ e2)).trans e2⟩ (fun hHeld => ?_))
        (clear hK K)
        (try simp only [Act.put, List.setIfInBounds_toArray, List.set_cons_zero, List.set_cons_succ])
        (refine takeL (i := 17) (v := ?_) rfl (by kernel_rfl) (by kernel_rfl) (by kernel_rfl) (fun _ _ _ h => h) (Or.inl ⟨by rfl, ?_⟩) (by assumption) ?_)
        rotate_left
        · (intro w hSw; (try dsimp only at hSw); go_simp; first | done | with_reducible rfl)
        (try simp only [Act.put, List.setIfInBounds_toArray, List.set_cons_zero, List.set_cons_succ])
        (refine takeL (i := 18) (v := ?_) rfl (by kernel_rfl) (by kernel_rfl) (by kernel_rfl) (fun _ _ _ h => h) (Or.inl ⟨by rfl, ?_⟩) (by assumption) ?_)
        rotate_left
        · (intro w hSw; (try dsimp only at hSw); go_simp; first | done | with_reducible rfl)
        (try simp only [Act.put, List.setIfInBounds_toArray, List.set_cons_zero, List.set_cons_succ])
        (refine takeL (i := 19) (v := ?_) rfl (by kernel_rfl) (by kernel_rfl) (by kernel_rfl) (fun _ _ _ h => h) (Or.inl ⟨by rfl, ?_⟩) (by assumption) ?_)
        rotate_left
        · (intro w hSw; (try dsimp only at hSw); go_simp; first | done | with_reducible rfl)
        (try simp only [Act.put, List.setIfInBounds_toArray, List.set_cons_zero, List.set_cons_succ])
        (refine takeL (i := 20) (v := ?_) rfl (by kernel_rfl) (by kernel_rfl) (by kernel_rfl) (fun _ _ _ h => h) (Or.inl ⟨by rfl, ?_⟩) (by assumption) ?_)
        rotate_left
        · (intro w hSw; (try dsimp only at hSw); go_simp; first | done | with_reducible rfl)
        (try simp only [Act.put, List.setIfInBounds_toArray, List.set_cons_zero, List.set_cons_succ])
        (refine takeL (i := 21) (v := ?_) rfl (by kernel_rfl) (by kernel_rfl) (by kernel_rfl) (fun _ _ _ h => h) (Or.inl ⟨by rfl, ?_⟩) (by assumption) ?_)
        rotate_left
        · (intro w hSw; (try dsimp only at hSw); go_simp; first | done | with_reducible rfl)
        (try simp only [Act.put, List.setIfInBounds_toArray, List.set_cons_zero, List.set_cons_succ])
        (refine takeL (i := 22) (v := ?_) rfl (by kernel_rfl) (by kernel_rfl) (by kernel_rfl) (fun _ _ _ h => h) (Or.inl ⟨by rfl, ?_⟩) (by assumption) ?_)
        rotate_left
        · (intro w hSw; (try dsimp only at hSw); go_simp; first | done | with_reducible rfl)
        (try simp only [Act.put, List.setIfInBounds_toArray, List.set_cons_zero, List.set_cons_succ])
        (refine takeL (i := 23) (v := ?_) rfl (by kernel_rfl) (by kernel_rfl) (by kernel_rfl) (fun _ _ _ h => h) (Or.inl ⟨by rfl, ?_⟩) (by assumption) ?_)
        rotate_left
        · (intro w hSw; (try dsimp only at hSw); go_simp; first | done | with_reducible rfl)
        (try simp only [Act.put, List.setIfInBounds_toArray, List.set_cons_zero, List.set_cons_succ])
        (refine wpAnyH_done (by kernel_rfl) ?_ _)
        have hV6 : Hid (VeLoop w x xs φ B.sb r w6) := Lib.hid (hId.out.next hb6)
        clear hHeld e1 e2 qm hb6 hcase hS hId hT' hP' hbd hcm
        obtain ⟨tt, so6, B6, hsb6, hS6, hv6, h76⟩ := hV6.out.st
        obtain ⟨y0, y1⟩ := pbox_cells hV6.out.box
        have qe := eval_v hS6 hv6 xs
        rw [hpv.out] at qe
        rw [hsb6] at qe
        clear hS6 hv6 hsb6 h76
        go_wp2_with fail
        refine qe.mono ?_
        rintro e w7 ⟨rfl, hx7⟩
        have hV7 := Lib.hid (hV6.out.next hx7.below)
        clear qe hV6 y0 y1
        go_wp2_with fail
        go_roundw
        case rel => exact ⟨k + 1, B.sb, r, by omega, rfl, rfl, by go_num, hV7⟩
        case measure => simp [intOf]; omega
      · replace hcm := Lib.hid hcm
        go_wp2_with fail
        (refine wp_region_held_drew (S := (fun W => W.cell? ⟨pb, po + k * 2, none⟩ = some (.int .u8 (p1 : Nat)) ∧ W.cell? ⟨pb, po + k * 2 + 1, none⟩ = some (.int .u8 (p2 : Nat)))) (by kernel_rfl) ?_ (fun hHeld => ?_))
        · exact ⟨e1, e2⟩
        (refine takeL (i := 0) (v := ?_) rfl (by kernel_rfl) (by kernel_rfl) (by kernel_rfl) (fun _ _ _ h => h) (Or.inl ⟨by rfl, ?_⟩) (by assumption) ?_)
        rotate_left
        · (intro w hSw; (try dsimp only at hSw); go_simp; first | done | with_reducible rfl)
        (try simp only [Act.put, List.setIfInBounds_toArray, List.set_cons_zero, List.set_cons_succ])
        (refine takeL (i := 1) (v := ?_) rfl (by kernel_rfl) (by kernel_rfl) (by kernel_rfl) (fun _ _ _ h => h) (Or.inl ⟨by rfl, ?_⟩) (by assumption) ?_)
        rotate_left
        · (intro w hSw; (try dsimp only at hSw); go_simp; first | done | with_reducible rfl)
        (try simp only [Act.put, List.setIfInBounds_toArray, List.set_cons_zero, List.set_cons_succ])
        (refine takeL (i := 2) (v := ?_) rfl (by kernel_rfl) (by kernel_rfl) (by kernel_rfl) (fun _ _ _ h => h) (Or.inl ⟨by rfl, ?_⟩) (by assumption) ?_)
        rotate_left
        · (intro w hSw; (try dsimp only at hSw); go_simp; first | done | with_reducible rfl)
        (try simp only [Act.put, List.setIfInBounds_toArray, List.set_cons_zero, List.set_cons_succ])
        (refine takeL (i := 3) (v := ?_) rfl (by kernel_rfl) (by kernel_rfl) (by kernel_rfl) (fun _ _ _ h => h) (Or.inl ⟨by rfl, ?_⟩) (by assumption) ?_)
        rotate_left
        · (intro w hSw; (try dsimp only at hSw); go_simp; first | done | with_reducible rfl)
        (try simp only [Act.put, List.setIfInBounds_toArray, List.set_cons_zero, List.set_cons_succ])
        (refine takeL (i := 4) (v := ?_) rfl (by kernel_rfl) (by kernel_rfl) (by kernel_rfl) (fun _ _ _ h => h) (Or.inl ⟨by rfl, ?_⟩) (by assumption) ?_)
        rotate_left
        · (intro w hSw; (try dsimp only at hSw); go_simp; first | done | with_reducible rfl)
        (try simp only [Act.put, List.setIfInBounds_toArray, List.set_cons_zero, List.set_cons_succ])
        (refine takeL (i := 5) (v := ?_) rfl (by kernel_rfl) (by kernel_rfl) (by kernel_rfl) (fun _ _ _ h => h) (Or.inl ⟨by rfl, ?_⟩) (by assumption) ?_)
        rotate_left
        · (intro w hSw; (try dsimp only at hSw); go_simp; first | done | with_reducible rfl)
        (try simp only [Act.put, List.setIfInBounds_toArray, List.set_cons_zero, List.set_cons_succ])
        (refine takeL (i := 6) (v := ?_) rfl (by kernel_rfl) (by kernel_rfl) (by kernel_rfl) (fun _ _ _ h => h) (Or.inl ⟨by rfl, ?_⟩) (by assumption) ?_)
        rotate_left
        · (intro w hSw; (try dsimp only at hSw); go_simp; first | done | with_reducible rfl)
        (try simp only [Act.put, List.setIfInBounds_toArray, List.set_cons_zero, List.set_cons_succ])
        (refine takeL (i := 7) (v := ?_) rfl (by kernel_rfl) (by kernel_rfl) (by kernel_rfl) (fun _ _ _ h => h) (Or.inl ⟨by rfl, ?_⟩) (by assumption) ?_)
        rotate_left
        · (intro w hSw; (try dsimp only at hSw); go_simp; first | done | with_reducible rfl)
        (try simp only [Act.put, List.setIfInBounds_toArray, List.set_cons_zero, List.set_cons_succ])
        (refine takeL (i := 8) (v := ?_) rfl (by kernel_rfl) (by kernel_rfl) (by kernel_rfl) (fun _ _ _ h => h) (Or.inl ⟨by rfl, ?_⟩) (by assumption) ?_)
        rotate_left
        · (intro w hSw; (try dsimp only at hSw); go_simp; first | done | with_reducible rfl)
        (try simp only [Act.put, List.setIfInBounds_toArray, List.set_cons_zero, List.set_cons_succ])
        (refine takeL (i := 9) (v := ?_) rfl (by kernel_rfl) (by kernel_rfl) (by kernel_rfl) (fun _ _ _ h => h) (Or.inl ⟨by rfl, ?_⟩) (by assumption) ?_)
        rotate_left
        · (intro w hSw; (try dsimp only at hSw); go_simp; first | done | with_reducible rfl)
        (try simp only [Act.put, List.setIfInBounds_toArray, List.set_cons_zero, List.set_cons_succ])
        (refine takeL (i := 10) (v := ?_) rfl (by kernel_rfl) (by kernel_rfl) (by kernel_rfl) (fun _ _ _ h => h) (Or.inl ⟨by rfl, ?_⟩) (by assumption) ?_)
        rotate_left
        · (intro w hSw; (try dsimp only at hSw); go_simp; first | done | with_reducible rfl)
        (try simp only [Act.put, List.setIfInBounds_toArray, List.set_cons_zero, List.set_cons_succ])
        (refine takeL (i := 11) (v := ?_) rfl (by kernel_rfl) (by kernel_rfl) (by kernel_rfl) (fun _ _ _ h => h) (Or.inl ⟨by rfl, ?_⟩) (by assumption) ?_)
        rotate_left
        · (intro w hSw; (try dsimp only at hSw); go_simp; first | done | with_reducible rfl)
        (try simp only [Act.put, List.setIfInBounds_toArray, List.set_cons_zero, List.set_cons_succ])
        (refine takeL (i := 12) (v := ?_) rfl (by kernel_rfl) (by kernel_rfl) (by kernel_rfl) (fun _ _ _ h => h) (Or.inl ⟨by rfl, ?_⟩) (by assumption) ?_)
        rotate_left
        · (intro w hSw; (try dsimp only at hSw); go_simp; first | done | with_reducible rfl)
        (try simp only [Act.put, List.setIfInBounds_toArray, List.set_cons_zero, List.set_cons_succ])
        (refine takeL (i := 13) (v := ?_) rfl (by kernel_rfl) (by kernel_rfl) (by kernel_rfl) (fun _ _ _ h => h) (Or.inl ⟨by rfl, ?_⟩) (by assumption) ?_)
        rotate_left
        · (intro w hSw; (try dsimp only at hSw); go_simp; first | done | with_reducible rfl)
        (try simp only [Act.put, List.setIfInBounds_toArray, List.set_cons_zero, List.set_cons_succ])
        (refine takeL (i := 14) (v := ?_) rfl (by kernel_rfl) (by kernel_rfl) (by kernel_rfl) (fun _ _ _ h => h) (Or.inl ⟨by rfl, ?_⟩) (by assumption) ?_)
        rotate_left
        · (intro w hSw; (try dsimp only at hSw); go_simp; first | done | with_reducible rfl)
        (try simp only [Act.put, List.setIfInBounds_toArray, List.set_cons_zero, List.set_cons_succ])
        (refine takeL (i := 15) (v := ?_) rfl (by kernel_rfl) (by kernel_rfl) (by kernel_rfl) (fun _ _ _ h => h) (Or.inl ⟨by rfl, ?_⟩) (by assumption) ?_)
        rotate_left
        · (intro w hSw; (try dsimp only at hSw); go_simp; first | done | with_reducible rfl)
        (try simp only [Act.put, List.setIfInBounds_toArray, List.set_cons_zero, List.set_cons_succ])
        (refine wpAnyH_ready (rs := [16]) (by kernel_rfl) (by simp) ?_)
        (refine consL rfl (fun K hK => ?_))
        ((rw [if_pos (by rfl)]); go_simp; (go_at_call 39); refine qm.mono ?_; rintro e w6 ⟨hb6, hcase⟩; obtain ⟨_, n, T, U, B5, so5, r5, hin, hnl, hTT, hM, rfl, hS5, hv5, hm5⟩ := hcase.resolve_left (fun h => by rw [hcm.out] at h; exact Bool.noConfusion h.1); replace hS5 := Lib.hid hS5; replace hM := Lib.hid hM; replace hTT := Lib.hid hTT; refine hK.out _ _ ⟨(hb6.cell (World.block_lt_of_cell? _ _ e1)).trans e1, (hb6.cell (World.block_lt_of_cell? _ _ e2)).trans e2⟩ (fun hHeld => ?_))
        (clear hK K)
        (try simp only [Act.put, List.setIfInBounds_toArray, List.set_cons_zero, List.set_cons_succ])
        (refine takeL (i := 17) (v := ?_) rfl (by kernel_rfl) (by kernel_rfl) (by kernel_rfl) (fun _ _ _ h => h) (Or.inl ⟨by rfl, ?_⟩) (by assumption) ?_)
        rotate_left
        · (intro w hSw; (try dsimp only at hSw); go_simp; first | done | with_reducible rfl)
        (try simp only [Act.put, List.setIfInBounds_toArray, List.set_cons_zero, List.set_cons_succ])
        (refine takeL (i := 18) (v := ?_) rfl (by kernel_rfl) (by kernel_rfl) (by kernel_rfl) (fun _ _ _ h => h) (Or.inl ⟨by rfl, ?_⟩) (by assumption) ?_)
        rotate_left
        · (intro w hSw; (try dsimp only at hSw); go_simp; first | done | with_reducible rfl)
        (try simp only [Act.put, List.setIfInBounds_toArray, List.set_cons_zero, List.set_cons_succ])
        (refine takeL (i := 19) (v := ?_) rfl (by kernel_rfl) (by kernel_rfl) (by kernel_rfl) (fun _ _ _ h => h) (Or.inl ⟨by rfl, ?_⟩) (by assumption) ?_)
        rotate_left
        · (intro w hSw; (try dsimp only at hSw); go_simp; first | done | with_reducible rfl)
        (try simp only [Act.put, List.setIfInBounds_toArray, List.set_cons_zero, List.set_cons_succ])
        (refine takeL (i := 20) (v := ?_) rfl (by kernel_rfl) (by kernel_rfl) (by kernel_rfl) (fun _ _ _ h => h) (Or.inl ⟨by rfl, ?_⟩) (by assumption) ?_)
        rotate_left
        · (intro w hSw; (try dsimp only at hSw); go_simp; first | done | with_reducible rfl)
        (try simp only [Act.put, List.setIfInBounds_toArray, List.set_cons_zero, List.set_cons_succ])
        (refine takeL (i := 21) (v := ?_) rfl (by kernel_rfl) (by kernel_rfl) (by kernel_rfl) (fun _ _ _ h => h) (Or.inl ⟨by rfl, ?_⟩) (by assumption) ?_)
        rotate_left
        · (intro w hSw; (try dsimp only at hSw); go_simp; first | done | with_reducible rfl)
        (try simp only [Act.put, List.setIfInBounds_toArray, List.set_cons_zero, List.set_cons_succ])
        (refine takeL (i := 22) (v := ?_) rfl (by kernel_rfl) (by kernel_rfl) (by kernel_rfl) (fun _ _ _ h => h) (Or.inl ⟨by rfl, ?_⟩) (by assumption) ?_)
        rotate_left
        · (intro w hSw; (try dsimp only at hSw); go_simp; first | done | with_reducible rfl)
        (try simp only [Act.put, List.setIfInBounds_toArray, List.set_cons_zero, List.set_cons_succ])
        (refine takeL (i := 23) (v := ?_) rfl (by kernel_rfl) (by kernel_rfl) (by kernel_rfl) (fun _ _ _ h => h) (Or.inl ⟨by rfl, ?_⟩) (by assumption) ?_)
        rotate_left
        · (intro w hSw; (try dsimp only at hSw); go_simp; first | done | with_reducible rfl)
        (try simp only [Act.put, List.setIfInBounds_toArray, List.set_cons_zero, List.set_cons_succ])
        (refine wpAnyH_done (by kernel_rfl) ?_ _)
        have hV6 : Hid (VeLoop w x xs φ B5.sb r5 w6) := Lib.hid ⟨⟨U.post 0, so5, B5, rfl, hS5.out, hv5, by have := (L.moved_ok hS.out.chk hTT.out hM.out).2.2.1; omega⟩, hId.out.bel.trans (hb6.mono hId.out.bel.size), (hb6.block x (Array.getElem?_eq_some_iff.1 hId.out.box).1).trans hId.out.box⟩
        clear hHeld e1 e2 qm hb6 hcase hS hId hT' hP' hbd hcm hS5 hv5 hm5 hM hTT
        obtain ⟨tt, so6, B6, hsb6, hS6, hv6, h76⟩ := hV6.out.st
        obtain ⟨y0, y1⟩ := pbox_cells hV6.out.box
        have qe := eval_v hS6 hv6 xs
        rw [hpv.out] at qe
        rw [hsb6] at qe
        clear hS6 hv6 hsb6 h76
        go_wp2_with fail
        refine qe.mono ?_
        rintro e w7 ⟨rfl, hx7⟩
        have hV7 := Lib.hid (hV6.out.next hx7.below)
        clear qe hV6 y0 y1
        go_wp2_with fail
        go_roundw
        case rel => exact ⟨k + 1, B5.sb, r5, by omega, rfl, rfl, by go_num, hV7⟩
        case measure => simp [intOf]; omega
    · have dlt : decide ((k : Int) < (ps.length : Int)) = false := decide_eq_false (by omega)
      have hbe := hI.out.bel
      have cw := vworks_any wr (hT.same (hbe.block _ hT.lt')) (hP.same (hbe.block _ hP.lt))
      replace hbe := Lib.hid hbe
      clear hI
      go_wp2_with fail
      refine cw.mono ?_
      rintro e w9 ⟨rfl, hb9⟩
      go_wp2_with fail
      go_ret
      exact ⟨rfl, by have := hbe.out.trans (hb9.mono hbe.out.size); rwa [hx.out] at this⟩
theorem vevals_any {t : List VN} {ps : List (Nat × Nat)} {bits : Nat} {x0 x1 : Int} (w : World) (ba : Option Addr) (cap : Nat) (bo : Option Addr) (co : Nat) (hT : TzTab w) (hP : PowTab w) (h : t = [] ∨ ∃ b o, ba = some ⟨b, o, none⟩ ∧ TreeAt w b o t) (hbt : bits < 65536) (ho : U8In w bo ps) (hx : (0 ≤ x0 ∧ x0 ≤ 18446744073709551615) ∧ (0 ≤ x1 ∧ x1 ≤ 18446744073709551615)) :
    Calls Tryz.prog 12 #[.slice ba t.length cap, .int .u16 (bits : Nat), .slice bo ps.length co, .agg #[.int .u64 x0, .int .u64 x1]] w fun e w' => e = .returned (.bool true) ∧ Below w.heap.size w w' := by
  by_cases hn : few7 t = false ∨ 6 < ps.length
  · exact vevals_works w ba bo cap co hT hP h hn
  · obtain ⟨xs, rfl, rfl⟩ := vset_of hx.1 hx.2
    have hf : few7 t = true := by cases hf : few7 t <;> simp_all
    rcases h with rfl | ⟨b, o, rfl, ht⟩
    · cases hf
    · exact vevals_ok w b o cap bo co hT hP ht ho hf (by omega) hbt
end Go.Proofs.YteikmmfjhabijaaGreatDoor
