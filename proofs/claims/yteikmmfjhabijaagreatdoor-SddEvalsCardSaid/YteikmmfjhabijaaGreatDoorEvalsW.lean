import Derived.Test.YteikmmfjhabijaaGreatDoorRun
import Derived.Test.YteikmmfjhabijaaGreatDoorBegin
set_option linter.unusedSimpArgs false
set_option linter.unusedVariables false
namespace Go.Proofs.YteikmmfjhabijaaGreatDoor
open Go Go.RowKit Go.Shelf

/-! SddEvals. -/
theorem set_of {a b : Int} (ha : 0 ≤ a ∧ a ≤ 18446744073709551615) (hb : 0 ≤ b ∧ b ≤ 18446744073709551615) : ∃ x : VSet, lo x = a ∧ hi x = b := by
  refine ⟨BitVec.ofNat 128 (b.toNat * 18446744073709551616 + a.toNat), ?_, ?_⟩
  · simp only [lo, BitVec.toNat_setWidth, BitVec.toNat_ofNat]; omega
  · simp only [hi, BitVec.toNat_setWidth, BitVec.toNat_ofNat, BitVec.toNat_ushiftRight, Nat.shiftRight_eq_div_pow]; omega
theorem RunAt.below {wa w w' : World} {bx : List (Nat × Array Value)} {t : List VN} {l : List Int} {sb k : Nat} {s : St} {va vf : Value} {rs : List Res} (h : RunAt wa bx t l sb k s va vf rs w) (hb : Below w.heap.size w w') : RunAt wa bx t l sb k s va vf rs w' :=
  ⟨h.g.below hb, h.bel.trans (hb.mono h.g.sz), h.ok, h.two⟩
theorem RunAt.hold {wa w : World} {bx : List (Nat × Array Value)} {t : List VN} {l : List Int} {sb k y : Nat} {s : St} {va vf : Value} {rs : List Res} {c : Array Value} (h : RunAt wa bx t l sb k s va vf rs w) (hz : w.heap[y]? = some (.cells c 35 (0, 0))) : RunAt wa [(y, c)] t l sb k s va vf rs w :=
  ⟨h.g.setb (fun p hp => by obtain rfl := List.mem_singleton.1 hp; exact hz), h.bel, h.ok, h.two⟩
/-- the run stored anew into the law's variable -/
theorem RunAt.store {wa w : World} {bx : List (Nat × Array Value)} {t : List VN} {l : List Int} {sb k y : Nat} {s : St} {va vf : Value} {rs : List Res} {a0 a1 a2 a3 : Value} (h : RunAt wa bx t l sb k s va vf rs w)
    (hz : w.heap[y]? = some (.cells #[a0, a1, a2, a3] 35 (0, 0))) (hy : wa.heap.size ≤ y) {W : World}
    (hW : W = (((w.setCell ⟨y, 0, none⟩ (.pointer (some ⟨sb, 0, none⟩))).setCell ⟨y, 1, none⟩ va).setCell ⟨y, 2, none⟩ vf).setCell ⟨y, 3, none⟩ (.bool false)) :
    RunAt wa [(y, #[.pointer (some ⟨sb, 0, none⟩), va, vf, .bool false])] t l sb k s va vf rs W := by
  obtain ⟨g1, g2, g3⟩ := run_set4 (h.g.setb (bx' := []) (fun p hp => by cases hp)) hz hy (fun p hp => by cases hp) _ _ _ _ hW
  exact ⟨g1.setb (fun p hp => by obtain rfl := List.mem_singleton.1 hp; exact g3), g2 _ h.bel, h.ok, h.two⟩

set_option maxRecDepth 100000 in
set_option maxHeartbeats 2000000 in
theorem evals_works {t : List VN} {n : Nat} {x0 x1 : Int} (w : World) (ba bo : Option Addr) (cap co : Nat) (hT : TzTab w) (hP : PowTab w) (h : t = [] ∨ ∃ b o, ba = some ⟨b, o, none⟩ ∧ TreeAt w b o t) (hn : lightB t n = false) :
    Calls Tryz.prog 3 #[.agg #[.slice ba t.length cap, .slice bo n co], .agg #[.int .u64 x0, .int .u64 x1]] w fun e w' => e = .returned (.bool true) ∧ Below w.heap.size w w' := by
  have hxb := ((Ext.refl w).alloc (.cells #[.slice ba t.length cap, .slice bo n co] 26)).alloc (.cells #[.int .u64 x0, .int .u64 x1] 29)
  have hw : ∀ w', Ext w w' → Calls Tryz.prog 16 #[] w' fun e w'' => e = .returned (.bool true) ∧ Below w'.heap.size w' w'' := fun w' hx => works_any w' (hT.same (hx.below.block _ hT.lt')) (hP.same (hx.below.block _ hP.lt))
  have hq := light_any (n := n) ((w.alloc (.cells #[.slice ba t.length cap, .slice bo n co] 26)).alloc (.cells #[.int .u64 x0, .int .u64 x1] 29)) ba bo cap co (h.imp id (fun ⟨b, o, e, ht⟩ => ⟨b, o, e, ht.ext hxb⟩))
  rw [hn] at hq
  go_enter Tryz.func3, Tryz.ntmps3
  go_wp2_with fail
  refine hq.mono ?_
  rintro e w1 ⟨rfl, hx1⟩
  go_wp2_with fail
  refine (hw w1 (hxb.trans hx1)).mono ?_
  rintro e w2 ⟨rfl, hb2⟩
  go_wp2_with fail
  go_ret
  exact ⟨rfl, (hxb.trans hx1).below.trans (hb2.mono (hxb.trans hx1).size)⟩

set_option maxRecDepth 100000 in
set_option maxHeartbeats 8000000 in
theorem evals_ok {t : List VN} {os : List OpD} {xs : VSet} (w : World) (b o cap : Nat) (bo : Option Addr) (co : Nat) (hT : TzTab w) (hP : PowTab w) (h : TreeAt w b o t) (ho : OpsIn w bo os) (hn : lightB t os.length = true) :
    Calls Tryz.prog 3 #[.agg #[.slice (some ⟨b, o, none⟩) t.length cap, .slice bo os.length co], .agg #[.int .u64 (lo xs), .int .u64 (hi xs)]] w fun e w' => e = .returned (.bool true) ∧ Below w.heap.size w w' := by
  have hn' := hn
  unfold lightB at hn'
  simp only [Bool.and_eq_true, decide_eq_true_eq] at hn'
  obtain ⟨t0, t9, hn25, hc⟩ := hn'
  obtain ⟨l, hl, hl6, hsb, hvo⟩ := vars_few hc (by omega)
  have hl0 : 0 < l.length := by rw [hsb.len hc (by omega)]; exact L.nv_pos hc _ (by omega)
  generalize hx : w.heap.size = x at *
  have hgP := hP.lt
  have hgT := hT.lt'
  obtain ⟨w1, hw1⟩ : ∃ w1, w1 = (w.alloc (.cells #[.slice (some ⟨b, o, none⟩) t.length cap, .slice bo os.length co] 26)).alloc (.cells #[.int .u64 (lo xs), .int .u64 (hi xs)] 29) := ⟨_, rfl⟩
  obtain ⟨hb1, hbx, hby, hx1⟩ := two_allocs w _ _ _ _ hx hw1
  have hlight := light_any (n := os.length) w1 (some ⟨b, o, none⟩) bo cap co (.inr ⟨b, o, rfl, h.below hb1⟩)
  rw [hn] at hlight
  have hT1 := hT.same (hb1.block _ hT.lt')
  have hP1 := hP.same (hb1.block _ hP.lt)
  have ht1 := h.below hb1
  have hop1 : os = [] ∨ ∃ b o, bo = some ⟨b, o, none⟩ ∧ ∀ j (hj : j < os.length), OpAt w1 b (o + j * 3) os[j] := ho.2.imp id (fun ⟨b, o, e, hh⟩ => ⟨b, o, e, fun j hj => by
    obtain ⟨z0, z1, z2⟩ := hh j hj
    exact ⟨(hb1.cell (World.block_lt_of_cell? w _ z0)).trans z0, (hb1.cell (World.block_lt_of_cell? w _ z1)).trans z1, (hb1.cell (World.block_lt_of_cell? w _ z2)).trans z2⟩⟩)
  have hopk := ho.1
  obtain ⟨k0, k1⟩ := pbox_cells hbx
  obtain ⟨s0, s1⟩ := pbox_cells hby
  clear h ho hT hP
  replace hl := Lib.hid hl
  replace hc := Lib.hid hc
  replace hsb := Lib.hid hsb
  replace hvo := Lib.hid hvo
  replace hx := Lib.hid hx
  replace hbx := Lib.hid hbx
  replace hby := Lib.hid hby
  replace hw1 := Lib.hid hw1
  replace hopk := Lib.hid hopk
  replace hop1 := Lib.hid hop1
  replace ht1 := Lib.hid ht1
  go_enter Tryz.func3, Tryz.ntmps3
  go_wp2_with fail
  rw [← hw1.out]
  simp only [hx.out]
  clear hw1
  refine hlight.mono ?_
  rintro e w2 ⟨rfl, hx2⟩
  have hxb2 := hx2.below
  have hs2 := hx2.size
  have q1 := begin_any (wa := w1) (w := w2) b o cap hxb2 ⟨by have := hx.out; omega, by have := hx.out; omega⟩ (hT1.same (hxb2.block _ hT1.lt')) (hP1.same (hxb2.block _ hP1.lt)) (ht1.out.ext hx2) hc.out t9 hl.out hl6 hl0
  have j0 := hx2.cell k0
  have j1 := hx2.cell k1
  clear hlight
  go_wp2_with fail
  refine q1.mono ?_
  rintro e w3 ⟨sb, va, vf, rs, rfl, hRun, hrl⟩
  clear q1 j0 j1
  obtain ⟨gA, nA, cA, gF, nF, cF, rfl, rfl⟩ := hRun.shape
  unfold runV
  generalize hy : w3.heap.size = y at *
  have hNy : w1.heap.size ≤ y := by rw [← hy]; exact hRun.g.sz
  have hz3 := heap_alloc_new w3 (.cells #[.pointer (some ⟨sb, 0, none⟩), .slice (some ⟨gA, 0, none⟩) nA cA, .slice (some ⟨gF, 0, none⟩) nF cF, .bool false] 35)
  rw [hy] at hz3
  have hRun4 := Lib.hid ((hRun.below ((Below.refl _ _).alloc (Nat.le_refl _) (.cells #[.pointer (some ⟨sb, 0, none⟩), .slice (some ⟨gA, 0, none⟩) nA cA, .slice (some ⟨gF, 0, none⟩) nF cF, .bool false] 35))).hold hz3)
  clear hz3
  replace hRun := Lib.hid hRun
  replace hy := Lib.hid hy
  go_wp2_with fail
  simp only [hy.out]
  generalize hw4 : w3.alloc (.cells #[.pointer (some ⟨sb, 0, none⟩), .slice (some ⟨gA, 0, none⟩) nA cA, .slice (some ⟨gF, 0, none⟩) nF cF, .bool false] 35) = w4 at *
  clear hRun hw4 hy
  go_loopw [6] (fun i wr => ∃ (k : Nat) (s : St) (va vf : Value) (rs : List Res), k ≤ os.length ∧ i = .int .i64 (k : Int) ∧ Hid (RunAt w1 [(y, #[.pointer (some ⟨sb, 0, none⟩), va, vf, .bool false])] t l sb (300000 - 127 * k) s va vf rs wr) ∧ rs.length ≤ 2 + 2 * k) (fun i _ => os.length - (intOf i).toNat)
  case atStart => exact ⟨0, newSt t, .slice (some ⟨gA, 0, none⟩) nA cA, .slice (some ⟨gF, 0, none⟩) nF cF, rs, by omega, rfl, hRun4, by omega⟩
  case round =>
    clear hRun4 hrl
    obtain ⟨k, s, va, vf, rs, hk, rfl, hI, hrl⟩ := hrel
    have hbel := hI.out.bel
    have hby' : wr.heap[y]? = some (.cells #[.pointer (some ⟨sb, 0, none⟩), va, vf, .bool false] 35 (0, 0)) := hI.out.g.hb (y, #[.pointer (some ⟨sb, 0, none⟩), va, vf, .bool false]) (List.mem_cons_self ..)
    have c0 := (hbel.cell (show (⟨x, 0, none⟩ : Addr).block < w1.heap.size by show x < _; omega)).trans k0
    have c1 := (hbel.cell (show (⟨x, 1, none⟩ : Addr).block < w1.heap.size by show x < _; omega)).trans k1
    have c2 := (hbel.cell (show (⟨x + 1, 0, none⟩ : Addr).block < w1.heap.size by show x + 1 < _; omega)).trans s0
    have c3 := (hbel.cell (show (⟨x + 1, 1, none⟩ : Addr).block < w1.heap.size by show x + 1 < _; omega)).trans s1
    obtain ⟨y0, y1, y2, y3⟩ := box4 hby'
    replace hby' := Lib.hid hby'
    replace hbel := Lib.hid hbel
    by_cases hlt : k < os.length
    · have dlt : decide ((k : Int) < (os.length : Int)) = true := decide_eq_true (by omega)
      obtain ⟨bo', oo, rfl, hop⟩ := hop1.out.resolve_left (by intro e; rw [e] at hlt; simp at hlt)
      obtain ⟨z0, z1, z2⟩ := hop k hlt
      obtain ⟨pk1, pk2, pk3⟩ := hopk.out os[k] (List.getElem_mem hlt)
      generalize os[k] = p at *
      have o0 := (hbel.out.cell (World.block_lt_of_cell? w1 _ z0)).trans z0
      have o1 := (hbel.out.cell (World.block_lt_of_cell? w1 _ z1)).trans z1
      have o2 := (hbel.out.cell (World.block_lt_of_cell? w1 _ z2)).trans z2
      have qd := do_any (k' := 300000 - 127 * (k + 1)) (kd := p.kd) (A := p.a) (Bz := p.b) (cap := cap) (hI.out.below (Below.refl wr.heap.size wr).drew) ht1.out (by omega) hl.out hl6 hsb.out hvo.out (by omega) (by omega) pk1 pk2 pk3
      unfold runV at qd
      clear z0 z1 z2 hop
      go_wp2_with fail
      (refine wp_region_held_drew (S := (fun _ => True)) (by kernel_rfl) ?_ (fun hHeld => ?_))
      · trivial
      (refine takeL (i := 1) (v := ?_) rfl (by kernel_rfl) (by kernel_rfl) (by kernel_rfl) (fun _ _ _ h => h) (Or.inl ⟨by rfl, ?_⟩) (by assumption) ?_)
      rotate_left
      · (intro w hSw; (try dsimp only at hSw); go_simp; first | done | with_reducible rfl)
      (try simp only [Act.put, List.setIfInBounds_toArray, List.set_cons_zero, List.set_cons_succ])
      (refine takeL (i := 3) (v := ?_) rfl (by kernel_rfl) (by kernel_rfl) (by kernel_rfl) (fun _ _ _ h => h) (Or.inl ⟨by rfl, ?_⟩) (by assumption) ?_)
      rotate_left
      · (intro w hSw; (try dsimp only at hSw); go_simp; first | done | with_reducible rfl)
      (try simp only [Act.put, List.setIfInBounds_toArray, List.set_cons_zero, List.set_cons_succ])
      (refine takeL (i := 5) (v := ?_) rfl (by kernel_rfl) (by kernel_rfl) (by kernel_rfl) (fun _ _ _ h => h) (Or.inl ⟨by rfl, ?_⟩) (by assumption) ?_)
      rotate_left
      · (intro w hSw; (try dsimp only at hSw); go_simp; first | done | with_reducible rfl)
      (try simp only [Act.put, List.setIfInBounds_toArray, List.set_cons_zero, List.set_cons_succ])
      (refine wpAnyH_ready (rs := [0, 2, 4]) (by kernel_rfl) (by simp) ?_)
      (refine consL3 rfl rfl rfl (fun K hK => ?_) (fun K hK => ?_) (fun K hK => ?_))
      (rw [if_pos (by rfl)])
      go_simp
      (refine hK.out _ _ trivial (fun hT => ?_))
      (clear hT hK K)
      (try simp only [Act.put, List.setIfInBounds_toArray, List.set_cons_zero, List.set_cons_succ])
      (refine wpAnyH_ready (rs := [2, 4]) (by kernel_rfl) (by simp) ?_)
      (refine consL2 rfl rfl (fun K hK => ?_) (fun K hK => ?_))
      (rw [if_pos (by rfl)])
      go_simp
      (refine hK.out _ _ trivial (fun hT => ?_))
      (clear hT hK K)
      (try simp only [Act.put, List.setIfInBounds_toArray, List.set_cons_zero, List.set_cons_succ])
      (refine wpAnyH_ready (rs := [4]) (by kernel_rfl) (by simp) ?_)
      (refine consL rfl (fun K hK => ?_))
      (rw [if_pos (by rfl)])
      go_simp
      (refine hK.out _ _ trivial (fun hT => ?_))
      (clear hT hK K)
      (try simp only [Act.put, List.setIfInBounds_toArray, List.set_cons_zero, List.set_cons_succ])
      (refine takeL (i := 6) (v := ?_) rfl (by kernel_rfl) (by kernel_rfl) (by kernel_rfl) (fun _ _ _ h => h) (Or.inl ⟨by rfl, ?_⟩) (by assumption) ?_)
      rotate_left
      · (intro w hSw; (try dsimp only at hSw); go_simp; first | done | with_reducible rfl)
      (try simp only [Act.put, List.setIfInBounds_toArray, List.set_cons_zero, List.set_cons_succ])
      (refine wpAnyH_ready (rs := [7]) (by kernel_rfl) (by simp) ?_)
      (refine consL rfl (fun K hK => ?_))
      (rw [if_pos (by rfl)])
      go_simp
      (refine hK.out _ _ trivial (fun hT => ?_))
      (clear hT hK K)
      (try simp only [Act.put, List.setIfInBounds_toArray, List.set_cons_zero, List.set_cons_succ])
      refine ?hRest5
      rotate_left
      (rw [if_pos (by rfl)])
      go_simp
      (refine hK.out _ _ trivial (fun hT => ?_))
      (clear hT hK K)
      (try simp only [Act.put, List.setIfInBounds_toArray, List.set_cons_zero, List.set_cons_succ])
      (refine takeL (i := 6) (v := ?_) rfl (by kernel_rfl) (by kernel_rfl) (by kernel_rfl) (fun _ _ _ h => h) (Or.inl ⟨by rfl, ?_⟩) (by assumption) ?_)
      rotate_left
      · (intro w hSw; (try dsimp only at hSw); go_simp; first | done | with_reducible rfl)
      (try simp only [Act.put, List.setIfInBounds_toArray, List.set_cons_zero, List.set_cons_succ])
      (refine wpAnyH_ready (rs := [2, 7]) (by kernel_rfl) (by simp) ?_)
      (refine consL2 rfl rfl (fun K hK => ?_) (fun K hK => ?_))
      (rw [if_pos (by rfl)])
      go_simp
      (refine hK.out _ _ trivial (fun hT => ?_))
      (clear hT hK K)
      (try simp only [Act.put, List.setIfInBounds_toArray, List.set_cons_zero, List.set_cons_succ])
      (refine wpAnyH_ready (rs := [7]) (by kernel_rfl) (by simp) ?_)
      (refine consL rfl (fun K hK => ?_))
      (rw [if_pos (by rfl)])
      go_simp
      (refine hK.out _ _ trivial (fun hT => ?_))
      (clear hT hK K)
      (try simp only [Act.put, List.setIfInBounds_toArray, List.set_cons_zero, List.set_cons_succ])
      exact ?hRest5
      (rw [if_pos (by rfl)])
      go_simp
      (refine hK.out _ _ trivial (fun hT => ?_))
      (clear hT hK K)
      (try simp only [Act.put, List.setIfInBounds_toArray, List.set_cons_zero, List.set_cons_succ])
      (refine wpAnyH_ready (rs := [2]) (by kernel_rfl) (by simp) ?_)
      (refine consL rfl (fun K hK => ?_))
      (rw [if_pos (by rfl)])
      go_simp
      (refine hK.out _ _ trivial (fun hT => ?_))
      (clear hT hK K)
      (try simp only [Act.put, List.setIfInBounds_toArray, List.set_cons_zero, List.set_cons_succ])
      exact ?hRest5
      (rw [if_pos (by rfl)])
      go_simp
      (refine hK.out _ _ trivial (fun hT => ?_))
      (clear hT hK K)
      (try simp only [Act.put, List.setIfInBounds_toArray, List.set_cons_zero, List.set_cons_succ])
      (refine wpAnyH_ready (rs := [0, 4]) (by kernel_rfl) (by simp) ?_)
      (refine consL2 rfl rfl (fun K hK => ?_) (fun K hK => ?_))
      (rw [if_pos (by rfl)])
      go_simp
      (refine hK.out _ _ trivial (fun hT => ?_))
      (clear hT hK K)
      (try simp only [Act.put, List.setIfInBounds_toArray, List.set_cons_zero, List.set_cons_succ])
      (refine wpAnyH_ready (rs := [4]) (by kernel_rfl) (by simp) ?_)
      (refine consL rfl (fun K hK => ?_))
      (rw [if_pos (by rfl)])
      go_simp
      (refine hK.out _ _ trivial (fun hT => ?_))
      (clear hT hK K)
      (try simp only [Act.put, List.setIfInBounds_toArray, List.set_cons_zero, List.set_cons_succ])
      (refine takeL (i := 6) (v := ?_) rfl (by kernel_rfl) (by kernel_rfl) (by kernel_rfl) (fun _ _ _ h => h) (Or.inl ⟨by rfl, ?_⟩) (by assumption) ?_)
      rotate_left
      · (intro w hSw; (try dsimp only at hSw); go_simp; first | done | with_reducible rfl)
      (try simp only [Act.put, List.setIfInBounds_toArray, List.set_cons_zero, List.set_cons_succ])
      (refine wpAnyH_ready (rs := [7]) (by kernel_rfl) (by simp) ?_)
      (refine consL rfl (fun K hK => ?_))
      (rw [if_pos (by rfl)])
      go_simp
      (refine hK.out _ _ trivial (fun hT => ?_))
      (clear hT hK K)
      (try simp only [Act.put, List.setIfInBounds_toArray, List.set_cons_zero, List.set_cons_succ])
      exact ?hRest5
      (rw [if_pos (by rfl)])
      go_simp
      (refine hK.out _ _ trivial (fun hT => ?_))
      (clear hT hK K)
      (try simp only [Act.put, List.setIfInBounds_toArray, List.set_cons_zero, List.set_cons_succ])
      (refine takeL (i := 6) (v := ?_) rfl (by kernel_rfl) (by kernel_rfl) (by kernel_rfl) (fun _ _ _ h => h) (Or.inl ⟨by rfl, ?_⟩) (by assumption) ?_)
      rotate_left
      · (intro w hSw; (try dsimp only at hSw); go_simp; first | done | with_reducible rfl)
      (try simp only [Act.put, List.setIfInBounds_toArray, List.set_cons_zero, List.set_cons_succ])
      (refine wpAnyH_ready (rs := [0, 7]) (by kernel_rfl) (by simp) ?_)
      (refine consL2 rfl rfl (fun K hK => ?_) (fun K hK => ?_))
      (rw [if_pos (by rfl)])
      go_simp
      (refine hK.out _ _ trivial (fun hT => ?_))
      (clear hT hK K)
      (try simp only [Act.put, List.setIfInBounds_toArray, List.set_cons_zero, List.set_cons_succ])
      (refine wpAnyH_ready (rs := [7]) (by kernel_rfl) (by simp) ?_)
      (refine consL rfl (fun K hK => ?_))
      (rw [if_pos (by rfl)])
      go_simp
      (refine hK.out _ _ trivial (fun hT => ?_))
      (clear hT hK K)
      (try simp only [Act.put, List.setIfInBounds_toArray, List.set_cons_zero, List.set_cons_succ])
      exact ?hRest5
      (rw [if_pos (by rfl)])
      go_simp
      (refine hK.out _ _ trivial (fun hT => ?_))
      (clear hT hK K)
      (try simp only [Act.put, List.setIfInBounds_toArray, List.set_cons_zero, List.set_cons_succ])
      (refine wpAnyH_ready (rs := [0]) (by kernel_rfl) (by simp) ?_)
      (refine consL rfl (fun K hK => ?_))
      (rw [if_pos (by rfl)])
      go_simp
      (refine hK.out _ _ trivial (fun hT => ?_))
      (clear hT hK K)
      (try simp only [Act.put, List.setIfInBounds_toArray, List.set_cons_zero, List.set_cons_succ])
      exact ?hRest5
      (rw [if_pos (by rfl)])
      go_simp
      (refine hK.out _ _ trivial (fun hT => ?_))
      (clear hT hK K)
      (try simp only [Act.put, List.setIfInBounds_toArray, List.set_cons_zero, List.set_cons_succ])
      (refine takeL (i := 6) (v := ?_) rfl (by kernel_rfl) (by kernel_rfl) (by kernel_rfl) (fun _ _ _ h => h) (Or.inl ⟨by rfl, ?_⟩) (by assumption) ?_)
      rotate_left
      · (intro w hSw; (try dsimp only at hSw); go_simp; first | done | with_reducible rfl)
      (try simp only [Act.put, List.setIfInBounds_toArray, List.set_cons_zero, List.set_cons_succ])
      (refine wpAnyH_ready (rs := [0, 2, 7]) (by kernel_rfl) (by simp) ?_)
      (refine consL3 rfl rfl rfl (fun K hK => ?_) (fun K hK => ?_) (fun K hK => ?_))
      (rw [if_pos (by rfl)])
      go_simp
      (refine hK.out _ _ trivial (fun hT => ?_))
      (clear hT hK K)
      (try simp only [Act.put, List.setIfInBounds_toArray, List.set_cons_zero, List.set_cons_succ])
      (refine wpAnyH_ready (rs := [2, 7]) (by kernel_rfl) (by simp) ?_)
      (refine consL2 rfl rfl (fun K hK => ?_) (fun K hK => ?_))
      (rw [if_pos (by rfl)])
      go_simp
      (refine hK.out _ _ trivial (fun hT => ?_))
      (clear hT hK K)
      (try simp only [Act.put, List.setIfInBounds_toArray, List.set_cons_zero, List.set_cons_succ])
      (refine wpAnyH_ready (rs := [7]) (by kernel_rfl) (by simp) ?_)
      (refine consL rfl (fun K hK => ?_))
      (rw [if_pos (by rfl)])
      go_simp
      (refine hK.out _ _ trivial (fun hT => ?_))
      (clear hT hK K)
      (try simp only [Act.put, List.setIfInBounds_toArray, List.set_cons_zero, List.set_cons_succ])
      exact ?hRest5
      (rw [if_pos (by rfl)])
      go_simp
      (refine hK.out _ _ trivial (fun hT => ?_))
      (clear hT hK K)
      (try simp only [Act.put, List.setIfInBounds_toArray, List.set_cons_zero, List.set_cons_succ])
      (refine wpAnyH_ready (rs := [2]) (by kernel_rfl) (by simp) ?_)
      (refine consL rfl (fun K hK => ?_))
      (rw [if_pos (by rfl)])
      go_simp
      (refine hK.out _ _ trivial (fun hT => ?_))
      (clear hT hK K)
      (try simp only [Act.put, List.setIfInBounds_toArray, List.set_cons_zero, List.set_cons_succ])
      exact ?hRest5
      (rw [if_pos (by rfl)])
      go_simp
      (refine hK.out _ _ trivial (fun hT => ?_))
      (clear hT hK K)
      (try simp only [Act.put, List.setIfInBounds_toArray, List.set_cons_zero, List.set_cons_succ])
      (refine wpAnyH_ready (rs := [0, 7]) (by kernel_rfl) (by simp) ?_)
      (refine consL2 rfl rfl (fun K hK => ?_) (fun K hK => ?_))
      (rw [if_pos (by rfl)])
      go_simp
      (refine hK.out _ _ trivial (fun hT => ?_))
      (clear hT hK K)
      (try simp only [Act.put, List.setIfInBounds_toArray, List.set_cons_zero, List.set_cons_succ])
      (refine wpAnyH_ready (rs := [7]) (by kernel_rfl) (by simp) ?_)
      (refine consL rfl (fun K hK => ?_))
      (rw [if_pos (by rfl)])
      go_simp
      (refine hK.out _ _ trivial (fun hT => ?_))
      (clear hT hK K)
      (try simp only [Act.put, List.setIfInBounds_toArray, List.set_cons_zero, List.set_cons_succ])
      exact ?hRest5
      (rw [if_pos (by rfl)])
      go_simp
      (refine hK.out _ _ trivial (fun hT => ?_))
      (clear hT hK K)
      (try simp only [Act.put, List.setIfInBounds_toArray, List.set_cons_zero, List.set_cons_succ])
      (refine wpAnyH_ready (rs := [0]) (by kernel_rfl) (by simp) ?_)
      (refine consL rfl (fun K hK => ?_))
      (rw [if_pos (by rfl)])
      go_simp
      (refine hK.out _ _ trivial (fun hT => ?_))
      (clear hT hK K)
      (try simp only [Act.put, List.setIfInBounds_toArray, List.set_cons_zero, List.set_cons_succ])
      exact ?hRest5
      (rw [if_pos (by rfl)])
      go_simp
      (refine hK.out _ _ trivial (fun hT => ?_))
      (clear hT hK K)
      (try simp only [Act.put, List.setIfInBounds_toArray, List.set_cons_zero, List.set_cons_succ])
      (refine wpAnyH_ready (rs := [0, 2]) (by kernel_rfl) (by simp) ?_)
      (refine consL2 rfl rfl (fun K hK => ?_) (fun K hK => ?_))
      (rw [if_pos (by rfl)])
      go_simp
      (refine hK.out _ _ trivial (fun hT => ?_))
      (clear hT hK K)
      (try simp only [Act.put, List.setIfInBounds_toArray, List.set_cons_zero, List.set_cons_succ])
      (refine wpAnyH_ready (rs := [2]) (by kernel_rfl) (by simp) ?_)
      (refine consL rfl (fun K hK => ?_))
      (rw [if_pos (by rfl)])
      go_simp
      (refine hK.out _ _ trivial (fun hT => ?_))
      (clear hT hK K)
      (try simp only [Act.put, List.setIfInBounds_toArray, List.set_cons_zero, List.set_cons_succ])
      exact ?hRest5
      (rw [if_pos (by rfl)])
      go_simp
      (refine hK.out _ _ trivial (fun hT => ?_))
      (clear hT hK K)
      (try simp only [Act.put, List.setIfInBounds_toArray, List.set_cons_zero, List.set_cons_succ])
      (refine wpAnyH_ready (rs := [0]) (by kernel_rfl) (by simp) ?_)
      (refine consL rfl (fun K hK => ?_))
      (rw [if_pos (by rfl)])
      go_simp
      (refine hK.out _ _ trivial (fun hT => ?_))
      (clear hT hK K)
      (try simp only [Act.put, List.setIfInBounds_toArray, List.set_cons_zero, List.set_cons_succ])
      exact ?hRest5
      (refine wpAnyH_ready (rs := [8]) (by kernel_rfl) (by simp) ?_)
      (refine consL rfl (fun K hK => ?_))
      ((rw [if_pos (by rfl)]); go_simp; (go_at_call 18); refine qd.mono ?_; rintro e w6 ⟨va', vf', s', rs', rfl, hR6, hl6'⟩; obtain ⟨gA', nA', cA', gF', nF', cF', rfl, rfl⟩ := hR6.shape; (refine hK.out _ _ trivial (fun hT => ?_)); clear hT)
      (clear hK K)
      (try simp only [Act.put, List.setIfInBounds_toArray, List.set_cons_zero, List.set_cons_succ])
      have hb6 : w6.heap[y]? = some (.cells #[.pointer (some ⟨sb, 0, none⟩), va, vf, .bool false] 35 (0, 0)) := hR6.g.hb (y, #[.pointer (some ⟨sb, 0, none⟩), va, vf, .bool false]) (List.mem_cons_self ..)
      obtain ⟨u0, u1, u2, u3⟩ := box4 hb6
      have f0 : w6.frozen? ⟨y, 0, none⟩ = false := by simp [World.frozen?, hb6]
      have f1 : w6.frozen? ⟨y, 1, none⟩ = false := by simp [World.frozen?, hb6]
      have f2 : w6.frozen? ⟨y, 2, none⟩ = false := by simp [World.frozen?, hb6]
      have f3 : w6.frozen? ⟨y, 3, none⟩ = false := by simp [World.frozen?, hb6]
      replace hb6 := Lib.hid hb6
      replace hR6 := Lib.hid hR6
      clear qd c0 c1 c2 c3 y0 y1 y2 y3 o0 o1 o2 hby' hbel hI
      (refine wpAnyH_ready (rs := [9]) (by kernel_rfl) (by simp) ?_)
      (refine consL rfl (fun K hK => ?_))
      ((rw [if_pos (by rfl)]); go_simp; (refine hK.out _ _ trivial (fun hT => ?_)); clear hT)
      (clear hK K)
      (try simp only [Act.put, List.setIfInBounds_toArray, List.set_cons_zero, List.set_cons_succ])
      (refine wpAnyH_done (by kernel_rfl) ?_ _)
      clear u0 u1 u2 u3 f0 f1 f2 f3
      go_wp2_with fail
      go_roundw
      case rel => exact ⟨k + 1, s', _, _, rs', by omega, by go_num, Lib.hid (hR6.out.store hb6.out hNy rfl), by omega⟩
      case measure => simp [intOf]; omega
    · obtain rfl : k = os.length := by omega
      have dlt : decide ((os.length : Int) < (os.length : Int)) = false := decide_eq_false (by omega)
      clear hlt hk
      obtain ⟨m, hm⟩ : ∃ m, m = rs.length := ⟨_, rfl⟩
      have hm2 : 2 ≤ m := by
        obtain ⟨_, _, _, e, _⟩ := hI.out.two
        rw [hm, e]; simp
      have hm52 : m ≤ 1000 := by omega
      have oa := hI.out.g.oa
      have of := hI.out.g.of
      rw [List.length_map, ← hm] at oa of
      obtain ⟨ga, ca, rfl, hga⟩ := own_at oa (by omega)
      obtain ⟨gf, cf, rfl, hgf⟩ := own_at of (by omega)
      clear oa of
      replace hm := Lib.hid hm
      have hId := Lib.hid (hI.out.below (Below.refl wr.heap.size wr).drew)
      have hbd : Hid (Below w1.heap.size w1 wr.drew) := Lib.hid hId.out.bel
      have qv := refVars_any wr.drew b o cap l (ht1.out.below hbd.out) t0 (by omega) hl.out
      clear hI
      go_wp2_with fail
      (refine wp_region_held_drew (S := (fun W => W.cell? ⟨x, 0, none⟩ = some (.slice (some ⟨b, o, none⟩) t.length cap) ∧ W.cell? ⟨x + 1, 0, none⟩ = some (.int .u64 (lo xs)) ∧ W.cell? ⟨x + 1, 1, none⟩ = some (.int .u64 (hi xs)))) (by kernel_rfl) ?_ (fun hHeld => ?_))
      · exact ⟨c0, c2, c3⟩
      (refine takeL (i := 0) (v := ?_) rfl (by kernel_rfl) (by kernel_rfl) (by kernel_rfl) (fun _ _ _ h => h) (Or.inl ⟨by rfl, ?_⟩) (by assumption) ?_)
      rotate_left
      · (intro w hSw; (try dsimp only at hSw); go_simp; first | done | with_reducible rfl)
      (try simp only [Act.put, List.setIfInBounds_toArray, List.set_cons_zero, List.set_cons_succ])
      (refine takeL (i := 1) (v := ?_) rfl (by kernel_rfl) (by kernel_rfl) (by kernel_rfl) (fun _ _ _ h => h) (Or.inl ⟨by rfl, ?_⟩) (by assumption) ?_)
      rotate_left
      · (intro w hSw; (try dsimp only at hSw); go_simp; first | done | with_reducible rfl)
      (try simp only [Act.put, List.setIfInBounds_toArray, List.set_cons_zero, List.set_cons_succ])
      (refine takeL (i := 3) (v := ?_) rfl (by kernel_rfl) (by kernel_rfl) (by kernel_rfl) (fun _ _ _ h => h) (Or.inl ⟨by rfl, ?_⟩) (by assumption) ?_)
      rotate_left
      · (intro w hSw; (try dsimp only at hSw); go_simp; first | done | with_reducible rfl)
      (try simp only [Act.put, List.setIfInBounds_toArray, List.set_cons_zero, List.set_cons_succ])
      (refine wpAnyH_ready (rs := [2]) (by kernel_rfl) (by simp) ?_)
      (refine consL rfl (fun K hK => ?_))
      ((rw [if_pos (by rfl)]); go_simp; (go_at_call 20); refine qv.mono ?_; rintro e w6 ⟨vl, rfl, ho6, hb6⟩; have hx6 := hId.out.g.sz; have d0 := (hb6.cell (show (⟨x, 0, none⟩ : Addr).block < wr.drew.heap.size by show x < _; omega)).trans (show wr.drew.cell? _ = _ from c0); have d2 := (hb6.cell (show (⟨x + 1, 0, none⟩ : Addr).block < wr.drew.heap.size by show x + 1 < _; omega)).trans (show wr.drew.cell? _ = _ from c2); have d3 := (hb6.cell (show (⟨x + 1, 1, none⟩ : Addr).block < wr.drew.heap.size by show x + 1 < _; omega)).trans (show wr.drew.cell? _ = _ from c3); refine hK.out _ _ ⟨d0, d2, d3⟩ (fun hHeld => ?_))
      (clear hK K)
      (try simp only [Act.put, List.setIfInBounds_toArray, List.set_cons_zero, List.set_cons_succ])
      have qi := index_any (owns_slI ho6) ⟨l.length, rfl, hl6⟩ xs
      unfold encS at qi
      have hs6 := hb6.size
      clear qv ho6
      (refine wpAnyH_ready (rs := [4]) (by kernel_rfl) (by simp) ?_)
      (refine consL rfl (fun K hK => ?_))
      ((rw [if_pos (by rfl)]); go_simp; (go_at_call 19); refine qi.mono ?_; rintro e w7 ⟨rfl, hb7⟩; refine hK.out _ _ ⟨(hb7.cell (show (⟨x, 0, none⟩ : Addr).block < w6.heap.size by show x < _; omega)).trans d0, (hb7.cell (show (⟨x + 1, 0, none⟩ : Addr).block < w6.heap.size by show x + 1 < _; omega)).trans d2, (hb7.cell (show (⟨x + 1, 1, none⟩ : Addr).block < w6.heap.size by show x + 1 < _; omega)).trans d3⟩ (fun hHeld => ?_))
      (clear hK K)
      (try simp only [Act.put, List.setIfInBounds_toArray, List.set_cons_zero, List.set_cons_succ])
      (refine takeL (i := 5) (v := ?_) rfl (by kernel_rfl) (by kernel_rfl) (by kernel_rfl) (fun _ _ _ h => h) (Or.inl ⟨by rfl, ?_⟩) (by assumption) ?_)
      rotate_left
      · (intro w hSw; (try dsimp only at hSw); go_simp; first | done | with_reducible rfl)
      (try simp only [Act.put, List.setIfInBounds_toArray, List.set_cons_zero, List.set_cons_succ])
      (refine wpAnyH_done (by kernel_rfl) ?_ _)
      have hixl := idxF_lt l (L.asg xs)
      generalize hix : idxF l (L.asg xs) = ix at *
      replace hix := Lib.hid hix
      have h7 := Lib.hid (hId.out.below (hb6.trans (hb7.mono hb6.size)))
      clear hb6 hb7 d0 d2 d3 hs6 hx6 qi hId hbd hbel c0 c1 c2 c3 y0 y1 y2 y3 hby' hHeld
      go_wp2_with fail
      go_loopw [8] (fun i wq => ∃ k2 : Nat, k2 ≤ m ∧ i = .int .i64 (k2 : Int) ∧ Hid (RunAt w1 [(y, #[.pointer (some ⟨sb, 0, none⟩), .slice (some ⟨ga, 0, none⟩) m ca, .slice (some ⟨gf, 0, none⟩) m cf, .bool false])] t l sb (300000 - 127 * os.length) s (.slice (some ⟨ga, 0, none⟩) m ca) (.slice (some ⟨gf, 0, none⟩) m cf) rs wq)) (fun i _ => m - (intOf i).toNat)
      case atStart => exact ⟨0, by omega, rfl, h7⟩
      case round =>
        clear h7
        obtain ⟨k2, hk2, rfl, hJ⟩ := hrel
        have hbel := hJ.out.bel
        have hby' : wr.heap[y]? = some (.cells #[.pointer (some ⟨sb, 0, none⟩), .slice (some ⟨ga, 0, none⟩) m ca, .slice (some ⟨gf, 0, none⟩) m cf, .bool false] 35 (0, 0)) := hJ.out.g.hb (y, #[.pointer (some ⟨sb, 0, none⟩), .slice (some ⟨ga, 0, none⟩) m ca, .slice (some ⟨gf, 0, none⟩) m cf, .bool false]) (List.mem_cons_self ..)
        obtain ⟨y0, y1, y2, y3⟩ := box4 hby'
        by_cases hlt : k2 < m
        · have dlt2 : decide ((k2 : Int) < (m : Int)) = true := decide_eq_true (by omega)
          have c2 := (hbel.cell (show (⟨x + 1, 0, none⟩ : Addr).block < w1.heap.size by show x + 1 < _; omega)).trans s0
          have c3 := (hbel.cell (show (⟨x + 1, 1, none⟩ : Addr).block < w1.heap.size by show x + 1 < _; omega)).trans s1
          obtain ⟨r, hr⟩ : ∃ r, rs[k2]? = some r := ⟨_, List.getElem?_eq_getElem (by rw [← hm.out]; exact hlt)⟩
          obtain ⟨hval, htab⟩ := hJ.out.ok r (List.mem_of_getElem? hr)
          obtain ⟨g, cg, cs, hrv, hgh, hgc⟩ := hJ.out.g.tab (r.v, r.f) (List.mem_map.2 ⟨r, List.mem_of_getElem? hr, rfl⟩)
          have hrl2 : r.f.length = 2 ^ l.length := htab.len
          have hsays := htab.says (L.asg xs)
          rw [hix.out, getD_get (by rw [hrl2]; exact hixl)] at hsays
          have hgx := hgc ix (by show ix < r.f.length; rw [hrl2]; exact hixl)
          have cg0 : wr.cell? ⟨g, ix, none⟩ = some (.bool (r.φ (L.asg xs))) := by
            rw [← hsays]
            simp only [World.cell?, hgh]
            simpa using hgx
          have ca0 : wr.cell? ⟨ga, k2, none⟩ = some (.int .i64 (r.n : Nat)) := own_cellAt (own_cast hJ.out.g.oa (by rw [List.length_map, ← hm.out]) rfl) (by rw [List.getElem?_map, hr]; rfl)
          have cf0 : wr.cell? ⟨gf, k2, none⟩ = some (.slice (some ⟨g, 0, none⟩) r.f.length cg) := own_cellAt (own_cast hJ.out.g.of (by rw [List.length_map, ← hm.out]) rfl) (by rw [List.getElem?_map, hr, ← show r.v = _ from hrv]; rfl)
          obtain ⟨B, hB, hR, hmut⟩ := hJ.out.g.sp
          have hev := Lib.hid fun (W : World) (hW : Ext wr W) => eval_v ((hJ.out.g.ssAt hR).below hW.below) hval xs
          rw [hB] at hev
          have hixl2 : ix < r.f.length := by rw [hrl2]; exact hixl
          clear hval htab hrv hgh hgc hsays hgx hrl2
          generalize r.φ (L.asg xs) = φv at *
          generalize r.f.length = lf at *
          generalize r.n = rn at *
          have hne : (φv != φv) = false := by cases φv <;> rfl
          have F1 := Lib.hid fun (W : World) (hW : Ext wr W) => And.intro (hW.cell y0) (And.intro (hW.cell y1) (And.intro (hW.cell y2) (And.intro (hW.cell c2) (And.intro (hW.cell c3) (And.intro (hW.cell ca0) (And.intro (hW.cell cf0) (hW.cell cg0)))))))
          clear hR hmut hB hbel hby' y0 y2 y3 c2 c3 ca0 cf0 cg0 hr
          go_wp2_with fail
          (refine wp_region_below (by kernel_rfl) (by kernel_rfl) ?_
           repeat (refine wpQuiet_step (fun K hK => ?_)
                   go_simp
                   first
                     | (refine hK _ ?_; clear hK K)
                     | (replace hK := Lib.hid hK
                        apply Exists.intro
                        refine ⟨fun wq hq => ?_, hK.out _ ?_⟩
                        · (obtain ⟨f1, f2, f3, f4, f5, f6, f7, f8⟩ := F1.out wq hq)
                          go_simp
                          first
                            | done
                            | rfl
                            | exact ⟨rfl, rfl⟩
                            | (refine (hev.out wq hq).mono ?_; rintro e w' ⟨rfl, hx'⟩; exact ⟨rfl, hq.trans hx'⟩)
                        clear hK K))
           refine wpQuiet_nil ?_)
          intro w8 hw8
          clear F1 hev y1
          go_wp2_with fail
          go_roundw
          case rel => exact ⟨k2 + 1, by omega, by go_num, Lib.hid (hJ.out.below hw8.below)⟩
          case measure => simp [intOf]; omega
        · obtain rfl : k2 = m := by omega
          have dlt2 : decide ((k2 : Int) < (k2 : Int)) = false := decide_eq_false (by omega)
          have cw := works_any wr (hT1.same (hbel.block _ hT1.lt')) (hP1.same (hbel.block _ hP1.lt))
          have hbw : Below w.heap.size w wr := hb1.trans (hbel.mono (by rw [hx.out]; omega))
          replace hbw := Lib.hid hbw
          replace hbel := Lib.hid hbel
          replace hby' := Lib.hid hby'
          clear hJ hlt
          go_wp2_with fail
          refine cw.mono ?_
          rintro e w9 ⟨rfl, hb9⟩
          go_wp2_with fail
          go_ret
          exact ⟨rfl, by have := hbw.out.trans (hb9.mono hbw.out.size); rwa [hx.out] at this⟩
theorem evals_any {t : List VN} {os : List OpD} {x0 x1 : Int} (w : World) (ba : Option Addr) (cap : Nat) (bo : Option Addr) (co : Nat) (hT : TzTab w) (hP : PowTab w) (h : t = [] ∨ ∃ b o, ba = some ⟨b, o, none⟩ ∧ TreeAt w b o t) (ho : OpsIn w bo os) (hx : (0 ≤ x0 ∧ x0 ≤ 18446744073709551615) ∧ (0 ≤ x1 ∧ x1 ≤ 18446744073709551615)) :
    Calls Tryz.prog 3 #[.agg #[.slice ba t.length cap, .slice bo os.length co], .agg #[.int .u64 x0, .int .u64 x1]] w fun e w' => e = .returned (.bool true) ∧ Below w.heap.size w w' := by
  cases hn : lightB t os.length
  · exact evals_works w ba bo cap co hT hP h hn
  · obtain ⟨xs, rfl, rfl⟩ := set_of hx.1 hx.2
    rcases h with rfl | ⟨b, o, rfl, ht⟩
    · cases hn
    · exact evals_ok w b o cap bo co hT hP ht ho hn
end Go.Proofs.YteikmmfjhabijaaGreatDoor
