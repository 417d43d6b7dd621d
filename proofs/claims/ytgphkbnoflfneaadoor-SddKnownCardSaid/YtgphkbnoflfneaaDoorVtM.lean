import Derived.Test.YtgphkbnoflfneaaDoorVtF
namespace Go.Proofs.YtgphkbnoflfneaaDoor
open Go Go.RowKit Go.Shelf

def setI (f : Nat → Int) (i : Nat) (v : Int) : Nat → Int := fun j => if j = i then v else f j
def upStep (i : Nat) (x : VN) (f : Nat → Int) : Nat → Int := if leafB x = true then setI f i (-1) else setI (setI (setI f i (-1)) x.left.toNat i) x.right.toNat i
def upRun : List VN → Nat → (Nat → Int) → (Nat → Int)
  | [], _, f => f
  | x :: r, i, f => upRun r (i + 1) (upStep i x f)
def upsF (t : List VN) : Nat → Int := upRun t 0 (fun _ => 0)
def meetF (up : Nat → Int) : Nat → Nat → Nat → Nat
  | 0, a, _ => a
  | f + 1, a, b => if a = b then a else if a < b then meetF up f (up a).toNat b else meetF up f a (up b).toNat
/-- vtree.Meet of two nodes of a valid vtree -/
def meetT (t : List VN) (a b : Nat) : Nat := meetF (upsF t) (t.length + t.length) a b

theorem kidF_some {i : Nat} {k : Int} {c c' : Nat → Bool} (h : kidF i k c = some c') : 0 ≤ k ∧ k < i ∧ c k.toNat = false ∧ c' = setB c k.toNat := by
  unfold kidF at h
  split at h
  · cases h
  · rename_i hn
    simp only [Option.some.injEq] at h
    refine ⟨by omega, by omega, ?_, h.symm⟩
    cases hc : c k.toNat
    · rfl
    · exact absurd (.inr (.inr hc)) hn
theorem stepF_some {i : Nat} {x : VN} {sc sc' : (Nat → Bool) × (Nat → Bool)} (h : stepF i x sc = some sc') :
    (leafB x = true ∧ sc'.2 = sc.2) ∨ (leafB x = false ∧ x.var = 0 ∧ 0 ≤ x.left ∧ x.left < i ∧ 0 ≤ x.right ∧ x.right < i ∧ x.left ≠ x.right ∧ sc'.2 = setB (setB sc.2 x.left.toNat) x.right.toNat) := by
  unfold stepF at h
  split at h
  · rename_i hl
    split at h
    · cases h
    · simp only [Option.some.injEq] at h; exact .inl ⟨hl, by rw [← h]⟩
  · rename_i hl
    split at h
    · cases h
    · rename_i hv
      split at h
      · cases h
      · rename_i c hc
        split at h
        · cases h
        · rename_i c' hc'
          simp only [Option.some.injEq] at h
          obtain ⟨a1, a2, a3, a4⟩ := kidF_some hc
          obtain ⟨b1, b2, b3, b4⟩ := kidF_some hc'
          refine .inr ⟨by simpa using hl, by simpa using hv, a1, a2, b1, b2, fun e => ?_, by rw [← h, b4, a4]⟩
          rw [a4, e] at b3
          simp [setB] at b3
theorem run_bounds : ∀ (t : List VN) (i : Nat) (sc sc' : (Nat → Bool) × (Nat → Bool)), runF t i sc = some sc' →
    ∀ k (hk : k < t.length), leafB t[k] = false → t[k].var = 0 ∧ 0 ≤ t[k].left ∧ t[k].left < (i + k : Nat) ∧ 0 ≤ t[k].right ∧ t[k].right < (i + k : Nat) ∧ t[k].left ≠ t[k].right
  | [], _, _, _, _, k, hk, _ => absurd hk (Nat.not_lt_zero _)
  | x :: r, i, sc, sc', h, k, hk, hl => by
    unfold runF at h
    split at h
    · cases h
    · rename_i sc1 h1
      cases k with
      | zero =>
        rcases stepF_some h1 with ⟨h2, _⟩ | ⟨_, h3, h4, h5, h6, h7, h8, _⟩
        · simp only [List.getElem_cons_zero] at hl; rw [hl] at h2; cases h2
        · exact ⟨h3, h4, by simpa using h5, h6, by simpa using h7, h8⟩
      | succ k =>
        have := run_bounds r (i + 1) sc1 sc' h k (by simpa using hk) (by simpa using hl)
        simp only [List.getElem_cons_succ]
        rw [show i + (k + 1) = i + 1 + k from by omega]
        exact this
theorem check_ok {t : List VN} (h : checkF t = 0) : 0 < t.length ∧ t.length ≤ 255 ∧ ∃ sc, runF t 0 (fun _ => false, fun _ => false) = some sc ∧ ∀ j, j + 1 < t.length → sc.2 j = true := by
  unfold checkF at h
  split at h
  · cases h
  · rename_i hl
    refine ⟨by omega, by omega, ?_⟩
    unfold endF at h
    split at h
    · cases h
    · rename_i sc hs
      refine ⟨sc, hs, fun j hj => ?_⟩
      split at h
      · rename_i ha
        exact List.all_eq_true.1 ha j (List.mem_range.2 (by omega))
      · cases h
theorem run_up : ∀ (t : List VN) (i : Nat) (sc sc' : (Nat → Bool) × (Nat → Bool)) (f : Nat → Int), runF t i sc = some sc' → (∀ j, sc.2 j = true → (j : Int) < f j ∧ f j < i) →
    ∀ j, sc'.2 j = true → (j : Int) < upRun t i f j ∧ upRun t i f j < (i + t.length : Nat)
  | [], i, sc, sc', f, h, hi, j, hj => by
    simp only [runF, Option.some.injEq] at h
    subst h
    simpa [upRun] using hi j hj
  | x :: r, i, sc, sc', f, h, hi, j, hj => by
    unfold runF at h
    split at h
    · cases h
    · rename_i sc1 h1
      have := run_up r (i + 1) sc1 sc' (upStep i x f) h (fun k hk => ?_) j hj
      · simp only [upRun, List.length_cons]
        rw [show i + (r.length + 1) = i + 1 + r.length from by omega]
        exact this
      · unfold upStep
        rcases stepF_some h1 with ⟨h2, h3⟩ | ⟨h2, h3, h4, h5, h6, h7, h8, h9⟩
        · rw [if_pos h2]
          rw [h3] at hk
          have := hi k hk
          have hne : k ≠ i := by omega
          simp only [setI, if_neg hne]
          omega
        · rw [if_neg (by simp [h2])]
          rw [h9] at hk
          simp only [setI]
          by_cases hr : k = x.right.toNat
          · rw [if_pos hr]; omega
          · rw [if_neg hr]
            by_cases hl : k = x.left.toNat
            · rw [if_pos hl]; omega
            · rw [if_neg hl]
              have hk2 : sc.2 k = true := by simpa [setB, hr, hl] using hk
              have := hi k hk2
              rw [if_neg (by omega)]
              omega
theorem ups_gt {t : List VN} (h : checkF t = 0) {j : Nat} (hj : j + 1 < t.length) : (j : Int) < upsF t j ∧ upsF t j < t.length := by
  obtain ⟨_, _, sc, hs, hc⟩ := check_ok h
  have := run_up t 0 _ sc (fun _ => 0) hs (fun j hj => by cases hj) j (hc j hj)
  simpa [upsF] using this

/-- a row of ints in a block -/
def IntsAt (w : World) (b : Nat) (t : TypeId) (n : Nat) (f : Nat → Int) : Prop := ∃ c, w.heap[b]? = some (.cells c t (0, 0)) ∧ c.size = n ∧ ∀ j, j < n → ∃ v, c[j]? = some (.int .i64 v) ∧ v = f j
theorem IntsAt.cell {w : World} {b : Nat} {t : TypeId} {n : Nat} {f : Nat → Int} (h : IntsAt w b t n f) {j : Nat} (hj : j < n) : w.cell? ⟨b, j, none⟩ = some (.int .i64 (f j)) ∧ w.frozen? ⟨b, j, none⟩ = false := by
  obtain ⟨c, h1, h2, h3⟩ := h
  obtain ⟨v, h4, rfl⟩ := h3 j hj
  simp [World.cell?, World.frozen?, h1, h4]
theorem IntsAt.same {w w' : World} {b : Nat} {t : TypeId} {n : Nat} {f : Nat → Int} (h : IntsAt w b t n f) (hs : w'.heap[b]? = w.heap[b]?) : IntsAt w' b t n f := by
  obtain ⟨c, h1, h2, h3⟩ := h
  exact ⟨c, hs.trans h1, h2, h3⟩
theorem IntsAt.lt {w : World} {b : Nat} {t : TypeId} {n : Nat} {f : Nat → Int} (h : IntsAt w b t n f) : b < w.heap.size := by
  obtain ⟨c, h1, h2, h3⟩ := h
  exact (Array.getElem?_eq_some_iff.1 h1).1
theorem IntsAt.ext {w w' : World} {b : Nat} {t : TypeId} {n : Nat} {f : Nat → Int} (h : IntsAt w b t n f) (hs : Ext w w') : IntsAt w' b t n f := h.same (hs.below.block b h.lt)
theorem IntsAt.set {w : World} {b : Nat} {t : TypeId} {n : Nat} {f : Nat → Int} (h : IntsAt w b t n f) (i : Nat) (v : Int) : IntsAt (w.setCell ⟨b, i, none⟩ (.int .i64 v)) b t n (setI f i v) := by
  obtain ⟨c, h1, h2, h3⟩ := h
  refine ⟨_, heap_set h1 i _, by simpa using h2, fun j hj => ?_⟩
  rw [Array.getElem?_setIfInBounds]
  by_cases hij : i = j
  · subst hij
    rw [if_pos rfl, if_pos (by omega)]
    exact ⟨v, rfl, by simp [setI]⟩
  · rw [if_neg hij]
    obtain ⟨u, h4, h5⟩ := h3 j hj
    exact ⟨u, h4, by simp [setI, Ne.symm hij, h5]⟩
theorem setI_comm (f : Nat → Int) (a b : Nat) (v : Int) : setI (setI f a v) b v = setI (setI f b v) a v := by
  funext j
  simp only [setI]
  by_cases h1 : j = a <;> by_cases h2 : j = b <;> simp [h1, h2]
theorem intsNew (w : World) (n : Nat) (t : TypeId) (ad : Nat) (ha : ad = w.heap.size) : IntsAt (w.alloc (.cells (madeCells #[.int .i64 0] n) t)) ad t n (fun _ => 0) := by
  refine ⟨_, heap_new_at w _ ad ha, by simp [madeCells], fun j hj => ⟨0, ?_, rfl⟩⟩
  simp [madeCells, hj, Nat.mod_one]
theorem info_int : (Tryd.prog.info? 3).map (fun i => (i.zero, i.size, i.bytes)) = some (some (.int .i64 0), 1, 8) := by kernel_rfl

def ParLoop (w : World) (g : Nat) (t : List VN) (k : Nat) (wr : World) : Prop := ∃ f, Ext w wr ∧ IntsAt wr g 3 t.length f ∧ upRun (t.drop k) k f = upsF t

set_option maxRecDepth 100000 in
set_option maxHeartbeats 4000000 in
theorem parents_any {t : List VN} (w : World) (b o cap : Nat) (h : TreeAt w b o t) (hc : checkF t = 0) :
    Calls Tryd.prog 69 #[.slice (some ⟨b, o, none⟩) t.length cap] w fun e w' => ∃ g, w.heap.size ≤ g ∧ e = .returned (.slice (some ⟨g, 0, none⟩) t.length t.length) ∧ IntsAt w' g 3 t.length (upsF t) ∧ Ext w w' := by
  have hmk : ∀ w : World, (Instr.makeSlice 37 (.int .i64 t.length) (.int .i64 t.length)).run Tryd.prog w = .ok (.slice (some ⟨w.heap.size, 0, none⟩) t.length t.length) (w.alloc (.cells (madeCells #[.int .i64 0] t.length) 3)) :=
    fun w => run_make_row' (P := Tryd.prog) 37 3 (.int .i64 0) 8 Tryd.underlying37 info_int rfl .i64 .i64 t.length (by have := (check_ok hc).2.1; omega) (by have := (check_ok hc).2.1; omega) w
  obtain ⟨hl0, hl1, sc, hrun, _⟩ := check_ok hc
  have hbd := Lib.hid (run_bounds t 0 _ sc hrun)
  have hq := check_any w (some ⟨b, o, none⟩) cap (.inr ⟨b, o, rfl, h⟩)
  rw [hc] at hq
  clear hrun hc
  go_enter Tryd.func69, Tryd.ntmps69
  go_wp2_with fail
  refine hq.mono ?_
  rintro e w1 ⟨rfl, hx1⟩
  clear hq
  go_wp2_with fail
  have hx0 : Ext w (w1.alloc (.cells (madeCells #[.int .i64 0] t.length) 3)) := hx1.alloc _
  have hloop0 : Hid (ParLoop w w1.heap.size t 0 (w1.alloc (.cells (madeCells #[.int .i64 0] t.length) 3))) := Lib.hid ⟨_, hx0, intsNew w1 t.length _ _ rfl, rfl⟩
  have hge := hx1.size
  clear hx0 hx1
  generalize w1.alloc (.cells (madeCells #[.int .i64 0] t.length) 3) = w2 at *
  generalize w1.heap.size = g at *
  go_loopw [14] (fun i wr => ∃ k : Nat, k ≤ t.length ∧ i = .int .i64 k ∧ Hid (ParLoop w g t k wr))
    (fun i _ => t.length - (intOf i).toNat)
  case atStart => exact ⟨0, Nat.zero_le _, rfl, hloop0⟩
  case round =>
    clear hloop0
    obtain ⟨k, hk, rfl, hI⟩ := hrel
    obtain ⟨f, hX, hG, hup⟩ := hI.out
    clear hI
    by_cases hlt : k < t.length
    · obtain ⟨n0, n1, n2⟩ := (h.ext hX).node hlt
      have hbk := hbd.out k hlt
      rw [List.drop_eq_getElem_cons hlt] at hup
      simp only [upRun] at hup
      generalize t[k] = x at *
      obtain ⟨xl, xr, xv⟩ := x
      simp only [Nat.zero_add] at n0 n1 n2 hbk
      have hbox := heap_alloc_new wr (.cells #[.int .i64 xl, .int .i64 xr, .int .i64 xv] 32)
      have hx1 : Ext wr (wr.alloc (.cells #[.int .i64 xl, .int .i64 xr, .int .i64 xv] 32)) := (Ext.refl wr).alloc _
      have hwl := hX.size
      have hgl := hG.lt
      obtain ⟨s1, s2⟩ := hG.cell hlt
      replace hG := Lib.hid hG
      replace hbox := Lib.hid hbox
      replace hx1 := Lib.hid hx1
      replace hup := Lib.hid hup
      have s1' := hx1.out.cell s1
      have s2' : (wr.alloc (.cells #[.int .i64 xl, .int .i64 xr, .int .i64 xv] 32)).frozen? ⟨g, k, none⟩ = false := (World.frozen?_of_block (a := ⟨g, k, none⟩) (hx1.out.below.block _ hgl)).trans s2
      go_wp2_with fail
      have hx2 : Ext w ((wr.setCell ⟨g, k, none⟩ (.int .i64 (-1))).alloc (.cells #[.int .i64 xl, .int .i64 xr, .int .i64 xv] 32)) := (hX.setCell (by simpa using hge) _).alloc _
      have hG2 := (hG.out.set k (-1)).ext ((Ext.refl _).alloc (.cells #[.int .i64 xl, .int .i64 xr, .int .i64 xv] 32))
      have hb2 : ((wr.setCell ⟨g, k, none⟩ (.int .i64 (-1))).alloc (.cells #[.int .i64 xl, .int .i64 xr, .int .i64 xv] 32)).heap[wr.heap.size]? = some (.cells #[.int .i64 xl, .int .i64 xr, .int .i64 xv] 32 (0, 0)) := heap_new_at _ _ _ (by simp)
      clear s1 s2 s1' s2' hbox hx1 n0 n1 n2
      generalize (wr.setCell ⟨g, k, none⟩ (.int .i64 (-1))).alloc (.cells #[.int .i64 xl, .int .i64 xr, .int .i64 xv] 32) = w3 at *
      obtain ⟨b0, b1, b2⟩ := box3 hb2
      try go_wp2_with fail
      refine (isLeaf_any ⟨xl, xr, xv⟩ w3).mono ?_
      rintro e w4 ⟨rfl, hx4⟩
      have hG4 := Lib.hid (hG2.ext hx4)
      have hX4 := Lib.hid (hx2.trans hx4)
      have c0 := hx4.cell b0
      have c1 := hx4.cell b1
      have hb4 := (World.block_lt_of_cell? _ _ c0)
      clear b0 b1 b2 hG2 hx2 hx4 hb2
      cases hlf : leafB ⟨xl, xr, xv⟩
      · obtain ⟨_, l0, l1, r0, r1, hne⟩ := hbk hlf
        clear hbk
        obtain ⟨ln, rfl⟩ : ∃ n : Nat, xl = n := ⟨xl.toNat, by omega⟩
        obtain ⟨rn, rfl⟩ : ∃ n : Nat, xr = n := ⟨xr.toNat, by omega⟩
        have q1 : (ln : Int) < t.length := by omega
        have q2 : (rn : Int) < t.length := by omega
        obtain ⟨s1, s2⟩ := hG4.out.cell (j := ln) (by omega)
        obtain ⟨s3, s4⟩ := hG4.out.cell (j := rn) (by omega)
        have hgw : g ≠ wr.heap.size := by omega
        have hln : ¬ (ln = rn) := by omega
        have hrn : ¬ (rn = ln) := by omega
        go_wp2_with fail
        go_region_law (fail)
        all_goals
          go_wp2_with fail
          go_roundw
          case rel => exact ⟨k + 1, by omega, by go_num, Lib.hid ⟨_, ((hX4.out.drew).setCell (by simpa using hge) _).setCell (by simpa using hge) _, ((hG4.out.same (w' := w4.drew) rfl).set _ _).set _ _, by
            rw [← hup.out]; unfold upStep; rw [if_neg (by simp [hlf])]
            first | rfl | (rw [setI_comm]; rfl)⟩⟩
          case measure => simp [intOf]; omega
      · go_wp2_with fail
        go_roundw
        case rel => exact ⟨k + 1, by omega, by go_num, Lib.hid ⟨_, hX4.out, hG4.out, by rw [← hup.out]; unfold upStep; rw [if_pos hlf]⟩⟩
        case measure => simp [intOf]; omega
    · obtain rfl : k = t.length := by omega
      rw [List.drop_length] at hup
      go_wp2_with fail
      go_ret
      exact ⟨g, hge, rfl, by rw [← hup]; exact hG, hX⟩
theorem meetF_fuel {t : List VN} (hc : checkF t = 0) : ∀ (f g a b : Nat), a < t.length → b < t.length → t.length + t.length ≤ f + a + b → f ≤ g → meetF (upsF t) f a b = meetF (upsF t) g a b := by
  intro f
  induction f with
  | zero => intro g a b ha hb h _; omega
  | succ f ih =>
    intro g a b ha hb h hg
    obtain ⟨g, rfl⟩ : ∃ g', g = g' + 1 := ⟨g - 1, by omega⟩
    simp only [meetF]
    by_cases h1 : a = b
    · rw [if_pos h1, if_pos h1]
    · rw [if_neg h1, if_neg h1]
      by_cases h2 : a < b
      · rw [if_pos h2, if_pos h2]
        have := ups_gt hc (j := a) (by omega)
        exact ih g _ _ (by omega) hb (by omega) (by omega)
      · rw [if_neg h2, if_neg h2]
        have := ups_gt hc (j := b) (by omega)
        exact ih g _ _ ha (by omega) (by omega) (by omega)

set_option maxRecDepth 100000 in
set_option maxHeartbeats 4000000 in
theorem meet_any {t : List VN} (w : World) (b o cap : Nat) (h : TreeAt w b o t) (hc : checkF t = 0) (x y : Nat) (hx : x < t.length) (hy : y < t.length) :
    Calls Tryd.prog 52 #[.slice (some ⟨b, o, none⟩) t.length cap, .int .i64 x, .int .i64 y] w fun e w' => e = .returned (.int .i64 (meetT t x y)) ∧ Ext w w' := by
  have hq := parents_any w b o cap h hc
  have hl1 := (check_ok hc).2.1
  go_enter Tryd.func52, Tryd.ntmps52
  go_wp2_with fail
  refine hq.mono ?_
  rintro e w1 ⟨g, hg, rfl, hG, hX⟩
  have p1 : decide ((x : Int) < 0) = false := decide_eq_false (by omega)
  have p2 : decide ((t.length : Int) ≤ x) = false := decide_eq_false (by omega)
  have p3 : decide ((y : Int) < 0) = false := decide_eq_false (by omega)
  have p4 : decide ((t.length : Int) ≤ y) = false := decide_eq_false (by omega)
  clear hq
  replace hG := Lib.hid hG
  go_wp2_with fail
  go_loopw [1, 2] (fun i j wr => ∃ a b f : Nat, a < t.length ∧ b < t.length ∧ i = .int .i64 a ∧ j = .int .i64 b ∧ wr = w1 ∧ Hid (meetF (upsF t) f a b = meetT t x y ∧ t.length + t.length ≤ f + a + b))
    (fun i j _ => t.length + t.length - (intOf i).toNat - (intOf j).toNat)
  case atStart => exact ⟨x, y, t.length + t.length, hx, hy, rfl, rfl, rfl, Lib.hid ⟨rfl, by omega⟩⟩
  case round =>
    obtain ⟨a, b', f, ha, hb, rfl, rfl, rfl, hm⟩ := hrel
    clear p1 p2 p3 p4
    by_cases hab : a = b'
    · subst hab
      have hd : ((a : Int) != a) = false := by simp
      have hr : a = meetT t x y := by
        rw [← hm.out.1]
        cases f <;> simp [meetF]
      go_wp2_with fail
      go_ret
      exact ⟨by rw [← hr]; rfl, hX⟩
    · have hd : ((a : Int) != b') = true := by simp; omega
      obtain ⟨f, rfl⟩ : ∃ f', f = f' + 1 := ⟨f - 1, by have := hm.out.2; omega⟩
      have hm1 := hm.out.1
      have hm2 := hm.out.2
      simp only [meetF, if_neg hab] at hm1
      have q1 : (0 : Int) ≤ a := by omega
      have q2 : (0 : Int) ≤ b' := by omega
      have q3 : (a : Int) < t.length := by omega
      have q4 : (b' : Int) < t.length := by omega
      by_cases hlt : a < b'
      · rw [if_pos hlt] at hm1
        replace hm1 := Lib.hid hm1
        have hlt' : decide ((a : Int) < b') = true := decide_eq_true (by omega)
        obtain ⟨s1, _⟩ := hG.out.cell ha
        obtain ⟨u1, u2⟩ := ups_gt hc (j := a) (by omega)
        go_wp2_with fail
        go_roundw
        case rel => exact ⟨(upsF t a).toNat, b', f, by omega, hb, by congr 1; omega, rfl, by first | rfl | trivial, Lib.hid ⟨hm1.out, by omega⟩⟩
        case measure => simp [intOf]; omega
      · rw [if_neg hlt] at hm1
        replace hm1 := Lib.hid hm1
        have hlt' : decide ((a : Int) < b') = false := decide_eq_false (by omega)
        obtain ⟨s1, _⟩ := hG.out.cell hb
        obtain ⟨u1, u2⟩ := ups_gt hc (j := b') (by omega)
        go_wp2_with fail
        go_roundw
        case rel => exact ⟨a, (upsF t b').toNat, f, ha, by omega, rfl, by congr 1; omega, by first | rfl | trivial, Lib.hid ⟨hm1.out, by omega⟩⟩
        case measure => simp [intOf]; omega
end Go.Proofs.YtgphkbnoflfneaaDoor
