import Derived.Test.YtgphkbnoflfneaaDoorVt
import Derived.Deep.OwnRows
namespace Go.Proofs.YtgphkbnoflfneaaDoor
open Go Go.RowKit Go.Shelf

/-! vtree.Check, .Parents, .Meet on data -/
def setB (f : Nat → Bool) (i : Nat) : Nat → Bool := fun j => if j = i then true else f j
def kidF (i : Nat) (k : Int) (c : Nat → Bool) : Option (Nat → Bool) := if k < 0 ∨ (i : Int) ≤ k ∨ c k.toNat = true then none else some (setB c k.toNat)
def stepF (i : Nat) (x : VN) (sc : (Nat → Bool) × (Nat → Bool)) : Option ((Nat → Bool) × (Nat → Bool)) :=
  if leafB x = true then (if sc.1 x.var.toNat = true then none else some (setB sc.1 x.var.toNat, sc.2))
  else if x.var ≠ 0 then none
  else match kidF i x.left sc.2 with
    | none => none
    | some c => match kidF i x.right c with
      | none => none
      | some c' => some (sc.1, c')
def runF : List VN → Nat → ((Nat → Bool) × (Nat → Bool)) → Option ((Nat → Bool) × (Nat → Bool))
  | [], _, sc => some sc
  | x :: r, i, sc => match stepF i x sc with
    | none => none
    | some sc' => runF r (i + 1) sc'
def endF (n : Nat) : Option ((Nat → Bool) × (Nat → Bool)) → Int
  | none => 1
  | some sc => if (List.range (n - 1)).all sc.2 = true then 0 else 1
def checkF (t : List VN) : Int := if t.length = 0 ∨ 255 < t.length then 1 else endF t.length (runF t 0 (fun _ => false, fun _ => false))

/-- a row of bools in a block -/
def BoolsAt (w : World) (b : Nat) (t : TypeId) (n : Nat) (f : Nat → Bool) : Prop := ∃ c, w.heap[b]? = some (.cells c t (0, 0)) ∧ c.size = n ∧ ∀ j, j < n → c[j]? = some (.bool (f j))
theorem BoolsAt.cell {w : World} {b : Nat} {t : TypeId} {n : Nat} {f : Nat → Bool} (h : BoolsAt w b t n f) {j : Nat} (hj : j < n) : w.cell? ⟨b, j, none⟩ = some (.bool (f j)) ∧ w.frozen? ⟨b, j, none⟩ = false := by
  obtain ⟨c, h1, h2, h3⟩ := h
  simp [World.cell?, World.frozen?, h1, h3 j hj]
theorem BoolsAt.same {w w' : World} {b : Nat} {t : TypeId} {n : Nat} {f : Nat → Bool} (h : BoolsAt w b t n f) (hs : w'.heap[b]? = w.heap[b]?) : BoolsAt w' b t n f := by
  obtain ⟨c, h1, h2, h3⟩ := h
  exact ⟨c, hs.trans h1, h2, h3⟩
theorem BoolsAt.lt {w : World} {b : Nat} {t : TypeId} {n : Nat} {f : Nat → Bool} (h : BoolsAt w b t n f) : b < w.heap.size := by
  obtain ⟨c, h1, h2, h3⟩ := h
  exact (Array.getElem?_eq_some_iff.1 h1).1
theorem BoolsAt.ext {w w' : World} {b : Nat} {t : TypeId} {n : Nat} {f : Nat → Bool} (h : BoolsAt w b t n f) (hs : Ext w w') : BoolsAt w' b t n f := h.same (hs.below.block b h.lt)
theorem BoolsAt.set {w : World} {b : Nat} {t : TypeId} {n : Nat} {f : Nat → Bool} (h : BoolsAt w b t n f) (i : Nat) : BoolsAt (w.setCell ⟨b, i, none⟩ (.bool true)) b t n (setB f i) := by
  obtain ⟨c, h1, h2, h3⟩ := h
  refine ⟨_, heap_set h1 i _, by simpa using h2, fun j hj => ?_⟩
  rw [Array.getElem?_setIfInBounds]
  by_cases hij : i = j
  · subst hij
    rw [if_pos rfl, if_pos (by omega)]
    simp [setB]
  · rw [if_neg hij, h3 j hj]
    simp [setB, Ne.symm hij]
theorem BoolsAt.other {w : World} {b : Nat} {t : TypeId} {n : Nat} {f : Nat → Bool} (h : BoolsAt w b t n f) {b' : Nat} (hb : b ≠ b') (i : Nat) (v : Value) : BoolsAt (w.setCell ⟨b', i, none⟩ v) b t n f :=
  h.same (Below.heap_setCell _ _ _ b hb)

/-- a vtree in memory -/
def TreeAt (w : World) (b o : Nat) (t : List VN) : Prop := ∀ j u, (treeCells t)[j]? = some u → w.cell? ⟨b, o + j, none⟩ = some u
theorem treeCells_get (t : List VN) (k : Nat) (hk : k < t.length) : (treeCells t)[k * 3]? = some (.int .i64 t[k].left) ∧ (treeCells t)[k * 3 + 1]? = some (.int .i64 t[k].right) ∧ (treeCells t)[k * 3 + 2]? = some (.int .i64 t[k].var) := by
  induction t generalizing k with
  | nil => simp at hk
  | cons x r ih =>
    cases k with
    | zero => simp [treeCells]
    | succ k =>
      obtain ⟨h1, h2, h3⟩ := ih k (by simpa using hk)
      have e : ∀ m, (treeCells (x :: r))[(k + 1) * 3 + m]? = (treeCells r)[k * 3 + m]? := by
        intro m
        simp only [treeCells, List.flatMap_cons]
        rw [List.getElem?_append_right (by simp; omega)]
        congr 1; simp; omega
      have e0 := e 0
      simp only [Nat.add_zero] at e0
      rw [e0, e 1, e 2]
      simpa using ⟨h1, h2, h3⟩
theorem TreeAt.node {w : World} {b o : Nat} {t : List VN} (h : TreeAt w b o t) {k : Nat} (hk : k < t.length) : w.cell? ⟨b, o + k * 3, none⟩ = some (.int .i64 t[k].left) ∧ w.cell? ⟨b, o + k * 3 + 1, none⟩ = some (.int .i64 t[k].right) ∧ w.cell? ⟨b, o + k * 3 + 2, none⟩ = some (.int .i64 t[k].var) := by
  obtain ⟨h1, h2, h3⟩ := treeCells_get t k hk
  exact ⟨h _ _ h1, by have := h _ _ h2; rwa [← Nat.add_assoc] at this, by have := h _ _ h3; rwa [← Nat.add_assoc] at this⟩
theorem TreeAt.ext {w w' : World} {b o : Nat} {t : List VN} (h : TreeAt w b o t) (hs : Ext w w') : TreeAt w' b o t := fun j u hj => hs.cell (h j u hj)
theorem info_bool : (Tryd.prog.info? 4).map (fun i => (i.zero, i.size, i.bytes)) = some (some (.bool false), 1, 1) := by kernel_rfl

set_option maxRecDepth 100000 in
theorem check_len {t : List VN} (w : World) (ba : Option Addr) (cap : Nat) (h : t.length = 0 ∨ 255 < t.length) :
    Calls Tryd.prog 26 #[.slice ba t.length cap] w fun e w' => e = .returned (.int .i64 1) ∧ Ext w w' := by
  by_cases h0 : t.length = 0
  · rw [h0]
    go_enter Tryd.func26, Tryd.ntmps26
    go_wp2_with fail
    go_ret
    exact ⟨rfl, Ext.refl w⟩
  · have h1 : ((t.length : Int) == 0) = false := by simp; intro e; exact h0 (by simp [e])
    have h2 : decide ((255 : Int) < t.length) = true := by simp; omega
    have h3 : (255 : Int) < t.length := by omega
    go_enter Tryd.func26, Tryd.ntmps26
    go_wp2_with fail
    go_ret
    exact ⟨rfl, Ext.refl w⟩

theorem zeros129 : Tryd.zeroCells65 = Array.replicate 129 (.bool false) := by kernel_rfl
theorem boolsNew (w : World) (c : Array Value) (t : TypeId) (n : Nat) (hc : c = Array.replicate n (.bool false)) (ad : Nat) (ha : ad = w.heap.size) : BoolsAt (w.alloc (.cells c t)) ad t n (fun _ => false) := by
  subst hc
  refine ⟨_, heap_new_at w _ ad ha, by simp, fun j hj => by simp [hj]⟩
theorem madeRep (n : Nat) : madeCells #[.bool false] n = Array.replicate n (.bool false) := by
  apply Array.ext_getElem?
  intro j
  simp only [madeCells, Array.getElem?_map]
  by_cases hj : j < n
  · simp [hj, Nat.mod_one]
  · simp [hj]
/-- what holds in the loop of Check -/
def ChkLoop (w : World) (bs bc : Nat) (t : List VN) (R : Option ((Nat → Bool) × (Nat → Bool))) (k : Nat) (wr : World) : Prop :=
  ∃ sc : (Nat → Bool) × (Nat → Bool), Ext w wr ∧ BoolsAt wr bs 65 129 sc.1 ∧ BoolsAt wr bc 4 t.length sc.2 ∧ runF (t.drop k) k sc = R
def kidsF (i : Nat) : List Int → (Nat → Bool) → Option (Nat → Bool)
  | [], c => some c
  | k :: r, c => match kidF i k c with
    | none => none
    | some c' => kidsF i r c'
def contF (r : List VN) (k : Nat) (seen : Nat → Bool) : Option (Nat → Bool) → Option ((Nat → Bool) × (Nat → Bool))
  | none => none
  | some c => runF r k (seen, c)
def ChkKids (w : World) (bs bc : Nat) (n : Nat) (seen : Nat → Bool) (i : Nat) (l r : Int) (S : Option (Nat → Bool)) (m : Nat) (wr : World) : Prop :=
  ∃ c : Nat → Bool, Ext w wr ∧ BoolsAt wr bs 65 129 seen ∧ BoolsAt wr bc 4 n c ∧ kidsF i ([l, r].drop m) c = S

set_option maxRecDepth 100000 in
set_option maxHeartbeats 4000000 in
theorem check_run {t : List VN} (w : World) (b o cap : Nat) (h : TreeAt w b o t) (hl0 : 0 < t.length) (hl1 : t.length ≤ 255) :
    Calls Tryd.prog 26 #[.slice (some ⟨b, o, none⟩) t.length cap] w fun e w' => e = .returned (.int .i64 (checkF t)) ∧ Ext w w' := by
  have hmk : ∀ w : World, (Instr.makeSlice 78 (.int .i64 t.length) (.int .i64 t.length)).run Tryd.prog w = .ok (.slice (some ⟨w.heap.size, 0, none⟩) t.length t.length) (w.alloc (.cells (madeCells #[.bool false] t.length) 4)) :=
    fun w => run_make_row' (P := Tryd.prog) 78 4 (.bool false) 1 Tryd.underlying78 info_bool rfl .i64 .i64 t.length (by omega) (by omega) w
  have h1 : ((t.length : Int) == 0) = false := by simp; intro e; simp [e] at hl0
  have h2 : decide ((255 : Int) < t.length) = false := decide_eq_false (by omega)
  have h3 : ¬ (255 : Int) < t.length := by omega
  obtain ⟨R, hR⟩ : ∃ R, runF t 0 (fun _ => false, fun _ => false) = R := ⟨_, rfl⟩
  have hck : Hid (checkF t = endF t.length R) := Lib.hid (by
      unfold checkF
      rw [if_neg (by omega), hR])
  go_enter Tryd.func26, Tryd.ntmps26
  go_wp2_with fail
  have hs0 := (boolsNew w _ 65 129 zeros129 w.heap.size rfl).ext (((Ext.refl _).alloc (.cells (madeCells #[.bool false] t.length) 4)))
  have hc0 := boolsNew (w.alloc (.cells Tryd.zeroCells65 65)) _ 4 t.length (madeRep _) (w.heap.size + 1) (by simp)
  have hx0 : Ext w ((w.alloc (.cells Tryd.zeroCells65 65)).alloc (.cells (madeCells #[.bool false] t.length) 4)) := ((Ext.refl w).alloc _).alloc _
  have hloop0 : Hid (ChkLoop w w.heap.size (w.heap.size + 1) t R 0 ((w.alloc (.cells Tryd.zeroCells65 65)).alloc (.cells (madeCells #[.bool false] t.length) 4))) := Lib.hid ⟨_, hx0, hs0, hc0, hR⟩
  clear hs0 hc0 hR
  generalize (w.alloc (.cells Tryd.zeroCells65 65)).alloc (.cells (madeCells #[.bool false] t.length) 4) = w0 at *
  go_loopw [24] (fun i wr => ∃ k : Nat, k ≤ t.length ∧ i = .int .i64 k ∧ Hid (ChkLoop w w.heap.size (w.heap.size + 1) t R k wr))
    (fun i _ => t.length - (intOf i).toNat)
  case atStart => exact ⟨0, Nat.zero_le _, rfl, hloop0⟩
  case round =>
    clear hloop0
    obtain ⟨k, hk, rfl, hI⟩ := hrel
    obtain ⟨sc, hX, hS, hC, hrun⟩ := hI.out
    clear hI
    by_cases hlt : k < t.length
    · obtain ⟨n0, n1, n2⟩ := (h.ext hX).node hlt
      rw [List.drop_eq_getElem_cons hlt] at hrun
      generalize t[k] = x at *
      obtain ⟨xl, xr, xv⟩ := x
      simp only at n0 n1 n2
      have hbox := heap_alloc_new wr (.cells #[.int .i64 xl, .int .i64 xr, .int .i64 xv] 32)
      have hx1 : Ext wr (wr.alloc (.cells #[.int .i64 xl, .int .i64 xr, .int .i64 xv] 32)) := (Ext.refl wr).alloc _
      have hwl := hX.size
      replace hrun := Lib.hid hrun
      replace hS := Lib.hid hS
      replace hC := Lib.hid hC
      replace hbox := Lib.hid hbox
      replace hx1 := Lib.hid hx1
      go_wp2_with fail
      generalize wr.alloc (.cells #[.int .i64 xl, .int .i64 xr, .int .i64 xv] 32) = w1 at *
      obtain ⟨b0, b1, b2⟩ := box3 hbox.out
      try go_wp2_with fail
      refine (isLeaf_any ⟨xl, xr, xv⟩ w1).mono ?_
      rintro e w2 ⟨rfl, hx2⟩
      have hx12 := hx1.out.trans hx2
      have c0 := hx2.cell b0
      have c1 := hx2.cell b1
      have c2 := hx2.cell b2
      have hS2 := Lib.hid (hS.out.ext hx12)
      have hC2 := Lib.hid (hC.out.ext hx12)
      have hX2 := Lib.hid (hX.trans hx12)
      clear b0 b1 b2 n0 n1 n2
      unfold runF stepF at hrun
      cases hlf : leafB ⟨xl, xr, xv⟩
      · rw [hlf] at hrun
        by_cases hv0 : xv = 0
        · subst hv0
          obtain ⟨S, hS0⟩ : ∃ S, kidsF k [xl, xr] sc.2 = S := ⟨_, rfl⟩
          have hrun2 : Hid (contF (t.drop (k + 1)) (k + 1) sc.1 S = R) := Lib.hid (by
              rw [← hrun.out, ← hS0]
              simp only [kidsF]
              cases kidF k xl sc.2 with
              | none => simp [contF]
              | some c => cases hkc : kidF k xr c <;> simp [contF, hkc])
          have hin0 : Hid (ChkKids w w.heap.size (w.heap.size + 1) t.length sc.1 k xl xr S 0 w2) := Lib.hid ⟨sc.2, hX2.out, hS2.out, hC2.out, hS0⟩
          clear hS0 hrun hS hC hbox hx1 hx2 hx12
          have ix0 : ∀ w, (Instr.index 79 (.agg #[.int .i64 xl, .int .i64 xr]) (.int .i64 0)).run Tryd.prog w = .ok (.int .i64 xl) w := fun _ => by kernel_rfl
          have ix1 : ∀ w, (Instr.index 79 (.agg #[.int .i64 xl, .int .i64 xr]) (.int .i64 1)).run Tryd.prog w = .ok (.int .i64 xr) w := fun _ => by kernel_rfl
          go_wp2_with fail
          go_loopw [46] (fun i wi => ∃ m : Nat, m ≤ 2 ∧ i = .int .i64 m ∧ Hid (ChkKids w w.heap.size (w.heap.size + 1) t.length sc.1 k xl xr S m wi))
            (fun i _ => 2 - (intOf i).toNat)
          case atStart => exact ⟨0, by omega, rfl, hin0⟩
          case round =>
            clear hin0 hX2 hS2 hC2
            obtain ⟨m, hm, rfl, hJ⟩ := hrel
            obtain ⟨ci, hXi, hSi, hCi, hkd⟩ := hJ.out
            clear hJ
            obtain rfl | rfl | rfl : m = 0 ∨ m = 1 ∨ m = 2 := by omega
            · -- 0
              simp only [List.drop_zero, kidsF, kidF] at hkd
              by_cases hneg : xl < 0
              · rw [if_pos (.inl hneg)] at hkd
                go_wp2_with fail
                go_ret
                refine ⟨?_, hXi⟩
                rw [hck.out, ← hrun2.out, ← hkd]; rfl
              · by_cases hge : (k : Int) ≤ xl
                · rw [if_pos (.inr (.inl hge))] at hkd
                  have dn : decide (xl < 0) = false := decide_eq_false hneg
                  have dg : decide ((k : Int) ≤ xl) = true := decide_eq_true hge
                  go_wp2_with fail
                  go_ret
                  refine ⟨?_, hXi⟩
                  rw [hck.out, ← hrun2.out, ← hkd]; rfl
                · obtain ⟨kn, hkn⟩ : ∃ n : Nat, xl = n := ⟨xl.toNat, by omega⟩
                  subst hkn
                  obtain ⟨s1, s2⟩ := hCi.cell (j := kn) (by omega)
                  have dn : decide ((kn : Int) < 0) = false := decide_eq_false hneg
                  have dg : decide ((k : Int) ≤ kn) = false := decide_eq_false hge
                  have g1 : (0 : Int) ≤ kn := by omega
                  have g2 : (kn : Int) < t.length := by omega
                  replace hCi := Lib.hid hCi
                  replace hSi := Lib.hid hSi
                  cases hcv : ci kn
                  · rw [if_neg (by simp [hcv]; omega)] at hkd
                    rw [hcv] at s1
                    replace hkd := Lib.hid hkd
                    go_wp2_with fail
                    go_roundw
                    case rel => exact ⟨0 + 1, by omega, by go_num, Lib.hid ⟨setB ci kn, hXi.setCell (by simp) _, hSi.out.other (by simp) _ _, hCi.out.set kn, by simpa [kidsF, kidF] using hkd.out⟩⟩
                    case measure => simp [intOf]
                  · rw [if_pos (by simp [hcv])] at hkd
                    rw [hcv] at s1
                    replace hkd := Lib.hid hkd
                    go_wp2_with fail
                    go_ret
                    refine ⟨?_, hXi⟩
                    rw [hck.out, ← hrun2.out, ← hkd.out]; rfl
            · -- 1
              simp only [List.drop_succ_cons, List.drop_zero, kidsF, kidF] at hkd
              by_cases hneg : xr < 0
              · rw [if_pos (.inl hneg)] at hkd
                go_wp2_with fail
                go_ret
                refine ⟨?_, hXi⟩
                rw [hck.out, ← hrun2.out, ← hkd]; rfl
              · by_cases hge : (k : Int) ≤ xr
                · rw [if_pos (.inr (.inl hge))] at hkd
                  have dn : decide (xr < 0) = false := decide_eq_false hneg
                  have dg : decide ((k : Int) ≤ xr) = true := decide_eq_true hge
                  go_wp2_with fail
                  go_ret
                  refine ⟨?_, hXi⟩
                  rw [hck.out, ← hrun2.out, ← hkd]; rfl
                · obtain ⟨kn, hkn⟩ : ∃ n : Nat, xr = n := ⟨xr.toNat, by omega⟩
                  subst hkn
                  obtain ⟨s1, s2⟩ := hCi.cell (j := kn) (by omega)
                  have dn : decide ((kn : Int) < 0) = false := decide_eq_false hneg
                  have dg : decide ((k : Int) ≤ kn) = false := decide_eq_false hge
                  have g1 : (0 : Int) ≤ kn := by omega
                  have g2 : (kn : Int) < t.length := by omega
                  replace hCi := Lib.hid hCi
                  replace hSi := Lib.hid hSi
                  cases hcv : ci kn
                  · rw [if_neg (by simp [hcv]; omega)] at hkd
                    rw [hcv] at s1
                    replace hkd := Lib.hid hkd
                    go_wp2_with fail
                    go_roundw
                    case rel => exact ⟨1 + 1, by omega, by go_num, Lib.hid ⟨setB ci kn, hXi.setCell (by simp) _, hSi.out.other (by simp) _ _, hCi.out.set kn, by simpa [kidsF, kidF] using hkd.out⟩⟩
                    case measure => simp [intOf]
                  · rw [if_pos (by simp [hcv])] at hkd
                    rw [hcv] at s1
                    replace hkd := Lib.hid hkd
                    go_wp2_with fail
                    go_ret
                    refine ⟨?_, hXi⟩
                    rw [hck.out, ← hrun2.out, ← hkd.out]; rfl
            · simp only [List.drop_succ_cons, List.drop_zero, List.drop_nil, kidsF] at hkd
              replace hCi := Lib.hid hCi
              replace hSi := Lib.hid hSi
              go_wp2_with fail
              go_roundw
              case rel => exact ⟨k + 1, by omega, by go_num, Lib.hid ⟨(sc.1, ci), hXi, hSi.out, hCi.out, by rw [← hrun2.out, ← hkd]; rfl⟩⟩
              case measure => simp [intOf]; omega
        · have hvb : (xv != 0) = true := by simpa using hv0
          have hRn : R = none := by rw [← hrun.out]; simp [hv0]
          go_wp2_with fail
          go_ret
          refine ⟨?_, hX2.out⟩
          rw [hck.out, hRn]; rfl
      · have hv := hlf
        simp only [leafB, Bool.and_eq_true, decide_eq_true_eq] at hv
        obtain ⟨_, hv1, hv2⟩ := hv
        obtain ⟨vn, rfl⟩ : ∃ n : Nat, xv = n := ⟨xv.toNat, by omega⟩
        obtain ⟨s1, s2⟩ := hS2.out.cell (j := vn) (by omega)
        rw [hlf] at hrun
        have g1 : (0 : Int) ≤ vn := by omega
        have g2 : (vn : Int) < 129 := by omega
        cases hsv : sc.1 vn
        · rw [hsv] at s1
          go_wp2_with fail
          go_roundw
          case rel => exact ⟨k + 1, by omega, by go_num, Lib.hid ⟨(setB sc.1 vn, sc.2), hX2.out.setCell (by simp) _, hS2.out.set vn, hC2.out.other (by simp) _ _, by have := hrun.out; simpa [hsv] using this⟩⟩
          case measure => simp [intOf]; omega
        · rw [hsv] at s1
          go_wp2_with fail
          go_ret
          refine ⟨?_, hX2.out⟩
          have := hrun.out
          simp [hsv] at this
          rw [hck.out, ← this]; rfl
    · obtain rfl : k = t.length := by omega
      have hRs : R = some sc := by rw [← hrun, List.drop_length]; rfl
      obtain ⟨n', hn'⟩ : ∃ n', t.length = n' + 1 := ⟨t.length - 1, by omega⟩
      have hsub : IntKind.i64.wrap ((t.length : Int) - 1) = (n' : Int) := by rw [hn']; rw [IntWalk.i64_in _ (by omega)]; omega
      have hle : (n' : Int) ≤ t.length := by omega
      have hn0 : (0 : Int) ≤ n' := by omega
      replace hS := Lib.hid hS
      replace hC := Lib.hid hC
      replace hRs := Lib.hid hRs
      have hend : Hid (checkF t = if (List.range n').all sc.2 = true then 0 else 1) := Lib.hid (by rw [hck.out, hRs.out]; simp only [endF]; rw [hn']; rfl)
      clear hrun
      replace hn' := Lib.hid hn'
      go_wp2_with fail
      go_loopw [73] (fun i wi => ∃ k : Nat, k ≤ n' ∧ i = .int .i64 k ∧ wi = wr ∧ Hid (∀ j, j < k → sc.2 j = true))
        (fun i _ => n' - (intOf i).toNat)
      case atStart => exact ⟨0, Nat.zero_le _, rfl, rfl, Lib.hid (fun j hj => absurd hj (Nat.not_lt_zero _))⟩
      case round =>
        obtain ⟨k, hk, rfl, rfl, hall⟩ := hrel
        by_cases hlt : k < n'
        · obtain ⟨s1, s2⟩ := hC.out.cell (j := k) (by have := hn'.out; omega)
          have q1 : (0 : Int) ≤ k := by omega
          have q2 : (k : Int) < n' := by omega
          cases hcv : sc.2 k
          · rw [hcv] at s1
            go_wp2_with fail
            go_ret
            refine ⟨?_, hX⟩
            rw [hend.out, if_neg (by
              intro hc
              have := List.all_eq_true.1 hc k (List.mem_range.2 hlt)
              rw [hcv] at this; cases this)]
            rfl
          · rw [hcv] at s1
            go_wp2_with fail
            go_roundw
            case rel => exact ⟨k + 1, by omega, by go_num, by first | rfl | trivial, Lib.hid (fun j hj => by
              by_cases hjk : j = k
              · rw [hjk]; exact hcv
              · exact hall.out j (by omega))⟩
            case measure => simp [intOf]; omega
        · obtain rfl : k = n' := by omega
          go_wp2_with fail
          go_ret
          refine ⟨?_, hX⟩
          rw [hend.out, if_pos (List.all_eq_true.2 fun j hj => hall.out j (List.mem_range.1 hj))]
          rfl

/-- vtree.Check -/
theorem check_any {t : List VN} (w : World) (ba : Option Addr) (cap : Nat) (h : t = [] ∨ ∃ b o, ba = some ⟨b, o, none⟩ ∧ TreeAt w b o t) :
    Calls Tryd.prog 26 #[.slice ba t.length cap] w fun e w' => e = .returned (.int .i64 (checkF t)) ∧ Ext w w' := by
  by_cases hc : t.length = 0 ∨ 255 < t.length
  · have : checkF t = 1 := if_pos hc
    rw [this]
    exact check_len w ba cap hc
  · rcases h with rfl | ⟨b, o, rfl, ht⟩
    · simp at hc
    · exact check_run w b o cap ht (by omega) (by omega)
end Go.Proofs.YtgphkbnoflfneaaDoor
