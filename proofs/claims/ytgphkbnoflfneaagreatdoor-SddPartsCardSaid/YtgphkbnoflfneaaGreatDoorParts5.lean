import Derived.Test.YtgphkbnoflfneaaGreatDoorParts4
import Derived.Laws.OwnMore
import Derived.Test.YtgphkbnoflfneaaGreatDoorReg
set_option linter.unusedSimpArgs false
set_option linter.unusedVariables false
namespace Go.Proofs.YtgphkbnoflfneaaGreatDoor
open Go Go.RowKit Go.Shelf

theorem OwnN.blk {w : World} {base : Nat} {v : Value} {l : List Nat} (h : OwnN w base v l) (hne : l ≠ []) : ∃ (g cp : Nat) (c : Array Value) (fz : Nat × Nat), v = .slice (some ⟨g, 0, none⟩) l.length cp ∧ base ≤ g ∧ w.heap[g]? = some (.cells c 3 fz) := by
  obtain ⟨_, ⟨rfl, e⟩ | ⟨g, cap, cur, rfl, hg, hh, hn, hm, hs, ht⟩⟩ := h
  · exact absurd (List.length_eq_zero_iff.1 e) hne
  · exact ⟨g, cap, _, _, rfl, hg, hh⟩
/-- a block of cells of a kind that no store has may turn, and new blocks come -/
theorem Rep.grownT {B : Blks} {s : St} {w w' : World} {blk : Nat} {c0 : Array Value} {t : TypeId} {f0 : Nat × Nat} (h : Rep B s w) (hk : w.heap[blk]? = some (.cells c0 t f0)) (h1 : t ≠ tPair) (h2 : t ≠ tNode) (h3 : t ≠ tStore) (h4 : t ≠ 41) (hg : blk ≠ gPow ∧ blk ≠ gTz)
    (hs : ∀ (k : Nat) (o : Obj), k ≠ blk → w.heap[k]? = some o → w'.heap[k]? = some o) : Rep B s w' := by
  obtain ⟨nv, vs, hst, hn, he⟩ := h.store
  obtain ⟨c', hc⟩ := hn.nbk
  have n1 : B.sb ≠ blk := fun e => by rw [e, hk] at hst; simp at hst; exact h3 hst.2.1
  have n2 : B.nb ≠ blk := fun e => by rw [e, hk] at hc; simp at hc; exact h2 hc.2.1
  have nm : ∀ {α β : Type} [DecidableEq α] {enc : α → Value} {encV : β → Value} {b : Nat} {m : α → Option β}, MapAt enc encV w b m → MapAt enc encV w' b m := fun {α β _ enc encV b m} hm => by
    obtain ⟨L, cl, hb, hm2⟩ := hm
    refine ⟨L, cl, hs b _ (fun e => ?_) hb, hm2⟩
    rw [e, hk] at hb; simp at hb
  have same : ∀ k, k ≠ blk → k < w.heap.size → w'.heap[k]? = w.heap[k]? := fun k h1 h2 => by
    rw [Array.getElem?_eq_getElem h2]; exact hs k _ h1 (Array.getElem?_eq_getElem h2)
  exact {
    tz := h.tz.same (same _ (Ne.symm hg.2) h.tz.lt')
    pow := h.pow.same (same _ (Ne.symm hg.1) h.pow.lt)
    glob := h.glob
    store := by
      refine ⟨nv, vs, hs _ _ n1 hst, ⟨hn.len, ownsRow_same hn.own ?_, hn.blk, fun i hi hv => ?_⟩, he⟩
      · intro k hk2
        rw [hn.blk] at hk2
        cases hk2
        rw [hs _ _ n2 hc, hc]
      · obtain ⟨ba, c, hve, hrow⟩ := hn.els i hi hv
        refine ⟨ba, c, hve, hrow.imp id ?_⟩
        rintro ⟨b, o, rfl, cs, fz, hb, hcs⟩
        exact ⟨b, o, rfl, cs, fz, hs b _ (fun e => by rw [e, hk] at hb; simp at hb; exact h1 hb.2.1) hb, hcs⟩
    tree := by
      obtain ⟨c, fz, hb, hcs⟩ := h.tree
      refine ⟨c, fz, hs _ _ (fun e => ?_) hb, hcs⟩
      rw [e, hk] at hb; simp at hb; exact h4 hb.2.1
    leaf := nm h.leaf
    uniq := nm h.uniq
    ands := nm h.ands
    nots := nm h.nots
    apart := h.apart
    small := h.small }
theorem SS.grown {t : List VN} {B0 : Blks} {w0 w w' : World} {k : Nat} {s : St} (h : SS t B0 w0 k s w) {base : Nat} {v : Value} {l : List Nat} (ho : OwnN w base v l) (hne : l ≠ []) (hb : w0.heap.size ≤ base) (hg : w.grownBy w' v.ownBlock) (hz : gPow < w0.heap.size ∧ gTz < w0.heap.size) : SS t B0 w0 k s w' := by
  obtain ⟨B, hR, hS⟩ := h.held
  obtain ⟨g, cp, c, fz, rfl, hbg, hk⟩ := ho.blk hne
  have hgk : ∀ k, k < w.heap.size → k ≠ g → w'.heap[k]? = w.heap[k]? := fun k hk hne => hg.block k hk (fun e => by simp [Value.ownBlock] at e; exact hne e)
  refine ⟨⟨B, hR.grownT hk (by decide) (by decide) (by decide) (by decide) ⟨by omega, by omega⟩ (fun k o h1 h2 => by rw [hgk k (Array.getElem?_eq_some_iff.1 h2).1 h1, h2]), ?_⟩, h.room, h.tree⟩
  have h1 : Stp [g] B w B w' := Stp.of_but ⟨hg.os, hg.tape, hg.output⟩ hg.size (fun k h1 h2 => hgk k h1 (by simpa using h2))
  exact (hS.trans h1).weak fun x hx => by
    have : x = g := by simpa using hx
    subst this
    exact .inr (by omega)
/-- the list stays while the store works -/
theorem OwnN.stay {t : List VN} {B : Blks} {w w' : World} {k : Nat} {s s0 : St} {base : Nat} {v : Value} {l : List Nat} (h : OwnN w base v l) (hne : l ≠ []) (hR : Rep B s0 w) (hS : SS t B w k s w') : OwnN w' base v l := by
  obtain ⟨g, cp, c, fz, rfl, hbg, hk⟩ := h.blk hne
  refine ownsRow_same h fun k hk' => ?_
  simp [Value.ownBlock] at hk'
  subst hk'
  exact hS.block (Array.getElem?_eq_some_iff.1 hk).1 (hR.not_mut hk (by decide) (by decide))
theorem OwnN.below {w w' : World} {base : Nat} {v : Value} {l : List Nat} (h : OwnN w base v l) (hne : l ≠ []) (hb : Below w.heap.size w w') : OwnN w' base v l := by
  obtain ⟨g, cp, c, fz, rfl, hbg, hk⟩ := h.blk hne
  refine ownsRow_same h fun k hk' => ?_
  simp [Value.ownBlock] at hk'
  subst hk'
  exact hb.block _ (Array.getElem?_eq_some_iff.1 hk).1
theorem NewP.keep {n : Nat} {B : Blks} {s : St} {w : World} {ba : Option Addr} {l : List (Nat × Nat)} (h : NewP n w ba l) (hR : Rep B s w) : KeepR B w ba (flatP l) := by
  rcases h with rfl | ⟨g, cs, rfl, h1, h2, h3⟩
  · exact .inl rfl
  · refine .inr ⟨g, 0, rfl, hR.not_mut h2 (by decide) (by decide), fun j hj => ?_⟩
    have := h3 j _ (List.getElem?_eq_getElem hj)
    simpa [World.cell?, h2] using this
/-- a node of a small store: its place and its elements -/
theorem node_shape {s : St} (hi : L.Inv s) {a : Nat} (ha : a < s.nodes.length) : ∃ n : SNode, s.nodes[a]? = some n ∧ ((n.el = [] ∧ (n.pl = -1 ∨ ∃ (u : Nat) (y : VN), n.pl = u ∧ s.tree[u]? = some y ∧ y.left < 0)) ∨
    (L.DecOK s.tree s.nodes a n ∧ 2 ≤ n.el.length ∧ ∃ (P : Nat) (y : VN), n.pl = P ∧ s.tree[P]? = some y ∧ 0 ≤ y.left)) := by
  rcases hi.kind ha with rfl | rfl | ⟨_, n, hn, hl | hd⟩
  · exact ⟨_, hi.zero, .inl ⟨rfl, .inl rfl⟩⟩
  · exact ⟨_, hi.one, .inl ⟨rfl, .inl rfl⟩⟩
  · obtain ⟨u, y, h1, h2, h3, _⟩ := hl.leaf
    simp only [leafB, Bool.and_eq_true, decide_eq_true_eq] at h3
    exact ⟨n, hn, .inl ⟨hl.el, .inr ⟨u, y, h1, h2, by omega⟩⟩⟩
  · obtain ⟨P, y, l, r, h1, h2, h3, h4, h5, h6, _⟩ := hi.facts hn hd
    exact ⟨n, hn, .inr ⟨hd, h6.two, P, y, h1, h2, by omega⟩⟩
theorem OwnN.apart {w w' : World} {base g : Nat} {v : Value} {l : List Nat} {cs : Array Value} (h : OwnN w base v l) (hne : l ≠ []) (hg : w.heap[g]? = some (.cells cs tPair (0, 0))) (hgr : w.grownBy w' v.ownBlock) : w'.heap[g]? = some (.cells cs tPair (0, 0)) := by
  obtain ⟨g', cp, c, fz, rfl, _, hk⟩ := h.blk hne
  refine (hgr.block g (Array.getElem?_eq_some_iff.1 hg).1 (fun e => ?_)).trans hg
  simp [Value.ownBlock] at e
  subst e
  rw [hk] at hg
  simp [tPair] at hg
theorem withL_len (l : List Nat) (n : Nat) : l.length ≤ (L.withL l n).length := by
  unfold L.withL
  split
  · exact Nat.le_refl _
  · simp
/-- what holds in the outer loop of SddParts -/
def PartsInv (t : List VN) (B3 : Blks) (w3 : World) (s4 : St) (root i size : Nat) (all : List Nat) (v : Value) (w : World) : Prop :=
  ∃ s', SS t B3 w3 0 s' w ∧ L.Step s4 s' ∧ L.Bfs s'.nodes root all i size ∧ OwnN w w3.heap.size v all
/-- and in the inner one -/
def PartsIn (t : List VN) (B3 : Blks) (w3 : World) (s5 : St) (g : Nat) (cs : Array Value) (l : List Nat) (v : Value) (w : World) : Prop :=
  SS t B3 w3 0 s5 w ∧ OwnN w w3.heap.size v l ∧ w.heap[g]? = some (.cells cs tPair (0, 0))

set_option maxRecDepth 100000 in
set_option maxHeartbeats 4000000 in
theorem parts_works {t : List VN} {ps : List Nat} (w : World) (ba bp : Option Addr) (cap cp : Nat) (hT : TzTab w) (hP : PowTab w) (h : t = [] ∨ ∃ b o, ba = some ⟨b, o, none⟩ ∧ TreeAt w b o t) (hn : fewB t = false ∨ 7 < t.length ∨ 12 < ps.length) :
    Calls Tryz.prog 3 #[.slice ba t.length cap, .slice bp ps.length cp] w fun e w' => e = .returned (.bool true) ∧ Below w.heap.size w w' := by
  have hf := few_any w ba cap h
  have hw : ∀ w', Ext w w' → Calls Tryz.prog 5 #[] w' fun e w'' => e = .returned (.bool true) ∧ Below w'.heap.size w' w'' := fun w' hx => works_any w' (hT.same (hx.below.block _ hT.lt')) (hP.same (hx.below.block _ hP.lt))
  by_cases h0 : fewB t = false
  · rw [h0] at hf
    go_enter Tryz.func3, Tryz.ntmps3
    go_wp2_with fail
    refine hf.mono ?_
    rintro e w1 ⟨rfl, hx1⟩
    go_wp2_with fail
    refine (hw w1 hx1).mono ?_
    rintro e w2 ⟨rfl, hb2⟩
    go_wp2_with fail
    go_ret
    exact ⟨rfl, hx1.below.trans (hb2.mono hx1.size)⟩
  · have h1 : fewB t = true := by simpa using h0
    rw [h1] at hf
    by_cases h7 : 7 < t.length
    · have d1 : decide ((t.length : Int) > 7) = true := decide_eq_true (by omega)
      go_enter Tryz.func3, Tryz.ntmps3
      go_wp2_with fail
      refine hf.mono ?_
      rintro e w1 ⟨rfl, hx1⟩
      go_wp2_with fail
      refine (hw w1 hx1).mono ?_
      rintro e w2 ⟨rfl, hb2⟩
      go_wp2_with fail
      go_ret
      exact ⟨rfl, hx1.below.trans (hb2.mono hx1.size)⟩
    · have h12 : 12 < ps.length := (hn.resolve_left h0).resolve_left h7
      have d1 : decide ((t.length : Int) > 7) = false := decide_eq_false (by omega)
      have d2 : decide ((ps.length : Int) > 12) = true := decide_eq_true (by omega)
      go_enter Tryz.func3, Tryz.ntmps3
      go_wp2_with fail
      refine hf.mono ?_
      rintro e w1 ⟨rfl, hx1⟩
      go_wp2_with fail
      refine (hw w1 hx1).mono ?_
      rintro e w2 ⟨rfl, hb2⟩
      go_wp2_with fail
      go_ret
      exact ⟨rfl, hx1.below.trans (hb2.mono hx1.size)⟩
set_option maxRecDepth 100000 in
set_option maxHeartbeats 8000000 in
theorem parts_ok {t : List VN} {ps : List Nat} (w : World) (b o cap : Nat) (bp : Option Addr) (cp : Nat) (hT : TzTab w) (hP : PowTab w) (h : TreeAt w b o t) (hp : InU w bp cp ps) (hf : fewB t = true) (h7 : t.length ≤ 7) (h12 : ps.length ≤ 12) :
    Calls Tryz.prog 3 #[.slice (some ⟨b, o, none⟩) t.length cap, .slice bp ps.length cp] w fun e w' => e = .returned (.bool true) ∧ Below w.heap.size w w' := by
  have hq := few_any w (some ⟨b, o, none⟩) cap (.inr ⟨b, o, rfl, h⟩)
  rw [hf] at hq
  unfold fewB at hf
  simp only [Bool.and_eq_true, decide_eq_true_eq] at hf
  obtain ⟨t0, t11, hc⟩ := hf
  obtain ⟨l, hl, hl6, _, hlv⟩ := vars_few hc t11
  have hpu := hp.1
  have d0 : decide ((t.length : Int) > 7) = false := decide_eq_false (by omega)
  have d1 : decide ((ps.length : Int) > 12) = false := decide_eq_false (by omega)
  obtain ⟨n0', _⟩ := treeCells_get t 0 (by omega)
  have hblt : b < w.heap.size := World.block_lt_of_cell? w _ (h _ _ n0')
  clear n0'
  replace hl := Lib.hid hl
  replace hc := Lib.hid hc
  replace h := Lib.hid h
  replace hp := Lib.hid hp
  go_enter Tryz.func3, Tryz.ntmps3
  go_wp2_with fail
  refine hq.mono ?_
  rintro e w1 ⟨rfl, hx1⟩
  have q1 := new_v w1 b o cap (hT.same (hx1.below.block _ hT.lt')) (hP.same (hx1.below.block _ hP.lt)) (h.out.ext hx1) hc.out t11
  clear hq
  go_wp2_with fail
  refine q1.mono ?_
  rintro e w2 ⟨B, rfl, hS2, hz2, ho2, hm2, hb2⟩
  have hbw2 := hx1.below.trans (hb2.mono hx1.size)
  have hmw : ∀ k ∈ B.mut, w.heap.size ≤ k := fun k hk => Nat.le_trans hx1.size (hm2 k hk)
  have q2 := refVars_any w2 b o cap l (h.out.below hbw2) t0 (by omega) hl.out
  replace hS2 := Lib.hid hS2
  clear q1 hx1 hb2 hm2
  go_wp2_with fail
  refine q2.mono ?_
  rintro e w3 ⟨vl, rfl, ho3, hb3⟩
  obtain ⟨B3, hsb, hR3, hS3, hSt⟩ := (hS2.out.below hb3).here
  obtain ⟨bl, cl, rfl, hkl⟩ := own_keep ho3 hR3
  have hmw3 : ∀ k ∈ B3.mut, w.heap.size ≤ k := fun k hk => (hSt.new k hk).elim (hmw k) (fun h => Nat.le_trans hbw2.size h)
  have hbw3 := hbw2.trans (hb3.mono hbw2.size)
  have hkp := hp.out.keep hbw3 hmw3
  have q3 := terms_v false (k' := 280000) (cl := cl) (cp := cp) hS3 hz2 ho2 (by omega) hkl hkp hl6 hlv hpu (by omega)
  rw [hsb] at q3
  have hi3 := hS3.inv
  have hgz : gPow < w3.heap.size ∧ gTz < w3.heap.size := ⟨Nat.lt_of_lt_of_le hP.lt hbw3.size, Nat.lt_of_lt_of_le hT.lt' hbw3.size⟩
  replace hS3 := Lib.hid hS3
  clear q2 hb3 ho3 hR3 hSt hS2
  go_wp2_with fail
  refine q3.mono ?_
  rintro e w4 ⟨a, s4, rfl, hS4, hT4, hV4⟩
  have hrow : OwnN (w4.alloc (.cells #[.int .i64 (a : Nat)] 3)) w3.heap.size (.slice (some ⟨w4.heap.size, 0, none⟩) 1 1) [a] := World.ownsRow_lit w4 #[.int .i64 (a : Nat)] 1 hS4.size (by unfold maxLen; omega) rfl
  have hloop : Hid (PartsInv t B3 w3 s4 a 0 0 [a] (.slice (some ⟨w4.heap.size, 0, none⟩) [a].length 1) (w4.alloc (.cells #[.int .i64 (a : Nat)] 3))) := Lib.hid
    ⟨s4, (hS4.less (by omega)).below ((Below.refl _ _).alloc (Nat.le_refl _) _), L.Step.refl hS4.inv, L.Bfs.init _ _, hrow⟩
  have hi4 := hS4.inv
  replace hS4 := Lib.hid hS4
  replace hV4 := Lib.hid hV4
  clear hrow q3 hkp hkl
  go_wp2_with fail
  generalize w4.alloc (.cells #[.int .i64 (a : Nat)] 3) = w5 at *
  generalize w4.heap.size = x4 at *
  go_loopw [9, 10, 11] (fun av sv iv wr => ∃ (i size : Nat) (all : List Nat) (ba : Option Addr) (ca : Nat), i ≤ all.length ∧ iv = .int .i64 i ∧ sv = .int .i64 size ∧ av = .slice ba all.length ca ∧ Hid (PartsInv t B3 w3 s4 a i size all (.slice ba all.length ca) wr)) (fun _ _ iv _ => a + 1 - (intOf iv).toNat)
  case atStart => exact ⟨0, 0, [a], _, 1, Nat.zero_le _, rfl, rfl, rfl, hloop⟩
  case round =>
    clear hloop
    obtain ⟨i, size, all, ba, ca, hi, rfl, rfl, rfl, hI⟩ := hrel
    obtain ⟨s5, hS5, hT5, hB5, hO5⟩ := hI.out
    clear hI
    have hlen5 := hB5.le hS5.inv.kids
    have hneA : all ≠ [] := by
      intro e
      have := hB5.has
      rw [e] at this
      cases this
    have hroot5 : a < s5.nodes.length := Nat.lt_of_lt_of_le hV4.out.lt hT5.len
    have hsz : size ≤ 1048577 * 1048576 ∧ a + 1 ≤ 1048576 := by
      obtain ⟨B', hR', _⟩ := hS5.held
      have h1 := sumEl_le hR' (all.take i)
      rw [hB5.size]
      have h2 := List.length_take_le i all
      have h3 := hR'.small.1
      have h4 : (all.take i).length ≤ 1048577 := by omega
      exact ⟨Nat.le_trans h1 (Nat.mul_le_mul_right _ h4), by omega⟩
    by_cases hlt : i < all.length
    · have hreach := (hB5.reach _ (List.getElem_mem hlt)).le hS5.inv.kids
      obtain ⟨n, hn, hsh⟩ := node_shape hS5.inv (a := all[i]) (by omega)
      have hel : n.el.length ≤ 1048576 := by
        obtain ⟨B', hR', _⟩ := hS5.held
        exact (hR'.small.2 n (List.mem_of_getElem? hn)).2.2.2.2.1
      have hE := elements_v hS5 hn
      rw [hsb] at hE
      obtain ⟨ba', ca', e, hcel⟩ := hO5.at
      cases e
      obtain ⟨g0, rfl, hck⟩ := hcel i hlt
      have hskip := fun he => hB5.skip hlt hn he
      have hnext := fun (s' : St) (h : L.Step s5 s') => (hB5.step hS5.inv h hroot5).next hlt (Step.node h hn)
      have hi5 := hS5.inv
      generalize all[i] = x at *
      replace hS5 := Lib.hid hS5
      replace hT5 := Lib.hid hT5
      replace hn := Lib.hid hn
      replace hB5 := Lib.hid hB5
      replace hO5 := Lib.hid hO5
      replace hskip := Lib.hid hskip
      replace hnext := Lib.hid hnext
      clear hcel
      go_wp2_with fail
      refine hE.mono ?_
      rintro e w6 ⟨be, ce, rfl, hNP, hb6⟩
      have hS6 := hS5.out.below hb6
      have hA := at_v hS6 hn.out
      rw [hsb] at hA
      have hck6 := (hb6.cell (World.block_lt_of_cell? _ _ hck)).trans hck
      replace hS6 := Lib.hid hS6
      replace hNP := Lib.hid hNP
      clear hE hck
      go_wp2_with fail
      refine hA.mono ?_
      rintro e w7 ⟨rfl, hb7⟩
      have hS7 := hS6.out.below hb7
      have hO7 := (hO5.out.below hneA hb6).below hneA hb7
      have hbw7 := hS7.behind hbw3 hmw3 hbw3.size
      have htr5 := hS7.tree
      rw [htr5] at hsh
      replace hS7 := Lib.hid hS7
      replace hO7 := Lib.hid hO7
      clear hA hck6 hS6
      rcases hsh with ⟨he, hpl⟩ | ⟨hd, h2, P, y, hPl, hy, hyl⟩
      · have hgo : Hid (PartsInv t B3 w3 s4 a (i + 1) size all (.slice (some ⟨g0, 0, none⟩) all.length ca) w7) := Lib.hid ⟨s5, hS7.out, hT5.out, hskip.out he, hO7.out⟩
        have hm0 : n.el.length = 0 := by rw [he]; rfl
        replace he := Lib.hid he
        generalize n.el.length = m at *
        subst hm0
        rcases hpl with hpl | ⟨u, y, hpl, hy, hyl⟩
        · generalize n.pl = pl at *
          subst hpl
          go_wp2_with fail
          go_roundw
          case rel => exact ⟨i + 1, size, all, _, ca, by omega, by go_num, by go_num, rfl, hgo⟩
          case measure => simp [intOf]; omega
        · generalize n.pl = pl at *
          subst hpl
          have hut : u < t.length := (List.getElem?_eq_some_iff.1 hy).1
          have huy : t[u] = y := (List.getElem?_eq_some_iff.1 hy).2
          have c0 := (h.out.below hbw7) _ _ (treeCells_get t u hut).1
          rw [huy] at c0
          have k1 : decide ((u : Int) < -1) = false := decide_eq_false (by omega)
          have k2 : decide ((u : Int) ≥ t.length) = false := decide_eq_false (by omega)
          have k3 : decide ((u : Int) ≥ 0) = true := decide_eq_true (by omega)
          have k4 : decide (y.left ≥ 0) = false := decide_eq_false (by omega)
          have k5 : (0 : Int) ≤ u := by omega
          have k6 : (u : Int) < t.length := by omega
          replace hy := Lib.hid hy
          replace huy := Lib.hid huy
          go_wp2_with fail
          go_roundw
          case rel => exact ⟨i + 1, size, all, _, ca, by omega, by go_num, by go_num, rfl, hgo⟩
          case measure => simp [intOf]; omega
      · obtain ⟨g, cs, rfl, hge, hg6, hcs⟩ := hNP.out.resolve_left (by intro e; rw [e] at h2; simp at h2)
        have hg7 := (hb7.block _ (Array.getElem?_eq_some_iff.1 hg6).1).trans hg6
        obtain ⟨B7, hsb7, hR7, hS7', hSt7⟩ := hS7.out.here
        have hTm : b ∉ B7.mut := fun hcm => by
          rcases hSt7.new b hcm with h1 | h1
          · have := hmw3 b h1; omega
          · have := hbw3.size; omega
        have hKE : KeepR B7 w7 (some ⟨g, 0, none⟩) (flatP n.el) := NewP.keep (n := 0) (.inr ⟨g, cs, rfl, Nat.zero_le _, hg7, hcs⟩) hR7
        have hdv := divided_any (cap := cap) (ce := ce) hS7' h7 hn.out (htr5 ▸ hd) (h.out.below hbw7) hTm hKE hS7.out.tz
        rw [hsb7, hsb] at hdv
        have hPt : P < t.length := (List.getElem?_eq_some_iff.1 hy).1
        have hPy : t[P] = y := (List.getElem?_eq_some_iff.1 hy).2
        have c0 := (h.out.below hbw7) _ _ (treeCells_get t P hPt).1
        rw [hPy] at c0
        rw [hPl] at hdv
        have k1 : decide ((P : Int) < -1) = false := decide_eq_false (by omega)
        have k2 : decide ((P : Int) ≥ t.length) = false := decide_eq_false (by omega)
        have k3 : decide ((P : Int) ≥ 0) = true := decide_eq_true (by omega)
        have k4 : decide (y.left ≥ 0) = true := decide_eq_true (by omega)
        have k5 : (0 : Int) ≤ P := by omega
        have k6 : (P : Int) < t.length := by omega
        have k7 : ((n.el.length : Int) == 1) = false := by simp only [beq_eq_false_iff_ne, ne_eq]; omega
        have k8 : decide ((n.el.length : Int) > 0) = true := decide_eq_true (by omega)
        have k9 : ((n.el.length : Int) == 0) = false := by simp only [beq_eq_false_iff_ne, ne_eq]; omega
        have k10 : decide (t.length ≤ P) = false := decide_eq_false (by omega)
        have k11 : decide (0 < n.el.length) = true := decide_eq_true (by omega)
        have hfl := fun k hk => flat_at n.el k hk
        have hcell : Hid (∀ (k : Nat) (hk : k < n.el.length) (W : World), W.heap[g]? = some (.cells cs tPair (0, 0)) → W.cell? ⟨g, k * 2, none⟩ = some (.int .i64 (n.el[k].1 : Nat)) ∧ W.cell? ⟨g, k * 2 + 1, none⟩ = some (.int .i64 (n.el[k].2 : Nat))) := Lib.hid fun k hk W hW => by
          obtain ⟨_, f1, f2⟩ := hfl k hk
          have r1 := hcs _ _ f1
          have r2 := hcs _ _ f2
          rw [Nat.zero_add] at r1 r2
          exact ⟨by simpa [World.cell?, hW] using r1, by simpa [World.cell?, hW] using r2⟩
        clear hfl
        generalize hplx : n.pl = pl at *
        subst hPl
        replace hplx := Lib.hid hplx
        replace hy := Lib.hid hy
        replace hPy := Lib.hid hPy
        replace hKE := Lib.hid hKE
        replace hcs := Lib.hid hcs
        replace hg7 := Lib.hid hg7
        replace hR7 := Lib.hid hR7
        replace hSt7 := Lib.hid hSt7
        clear hg6 hNP hS7' hKE
        go_wp2_with fail
        refine hdv.mono ?_
        rintro e w8 ⟨rfl, s8, hS8, hT8⟩
        have hO8 := hO7.out.stay hneA hR7.out hS8
        have hg8 := (hS8.block (Array.getElem?_eq_some_iff.1 hg7.out).1 (hR7.out.not_mut hg7.out (by decide) (by decide))).trans hg7.out
        have hS8' := SS.then (k := 0) (s := s8) hSt7.out hS8
        have hT58 := Lib.hid (hT5.out.trans hT8)
        have hB8 := Lib.hid (hnext.out s8 hT8)
        have hin : Hid (PartsIn t B3 w3 s8 g cs (L.addP all (n.el.take 0)) (.slice (some ⟨g0, 0, none⟩) (L.addP all (n.el.take 0)).length ca) w8) := Lib.hid ⟨hS8', hO8, hg8⟩
        have hpart : Hid (∀ k, k ≤ n.el.length → (L.addP all (n.el.take k)).length ≤ 1048576 ∧ L.addP all (n.el.take k) ≠ []) := Lib.hid fun k hk => by
          obtain ⟨r, hr⟩ := L.addP_pre all (n.el.take k)
          refine ⟨?_, by rw [hr]; simp [hneA]⟩
          refine Nat.le_trans (L.nodup_lt _ (a + 1) (L.addP_nodup hB5.out.nd _) (fun b hb => ?_)) hsz.2
          have hm : b ∈ L.addP all n.el := (L.addP_mem all n.el b).2 (((L.addP_mem _ _ b).1 hb).imp id (fun ⟨p, hp, h⟩ => ⟨p, List.mem_of_mem_take hp, h⟩))
          have := (hB8.out.reach b hm).le hS8'.inv.kids
          omega
        replace hT8 := Lib.hid hT8
        clear hdv hO8 hg8 hS8 hS8' hO7 hg7 c0 hR7 hSt7 hnext hskip hplx hS7
        go_wp2_with fail
        go_loopw [9, 16] (fun av kv wi => ∃ (k : Nat) (bb : Option Addr) (cc : Nat), k ≤ n.el.length ∧ kv = .int .i64 k ∧ av = .slice bb (L.addP all (n.el.take k)).length cc ∧ Hid (PartsIn t B3 w3 s8 g cs (L.addP all (n.el.take k)) (.slice bb (L.addP all (n.el.take k)).length cc) wi)) (fun _ kv _ => n.el.length - (intOf kv).toNat)
        case atStart => exact ⟨0, _, ca, Nat.zero_le _, rfl, rfl, hin⟩
        case round =>
          clear hin
          obtain ⟨k, bb, cc, hk, rfl, rfl, hI⟩ := hrel
          obtain ⟨hSk, hOk, hgk⟩ := hI.out
          clear hI
          by_cases hkl : k < n.el.length
          · obtain ⟨hlen, hne⟩ := hpart.out k hk
            obtain ⟨hlen1, hne1⟩ := hpart.out (k + 1) hkl
            have hEq : L.withL (L.withL (L.addP all (n.el.take k)) n.el[k].1) n.el[k].2 = L.addP all (n.el.take (k + 1)) := by
              rw [List.take_add_one, List.getElem?_eq_getElem hkl, Option.toList_some, L.addP_snoc]
            have hcW := hcell.out k hkl
            generalize n.el[k].1 = p1 at *
            generalize n.el[k].2 = p2 at *
            generalize hA1 : L.addP all (n.el.take (k + 1)) = A1 at *
            generalize L.addP all (n.el.take k) = Tryz' at *
            replace hA1 := Lib.hid hA1
            have hlenw : (L.withL Tryz' p1).length ≤ 1048576 := by
              have := withL_len (L.withL Tryz' p1) p2
              rw [hEq] at this
              omega
            have hnew : L.withL Tryz' p1 ≠ [] := by
              intro e
              have := withL_len Tryz' p1
              rw [e] at this
              exact hne (List.length_eq_zero_iff.1 (by simpa using this))
            have hSd := hSk.below (Below.refl _ _).drew
            have hOd := hOk.below hne (Below.refl _ _).drew
            have hgd : wr.drew.heap[g]? = some (.cells cs tPair (0, 0)) := hgk
            have hq1 := lawWith_any (n := p1) hOd hlen (Nat.le_trans hSd.size (Nat.le_refl _))
            replace hEq := Lib.hid hEq
            replace hcW := Lib.hid hcW
            replace hSk := Lib.hid hSk
            replace hSd := Lib.hid hSd
            replace hOk := Lib.hid hOk
            replace hOd := Lib.hid hOd
            replace hgk := Lib.hid hgk
            replace hgd := Lib.hid hgd
            go_wp2_with fail
            (refine wp_region_held_drew (S := (fun W => W.cell? ⟨g, k * 2, none⟩ = some (.int .i64 (p1 : Nat)) ∧ W.cell? ⟨g, k * 2 + 1, none⟩ = some (.int .i64 (p2 : Nat)))) (by kernel_rfl) ?_ (fun hHeld => ?_))
            · exact hcW.out _ hgd.out
            (refine takeL (i := 0) (v := ?_) rfl (by kernel_rfl) (by kernel_rfl) (by kernel_rfl) (fun _ _ _ h => h) (Or.inl ⟨by rfl, ?_⟩) (by assumption) ?_)
            rotate_left
            · (intro w hSw; (try dsimp only at hSw); go_simp; first | done | with_reducible rfl)
            (try simp only [Act.put, List.setIfInBounds_toArray, List.set_cons_zero, List.set_cons_succ])
            (refine takeL (i := 1) (v := ?_) rfl (by kernel_rfl) (by kernel_rfl) (by kernel_rfl) (fun _ _ _ h => h) (Or.inl ⟨by rfl, ?_⟩) (by assumption) ?_)
            rotate_left
            · (intro w hSw; (try dsimp only at hSw); go_simp; first | done | with_reducible rfl)
            (try simp only [Act.put, List.setIfInBounds_toArray, List.set_cons_zero, List.set_cons_succ])
            (refine takeL (i := 2) (v := ?_) rfl (by kernel_rfl) (by kernel_rfl) (by kernel_rfl) (fun _ _ _ h => h) (Or.inl ⟨by rfl, ?_⟩) (by assumption) ?_)
            rotate_left
            · (intro w hSw; (try dsimp only at hSw); go_simp; first | done | with_reducible rfl)
            (try simp only [Act.put, List.setIfInBounds_toArray, List.set_cons_zero, List.set_cons_succ])
            (refine takeL (i := 3) (v := ?_) rfl (by kernel_rfl) (by kernel_rfl) (by kernel_rfl) (fun _ _ _ h => h) (Or.inl ⟨by rfl, ?_⟩) (by assumption) ?_)
            rotate_left
            · (intro w hSw; (try dsimp only at hSw); go_simp; first | done | with_reducible rfl)
            (try simp only [Act.put, List.setIfInBounds_toArray, List.set_cons_zero, List.set_cons_succ])
            (refine takeL (i := 4) (v := ?_) rfl (by kernel_rfl) (by kernel_rfl) (by kernel_rfl) (fun _ _ _ h => h) (Or.inl ⟨by rfl, ?_⟩) (by assumption) ?_)
            rotate_left
            · (intro w hSw; (try dsimp only at hSw); go_simp; first | done | with_reducible rfl)
            (try simp only [Act.put, List.setIfInBounds_toArray, List.set_cons_zero, List.set_cons_succ])
            (refine takeL (i := 5) (v := ?_) rfl (by kernel_rfl) (by kernel_rfl) (by kernel_rfl) (fun _ _ _ h => h) (Or.inl ⟨by rfl, ?_⟩) (by assumption) ?_)
            rotate_left
            · (intro w hSw; (try dsimp only at hSw); go_simp; first | done | with_reducible rfl)
            (try simp only [Act.put, List.setIfInBounds_toArray, List.set_cons_zero, List.set_cons_succ])
            (refine takeL (i := 7) (v := ?_) rfl (by kernel_rfl) (by kernel_rfl) (by kernel_rfl) (fun _ _ _ h => h) (Or.inl ⟨by rfl, ?_⟩) (by assumption) ?_)
            rotate_left
            · (intro w hSw; (try dsimp only at hSw); go_simp; first | done | with_reducible rfl)
            (try simp only [Act.put, List.setIfInBounds_toArray, List.set_cons_zero, List.set_cons_succ])
            (refine takeL (i := 8) (v := ?_) rfl (by kernel_rfl) (by kernel_rfl) (by kernel_rfl) (fun _ _ _ h => h) (Or.inl ⟨by rfl, ?_⟩) (by assumption) ?_)
            rotate_left
            · (intro w hSw; (try dsimp only at hSw); go_simp; first | done | with_reducible rfl)
            (try simp only [Act.put, List.setIfInBounds_toArray, List.set_cons_zero, List.set_cons_succ])
            (refine takeL (i := 9) (v := ?_) rfl (by kernel_rfl) (by kernel_rfl) (by kernel_rfl) (fun _ _ _ h => h) (Or.inl ⟨by rfl, ?_⟩) (by assumption) ?_)
            rotate_left
            · (intro w hSw; (try dsimp only at hSw); go_simp; first | done | with_reducible rfl)
            (try simp only [Act.put, List.setIfInBounds_toArray, List.set_cons_zero, List.set_cons_succ])
            (refine takeL (i := 10) (v := ?_) rfl (by kernel_rfl) (by kernel_rfl) (by kernel_rfl) (fun _ _ _ h => h) (Or.inl ⟨by rfl, ?_⟩) (by assumption) ?_)
            rotate_left
            · (intro w hSw; (try dsimp only at hSw); go_simp; first | done | with_reducible rfl)
            (try simp only [Act.put, List.setIfInBounds_toArray, List.set_cons_zero, List.set_cons_succ])
            (refine takeL (i := 11) (v := ?_) rfl (by kernel_rfl) (by kernel_rfl) (by kernel_rfl) (fun _ _ _ h => h) (Or.inl ⟨by rfl, ?_⟩) (by assumption) ?_)
            rotate_left
            · (intro w hSw; (try dsimp only at hSw); go_simp; first | done | with_reducible rfl)
            (try simp only [Act.put, List.setIfInBounds_toArray, List.set_cons_zero, List.set_cons_succ])
            (refine wpAnyH_ready (rs := [6]) (by kernel_rfl) (by simp) ?_)
            (refine consL rfl (fun K hK => ?_))
            ((rw [if_pos (by rfl)]); go_simp; (go_at_call 12); refine hq1.mono ?_; rintro e wa ⟨v1, rfl, hOa, hga⟩; have hgA := Lib.hid (hOd.out.apart hne hgd.out hga); have hSa := Lib.hid (hSd.out.grown hOd.out hne (Nat.le_refl _) hga hgz); have hOa := Lib.hid hOa; clear hga; refine hK.out _ _ (hcW.out _ hgA.out) (fun hHeld => ?_))
            (clear hK K)
            (try simp only [Act.put, List.setIfInBounds_toArray, List.set_cons_zero, List.set_cons_succ])
            (refine wpAnyH_ready (rs := [12]) (by kernel_rfl) (by simp) ?_)
            (refine consL rfl (fun K hK => ?_))
            ((rw [if_pos (by rfl)]); go_simp; (go_at_call 12); refine (lawWith_any (n := p2) hOa.out hlenw hSa.out.size).mono ?_; rintro e wb ⟨v2, rfl, hOb, hgb⟩; have hgB := Lib.hid (hOa.out.apart hnew hgA.out hgb); have hSb := Lib.hid (hSa.out.grown hOa.out hnew (Nat.le_refl _) hgb hgz); rw [hEq.out] at hOb; obtain ⟨bb2, cc2, rfl, _⟩ := hOb.at; have hOb := Lib.hid hOb; clear hgb; refine hK.out _ _ (hcW.out _ hgB.out) (fun hHeld => ?_))
            (clear hK K)
            (try simp only [Act.put, List.setIfInBounds_toArray, List.set_cons_zero, List.set_cons_succ])
            (refine takeL (i := 13) (v := ?_) rfl (by kernel_rfl) (by kernel_rfl) (by kernel_rfl) (fun _ _ _ h => h) (Or.inl ⟨by rfl, ?_⟩) (by assumption) ?_)
            rotate_left
            · (intro w hSw; (try dsimp only at hSw); go_simp; first | done | with_reducible rfl)
            (try simp only [Act.put, List.setIfInBounds_toArray, List.set_cons_zero, List.set_cons_succ])
            (refine wpAnyH_done (by kernel_rfl) ?_ _)
            have hnext : Hid (PartsIn t B3 w3 s8 g cs A1 (.slice bb2 A1.length cc2) wb) := Lib.hid ⟨hSb.out, hOb.out, hgB.out⟩
            go_wp2_with fail
            go_roundw
            case rel => exact ⟨k + 1, bb2, cc2, by omega, by go_num, by rw [hA1.out], by rw [hA1.out]; exact hnext⟩
            case measure => simp [intOf]; omega
          · obtain rfl : k = n.el.length := by omega
            have hend : Hid (PartsInv t B3 w3 s4 a (i + 1) (size + n.el.length) (L.addP all n.el) (.slice bb (L.addP all n.el).length cc) wr) := Lib.hid (by
              rw [List.take_length] at hOk
              exact ⟨s8, hSk, hT58.out, hB8.out, hOk⟩)
            have hlA : i + 1 ≤ (L.addP all n.el).length := by
              obtain ⟨r, hr⟩ := L.addP_pre all n.el
              rw [hr, List.length_append]
              omega
            have htl : L.addP all (n.el.take n.el.length) = L.addP all n.el := by rw [List.take_length]
            rw [htl]
            generalize L.addP all n.el = A1 at *
            clear hSk hOk hgk hpart hcell htl
            go_wp2_with fail
            go_roundw
            case rel => exact ⟨i + 1, size + n.el.length, A1, bb, cc, hlA, by go_num, by go_num, rfl, hend⟩
            case measure => simp [intOf]; omega
    · obtain rfl : i = all.length := by omega
      have hz : Calls Tryz.prog 13 #[.pointer (some ⟨B3.sb, 0, none⟩), .int .i64 a] wr fun e w' => e = .returned (.tuple #[.int .i64 (size : Nat), .int .i64 0]) ∧ Below wr.heap.size wr w' := (size_v hS5 hroot5).mono fun e w' hh => by
        obtain ⟨o', ⟨ho1, ho2⟩, rfl, hb⟩ := hh
        exact ⟨by rw [hB5.end ho1 ho2], hb⟩
      rw [hsb] at hz
      have hbw5 := hS5.behind hbw3 hmw3 hbw3.size
      replace hS5 := Lib.hid hS5
      replace hT5 := Lib.hid hT5
      replace hB5 := Lib.hid hB5
      replace hO5 := Lib.hid hO5
      go_wp2_with fail
      refine hz.mono ?_
      rintro e w6 ⟨rfl, hb6⟩
      have hbw6 := hbw5.trans (hb6.mono hbw5.size)
      have cw := works_any w6 (hT.same (hbw6.block _ hT.lt')) (hP.same (hbw6.block _ hP.lt))
      clear hz
      go_wp2_with fail
      refine cw.mono ?_
      rintro e w7 ⟨rfl, hb7⟩
      go_wp2_with fail
      go_ret
      exact ⟨rfl, hbw6.trans (hb7.mono hbw6.size)⟩
theorem parts_any {t : List VN} {ps : List Nat} (w : World) (ba bp : Option Addr) (cap cp : Nat) (hT : TzTab w) (hP : PowTab w) (h : t = [] ∨ ∃ b o, ba = some ⟨b, o, none⟩ ∧ TreeAt w b o t) (hp : InU w bp cp ps) :
    Calls Tryz.prog 3 #[.slice ba t.length cap, .slice bp ps.length cp] w fun e w' => e = .returned (.bool true) ∧ Below w.heap.size w w' := by
  by_cases hn : fewB t = false ∨ 7 < t.length ∨ 12 < ps.length
  · exact parts_works w ba bp cap cp hT hP h hn
  · rw [not_or, not_or] at hn
    have hf : fewB t = true := by simpa using hn.1
    rcases h with rfl | ⟨b, o, rfl, ht⟩
    · cases hf
    · exact parts_ok w b o cap bp cp hT hP ht hp hf (by omega) (by omega)
end Go.Proofs.YtgphkbnoflfneaaGreatDoor
