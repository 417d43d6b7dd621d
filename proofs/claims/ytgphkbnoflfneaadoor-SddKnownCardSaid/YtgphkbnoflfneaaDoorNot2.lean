import Derived.Test.YtgphkbnoflfneaaDoorNot
namespace Go.Proofs.YtgphkbnoflfneaaDoor
open Go Go.RowKit Go.Shelf

theorem TwoOK.imp {P : Program} {T : TypeId} {mb : Nat} {ka va kb vb : Value} {w : World} {t : TwoW} {Ok Fin Ok' Fin' : World → Prop} (h : TwoOK P T mb ka va kb vb w t Ok Fin) (h1 : ∀ w, Ok w → Ok' w) (h2 : ∀ w, Fin w → Fin' w) :
    TwoOK P T mb ka va kb vb w t Ok' Fin' :=
  ⟨h.eA, h.eAx, h.eAxB, h.e1, h.eAB, h.eABx, h.e2, h.eABy, h.e3, h1 _ h.oA, h1 _ h.oAx, h1 _ h.oAxB, h1 _ h.oAB, h1 _ h.oABx, h1 _ h.oABy, h2 _ h.d1, h2 _ h.d2, h2 _ h.d3⟩

theorem nots_two {B : Blks} {s : St} {w : World} (h : Rep B s w) (a b : Nat) : ∃ t t',
    TwoOK Tryd.prog 56 B.mb (.int .i64 a) (.int .i64 b) (.int .i64 b) (.int .i64 a) w t (fun W => W.cell? ⟨B.sb, 5, none⟩ = some (.map (some B.mb))) (fun f => Rep B { s with nots := (b, a) :: (a, b) :: s.nots } f ∧ Stp [] B w B f) ∧
    TwoOK Tryd.prog 56 B.mb (.int .i64 b) (.int .i64 a) (.int .i64 a) (.int .i64 b) w t' (fun W => W.cell? ⟨B.sb, 5, none⟩ = some (.map (some B.mb))) (fun f => Rep B { s with nots := (b, a) :: (a, b) :: s.nots } f ∧ Stp [] B w B f) := by
  obtain ⟨cap, _, _, _, _, _, c5⟩ := h.cells
  have hne : B.sb ≠ B.mb := Ne.symm h.ub_ne.2.2.2.2.1
  have hok : ∀ W, But B.mb w W → W.cell? ⟨B.sb, 5, none⟩ = some (.map (some B.mb)) := fun W hW => (World.cell?_of_block (a := ⟨B.sb, 5, none⟩) (hW.1 _ hne)).trans c5
  obtain ⟨t, ht⟩ := two_ok h.nots natLaw (T := 56) Tryd.underlying56 _ zeroInt a b b a (fun e => e.symm)
  obtain ⟨t', ht'⟩ := two_ok h.nots natLaw (T := 56) Tryd.underlying56 _ zeroInt b a a b (fun e => e.symm)
  refine ⟨t, t', ht.imp hok (fun f hf => h.nots2 a b b a hf), ht'.imp hok (fun f hf => h.nots2 a b b a ?_)⟩
  rw [upd_comm (asc s.nots) a b b a (fun e => e.symm)]
  exact hf

set_option maxRecDepth 100000 in
set_option maxHeartbeats 1000000 in
theorem not_small {B : Blks} {s : St} {w : World} {a : Nat} (h : Rep B s w) (ha : a < 2) :
    Calls Tryd.prog 33 #[.pointer (some ⟨B.sb, 0, none⟩), .int .i64 a] w (RetStp [] (.int .i64 (1 - a : Nat)) B s w) := by
  obtain rfl | rfl : a = 0 ∨ a = 1 := by omega
  · go_enter Tryd.func33, Tryd.ntmps33
    go_wp2_with fail
    go_ret
    exact ⟨rfl, B, h, Stp.refl _ _ _⟩
  · go_enter Tryd.func33, Tryd.ntmps33
    go_wp2_with fail
    go_ret
    exact ⟨rfl, B, h, Stp.refl _ _ _⟩

set_option maxRecDepth 100000 in
set_option maxHeartbeats 1000000 in
theorem not_hit {B : Blks} {s : St} {w : World} {a b : Nat} (h : Rep B s w) (ha : ¬ a < 2) (hb : asc s.nots a = some b) :
    Calls Tryd.prog 33 #[.pointer (some ⟨B.sb, 0, none⟩), .int .i64 a] w (RetStp [] (.int .i64 b) B s w) := by
  obtain ⟨cap, _, _, _, _, _, c5⟩ := h.cells
  have hlk := h.notLook a
  rw [hb] at hlk
  have hlk2 : (Instr.lookup 56 (.map (some B.mb)) (.int .i64 a) true).run Tryd.prog w = .ok (.tuple #[.int .i64 b, .bool true]) w := hlk
  clear hlk hb
  have hlt : ¬ ((a : Int) < 2) := by omega
  go_enter Tryd.func33, Tryd.ntmps33
  go_wp2_with fail
  go_ret
  exact ⟨rfl, B, h, Stp.refl _ _ _⟩

set_option maxRecDepth 100000 in
set_option maxHeartbeats 4000000 in
theorem not_lit {B : Blks} {s s1 : St} {w : World} {a b : Nat} {n : SNode} (h : Rep B s w) (ha : ¬ a < 2) (hb : asc s.nots a = none) (hn : s.nodes[a]? = some n) (hl : n.lit ≠ 0) (he : literalF s (-n.lit) n.pl = some (b, s1)) :
    Calls Tryd.prog 33 #[.pointer (some ⟨B.sb, 0, none⟩), .int .i64 a] w (RetStp [] (.int .i64 b) B { s1 with nots := (b, a) :: (a, b) :: s1.nots } w) := by
  obtain ⟨cap, _, _, cn, _, _, c5⟩ := h.cells
  obtain ⟨v, hv, hve, n0, n1, n2, n3, n4⟩ := h.node hn
  have hsm := h.small.2 n (List.mem_of_getElem? hn)
  have hai : a < s.nodes.length := (List.getElem?_eq_some_iff.1 hn).1
  have hlk := h.notLook a
  rw [hb] at hlk
  have hlk2 : (Instr.lookup 56 (.map (some B.mb)) (.int .i64 a) true).run Tryd.prog w = .ok (.tuple #[.int .i64 0, .bool false]) w := hlk
  clear hlk hb
  have hlt : ¬ ((a : Int) < 2) := by omega
  have ha0 : (0 : Int) ≤ a := by omega
  have ha1 : (a : Int) < s.nodes.length := by omega
  have hl' : (n.lit != 0) = true := by simpa using hl
  have hwr : IntKind.i64.wrap (-n.lit) = -n.lit := IntWalk.i64_in _ (by omega)
  have hsl := h.small.1
  obtain ⟨ba, cp, rfl, hv2⟩ := hv
  have hbox := heap_alloc_new w (.cells #[.int .i64 n.pl, .int .i64 n.lit, .slice ba n.el.length cp, .int .u64 (lo n.le), .int .u64 (hi n.le)] 59)
  have hx0 : Ext w (w.alloc (.cells #[.int .i64 n.pl, .int .i64 n.lit, .slice ba n.el.length cp, .int .u64 (lo n.le), .int .u64 (hi n.le)] 59)) := (Ext.refl w).alloc _
  have hq := literal_any (h.below hx0.below) he
  go_enter Tryd.func33, Tryd.ntmps33
  go_wp2_with fail
  obtain ⟨b0, b1, b2, b3, b4, _⟩ := cells5 hbox
  clear hbox
  generalize w.alloc (.cells #[.int .i64 n.pl, .int .i64 n.lit, .slice ba n.el.length cp, .int .u64 (lo n.le), .int .u64 (hi n.le)] 59) = w1 at *
  try go_wp2_with fail
  refine hq.mono ?_
  rintro e w2 ⟨rfl, B2, hR2, hS2⟩
  have hS : Stp [] B w B2 w2 := (Stp.of_below (X := []) hx0.below).then hS2
  have hsb : B2.sb = B.sb := hS.sb
  obtain ⟨t, t', h1, h2⟩ := nots_two (hR2.below ((Below.refl _ w2).drew)) a b
  obtain ⟨_, _, _, _, _, _, d5⟩ := (hR2.below ((Below.refl _ w2).drew)).cells
  rw [hsb] at d5 h1 h2
  obtain ⟨eA, eAx, eAxB, e1, eAB, eABx, e2, eABy, e3, oA, oAx, oAxB, oAB, oABx, oABy, d1, d2, d3⟩ := h1
  obtain ⟨eA', eAx', eAxB', e1', eAB', eABx', e2', eABy', e3', oA', oAx', oAxB', oAB', oABx', oABy', d1', d2', d3'⟩ := h2
  have d1 := Lib.hid d1
  have d2 := Lib.hid d2
  have d3 := Lib.hid d3
  have d1' := Lib.hid d1'
  have d2' := Lib.hid d2'
  have d3' := Lib.hid d3'
  have hS := Lib.hid hS
  clear hR2 hS2 hq hve hv2 hsm hn he hx0 n0 n1 n2 n3 n4 b0 b1 b2 b3 b4 cn c5 hlk2 h
  go_wp2_with fail
  go_region_law (fail)
  all_goals
    go_wp2_with fail
    go_ret
    first
      | exact ⟨rfl, B2, d1.out.1, hS.out.then ((Stp.of_below (X := []) ((Below.refl _ w2).drew)).then d1.out.2)⟩
      | exact ⟨rfl, B2, d2.out.1, hS.out.then ((Stp.of_below (X := []) ((Below.refl _ w2).drew)).then d2.out.2)⟩
      | exact ⟨rfl, B2, d3.out.1, hS.out.then ((Stp.of_below (X := []) ((Below.refl _ w2).drew)).then d3.out.2)⟩
      | exact ⟨rfl, B2, d1'.out.1, hS.out.then ((Stp.of_below (X := []) ((Below.refl _ w2).drew)).then d1'.out.2)⟩
      | exact ⟨rfl, B2, d2'.out.1, hS.out.then ((Stp.of_below (X := []) ((Below.refl _ w2).drew)).then d2'.out.2)⟩
      | exact ⟨rfl, B2, d3'.out.1, hS.out.then ((Stp.of_below (X := []) ((Below.refl _ w2).drew)).then d3'.out.2)⟩
end Go.Proofs.YtgphkbnoflfneaaDoor
