import Derived.Test.YtgphkbnoflfneaaDoorRep
namespace Go.Proofs.YtgphkbnoflfneaaDoor
open Go Go.RowKit Go.Shelf

/-- the worlds on the ways through 'm[a], m[b] = v, u' that begin with the entry of a -/
structure TwoW where
  wA : World
  wAx : World
  wAxB : World
  f1 : World
  wAB : World
  wABx : World
  f2 : World
  wABy : World
  f3 : World
  p1 : Value
  p3 : Value
  p4 : Value
  s1 : Nat
  s3 : Nat
  s4 : Nat
structure TwoOK (P : Program) (T : TypeId) (mb : Nat) (ka va kb vb : Value) (w : World) (t : TwoW) (Ok Fin : World → Prop) : Prop where
  eA : (Instr.mapEntry T (.map (some mb)) ka).run P w = .ok (.tuple #[t.p1, .int .i64 ((t.s1 : Nat) : Int)]) t.wA
  eAx : (Instr.entryStore T (.map (some mb)) (.int .i64 ((t.s1 : Nat) : Int)) va).run P t.wA = .ok () t.wAx
  eAxB : (Instr.mapEntry T (.map (some mb)) kb).run P t.wAx = .ok (.tuple #[t.p4, .int .i64 ((t.s4 : Nat) : Int)]) t.wAxB
  e1 : (Instr.entryStore T (.map (some mb)) (.int .i64 ((t.s4 : Nat) : Int)) vb).run P t.wAxB = .ok () t.f1
  eAB : (Instr.mapEntry T (.map (some mb)) kb).run P t.wA = .ok (.tuple #[t.p3, .int .i64 ((t.s3 : Nat) : Int)]) t.wAB
  eABx : (Instr.entryStore T (.map (some mb)) (.int .i64 ((t.s1 : Nat) : Int)) va).run P t.wAB = .ok () t.wABx
  e2 : (Instr.entryStore T (.map (some mb)) (.int .i64 ((t.s3 : Nat) : Int)) vb).run P t.wABx = .ok () t.f2
  eABy : (Instr.entryStore T (.map (some mb)) (.int .i64 ((t.s3 : Nat) : Int)) vb).run P t.wAB = .ok () t.wABy
  e3 : (Instr.entryStore T (.map (some mb)) (.int .i64 ((t.s1 : Nat) : Int)) va).run P t.wABy = .ok () t.f3
  oA : Ok t.wA
  oAx : Ok t.wAx
  oAxB : Ok t.wAxB
  oAB : Ok t.wAB
  oABx : Ok t.wABx
  oABy : Ok t.wABy
  d1 : Fin t.f1
  d2 : Fin t.f2
  d3 : Fin t.f3

theorem two_ok {P : Program} {α β : Type} [DecidableEq α] {K E T : TypeId} {enc : α → Value} {encV : β → Value} {w : World} {mb : Nat} {m : α → Option β} (h : MapAt enc encV w mb m) (law : KeyLaw P K enc)
    (hT : P.underlying T = some (.map K E)) (z : Value) (hz : ∀ w, (zeroValue E).run P w = .ok z w) (a b : α) (v u : β) (hab : a = b → v = u) :
    ∃ t, TwoOK P T mb (enc a) (encV v) (enc b) (encV u) w t (But mb w) (fun f => But mb w f ∧ MapAt enc encV f mb (upd (upd m a v) b u)) := by
  obtain ⟨L, clock, hb, hm, hg⟩ := h
  have hL : MapL enc w mb L := ⟨clock, hb, hg⟩
  have fin : ∀ f L', MapL enc f mb L' → But mb w f → (∀ x, lookL L' x = if x = a then some (encV v) else if x = b then some (encV u) else lookL L x) → But mb w f ∧ MapAt enc encV f mb (upd (upd m a v) b u) := by
    intro f L' hf hB hl
    obtain ⟨c', hb', hg'⟩ := hf
    refine ⟨hB, L', c', hb', fun x => ?_, hg'⟩
    have := hl x
    unfold lookL at this
    rw [this, hm x]
    unfold upd
    by_cases h1 : x = b
    · by_cases h2 : x = a
      · have := hab (h2.symm.trans h1)
        simp [h1, this]
      · simp [h1, show b ≠ a from h1 ▸ h2]
    · by_cases h2 : x = a
      · simp [h2, show a ≠ b from h2 ▸ h1]
      · simp [h1, h2]
  obtain ⟨p1, s1, wA, LA, eA, mA, oA, nA, lA, kA⟩ := ent_run hL law hT z hz a
  obtain ⟨wAx, LAx, eAx, mAx, oAx, lAx, kAx⟩ := store_run (T := T) mA nA (encV v)
  obtain ⟨p4, s4, wAxB, LAxB, eAxB, mAxB, oAxB, nAxB, lAxB, kAxB⟩ := ent_run mAx law hT z hz b
  obtain ⟨f1, L1, e1, m1, o1, l1, k1⟩ := store_run (T := T) mAxB nAxB (encV u)
  obtain ⟨p3, s3, wAB, LAB, eAB, mAB, oAB, nAB, lAB, kAB⟩ := ent_run mA law hT z hz b
  obtain ⟨wABx, LABx, eABx, mABx, oABx, lABx, kABx⟩ := store_run (T := T) mAB (kAB _ _ nA) (encV v)
  obtain ⟨f2, L2, e2, m2, o2, l2, k2⟩ := store_run (T := T) mABx (kABx _ _ nAB) (encV u)
  obtain ⟨wABy, LABy, eABy, mABy, oABy, lABy, kABy⟩ := store_run (T := T) mAB nAB (encV u)
  obtain ⟨f3, L3, e3, m3, o3, l3, k3⟩ := store_run (T := T) mABy (kABy _ _ (kAB _ _ nA)) (encV v)
  refine ⟨⟨wA, wAx, wAxB, f1, wAB, wABx, f2, wABy, f3, p1, p3, p4, s1, s3, s4⟩, ⟨eA, eAx, eAxB, e1, eAB, eABx, e2, eABy, e3, oA, oA.trans oAx, (oA.trans oAx).trans oAxB, oA.trans oAB, (oA.trans oAB).trans oABx, (oA.trans oAB).trans oABy,
    fin f1 L1 m1 (((oA.trans oAx).trans oAxB).trans o1) fun x => ?_, fin f2 L2 m2 (((oA.trans oAB).trans oABx).trans o2) fun x => ?_, fin f3 L3 m3 (((oA.trans oAB).trans oABy).trans o3) fun x => ?_⟩⟩
  · rw [l1]
    by_cases h1 : x = b
    · by_cases h2 : x = a
      · rw [if_pos h1, if_pos h2, hab (h2.symm.trans h1)]
      · rw [if_pos h1, if_neg h2, if_pos h1]
    · rw [if_neg h1, lAxB x h1, lAx]
      by_cases h2 : x = a
      · rw [if_pos h2]
        first | done | rw [if_pos h2]
      · rw [if_neg h2, if_neg h2, if_neg h1, lA x h2]
  · rw [l2]
    by_cases h1 : x = b
    · by_cases h2 : x = a
      · rw [if_pos h1, if_pos h2, hab (h2.symm.trans h1)]
      · rw [if_pos h1, if_neg h2, if_pos h1]
    · rw [if_neg h1, lABx]
      by_cases h2 : x = a
      · rw [if_pos h2]
        first | done | rw [if_pos h2]
      · rw [if_neg h2, if_neg h2, if_neg h1, lAB x h1, lA x h2]
  · rw [l3]
    by_cases h2 : x = a
    · rw [if_pos h2]
      first | done | rw [if_pos h2]
    · rw [if_neg h2, if_neg h2, lABy]
      by_cases h1 : x = b
      · rw [if_pos h1]
        first | done | rw [if_pos h1]
      · rw [if_neg h1, if_neg h1, lAB x h1, lA x h2]

theorem upd_comm {α β : Type} [DecidableEq α] (m : α → Option β) (a b : α) (v u : β) (h : a = b → v = u) : upd (upd m a v) b u = upd (upd m b u) a v := by
  funext x
  unfold upd
  by_cases h1 : x = b
  · by_cases h2 : x = a
    · simp [h1, h (h2.symm.trans h1)]
    · simp [h1, show b ≠ a from h1 ▸ h2]
  · by_cases h2 : x = a
    · simp [h2, show a ≠ b from h2 ▸ h1]
    · simp [h1, h2]

/-- the store behind 's.nots[a], s.nots[b] = b, a' -/
theorem Rep.nots2 {B : Blks} {s : St} {w f : World} (h : Rep B s w) (a b v u : Nat) (hf : But B.mb w f ∧ MapAt encNat encNat f B.mb (upd (upd (asc s.nots) a v) b u)) :
    Rep B { s with nots := (b, u) :: (a, v) :: s.nots } f ∧ Stp [] B w B f := by
  obtain ⟨hB, hm⟩ := hf
  obtain ⟨a1, a2, a3, _⟩ := h.apart
  refine ⟨h.but_map (.inr (.inr rfl)) hB.1 (h.uniq.same (hB.1 _ a2)) (h.ands.same (hB.1 _ a3)) (by rw [asc_cons, asc_cons]; exact hm), ?_⟩
  refine ⟨⟨hB.2.2.1, hB.2.2.2.1, hB.2.2.2.2.1, by rw [hB.2.1]; exact Nat.le_refl _, fun k hk hM => hB.1 k (fun e => hM (by simp [Blks.mut, e]))⟩, rfl, fun _ h => .inl h, fun _ h => .inl h⟩
end Go.Proofs.YtgphkbnoflfneaaDoor
