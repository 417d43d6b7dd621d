import Derived.Test.YtgphkbnoflfneaaDoorText3
namespace Go.Proofs.YtgphkbnoflfneaaDoor
open Go Go.RowKit Go.Shelf

theorem writeF_law {B : Blks} {s : St} {w0 : World} {pm : Nat} (h : Rep B s w0) (f : Nat) : WrLaw s w0 pm B.sb (writeF f s.nodes) := by
  induction f with
  | zero => intro a m m' wr _ he; cases he
  | succ f ih =>
    intro a m m' wr hC he
    unfold writeF at he
    split at he
    · rename_i t ht
      cases he
      exact write_hit (s := s) hC ht
    · rename_i hm
      split at he
      · cases he
      · rename_i n hn
        split at he
        · rename_i hel
          cases he
          exact write_leaf h hC hm hn hel
        · rename_i hel
          split at he
          · cases he
          · rename_i m1 z hw
            split at he
            · rename_i hc
              cases he
              exact write_inner h ih hC hm hn hel hw hc.1 hc.2.1 hc.2.2
            · cases he

/-- Text, on data -/
def textF (f : Nat) (ns : List SNode) (a : Nat) : Option (List UInt8) := match writeF f ns a [] with
  | none => none
  | some m => some (ascT m a)

set_option maxRecDepth 100000 in
set_option maxHeartbeats 4000000 in
theorem text_any {B : Blks} {s : St} {w : World} {a f : Nat} {t : List UInt8} (h : Rep B s w) (ht : s.tree ≠ []) (ha : a < s.nodes.length) (he : textF f s.nodes a = some t) :
    Calls Tryd.prog 16 #[.pointer (some ⟨B.sb, 0, none⟩), .int .i64 a] w fun e w' => e = .returned (.tuple #[.string ⟨t.toArray⟩, .int .i64 0]) ∧ Below w.heap.size w w' := by
  unfold textF at he
  split at he
  · cases he
  rename_i m hm
  simp only [Option.some.injEq] at he
  have hch : chkF s.nodes.length [(a : Int)] = 0 := by simp [chkF, ha]
  have hmm : ∀ w, (Instr.makeMap 72 none).run Tryd.prog w = .ok (.map (some w.heap.size)) (w.alloc (.map #[] 0)) := fun w => rfl
  replace hch := Lib.hid hch
  replace hm := Lib.hid hm
  replace he := Lib.hid he
  have hx1 := (Ext.refl w).alloc (.cells #[.int .i64 a] 3)
  have hz1 := heap_alloc_new w (.cells #[.int .i64 a] 3)
  go_enter Tryd.func16, Tryd.ntmps16
  go_wp2_with fail
  generalize w.alloc (.cells #[.int .i64 a] 3) = w1 at *
  have hR1 := h.below hx1.below
  have hq := sck_any hR1 ht (slI_one hz1) (by simp)
  rw [hch.out] at hq
  clear hz1
  refine hq.mono ?_
  rintro e w2 ⟨rfl, rfl⟩
  have hb2 : Below w1.heap.size w1 (w1.alloc (.map #[] 0)) := (Below.refl _ w1).alloc (Nat.le_refl _) _
  have hC : WrC w1 w1.heap.size [] (w1.alloc (.map #[] 0)) := ⟨hb2, mapNew _ _ _, Nat.le_refl _⟩
  have hq2 := writeF_law (pm := w1.heap.size) hR1 f a [] m _ hC hm.out
  replace hR1 := Lib.hid hR1
  replace hC := Lib.hid hC
  clear hq
  go_wp2_with fail
  refine hq2.mono ?_
  rintro e w3 ⟨rfl, hC3, hS3⟩
  have hlk := hC3.look1 a
  rw [he.out] at hlk
  go_wp2_with fail
  go_ret2
  exact ⟨rfl, hx1.below.trans (hC3.below.mono hx1.size)⟩
end Go.Proofs.YtgphkbnoflfneaaDoor
