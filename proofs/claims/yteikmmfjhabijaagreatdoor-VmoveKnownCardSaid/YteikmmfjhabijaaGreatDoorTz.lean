import Derived.Test.YteikmmfjhabijaaGreatDoorBase
import Derived.Test.YteikmmfjhabijaaGreatDoorShelf2
set_option linter.unusedSimpArgs false
set_option linter.unusedVariables false
namespace Go.Proofs.YteikmmfjhabijaaGreatDoor
open Go Go.RowKit Go.Shelf

/-- the table of trailing zeros lies in its variable -/
def TzTab (w : World) : Prop := TabAt 3 Lib.deBruijn64tab w
theorem TzTab.below {n : Nat} {w w' : World} (h : TzTab w) (hn : 3 < n) (hb : Below n w w') : TzTab w' :=
  fun j hj => (hb.cell (p := ⟨3, j, none⟩) hn).trans (h j hj)
theorem TzTab.lt {w : World} (h : TzTab w) : 3 < w.heap.size :=
  World.block_lt_of_cell? w _ (h 0 (by decide))
theorem TzTab.ext {w w' : World} (h : TzTab w) (hb : Ext w w') : TzTab w' := h.below h.lt hb.below

theorem tz_any (x : Nat) (hx : x < 18446744073709551616) (w : World) (hT : TzTab w) :
    Calls Tryz.prog 197 #[.int .u64 x] w fun e w' => e = .returned (.int .i64 (Lib.ctz 64 x)) ∧ w = w' :=
  (Any7.bits_TrailingZeros64 Tryz.laysTz x hx w (fun _ => hT)).mono fun _ _ ⟨he, hw⟩ => ⟨he, hw.symm⟩
theorem ctz_lt (x : Nat) (h0 : x ≠ 0) (h : x < 2 ^ 64) : Lib.ctz 64 x < 64 := (Lib.lowest_bit 64 x h0 h).2
end Go.Proofs.YteikmmfjhabijaaGreatDoor
