import Derived.Test.YtgphkbnoflfneaaDoorSpread
import Derived.Test.YtgphkbnoflfneaaDoorSddF3
namespace Go.Proofs.YtgphkbnoflfneaaDoor
open Go Go.RowKit Go.Shelf

def AndsLaw (g : St → Nat → Nat → Option (Nat × St)) : Prop := ∀ (B : Blks) (s s' : St) (w : World) (a b r : Nat), Rep B s w → g s a b = some (r, s') →
  Calls Tryd.prog 36 #[.pointer (some ⟨B.sb, 0, none⟩), .int .i64 a, .int .i64 b] w (RetStp [] (.int .i64 r) B s' w)
def OrLaw (g : St → Nat → Nat → Option (Nat × St)) : Prop := ∀ (B : Blks) (s s' : St) (w : World) (a b r : Nat), Rep B s w → g s a b = some (r, s') →
  Calls Tryd.prog 39 #[.pointer (some ⟨B.sb, 0, none⟩), .int .i64 a, .int .i64 b] w (RetStp [] (.int .i64 r) B s' w)

set_option maxRecDepth 100000 in
set_option maxHeartbeats 1000000 in
theorem orF_law {nf : St → Nat → Option (Nat × St)} {af : St → Nat → Nat → Option (Nat × St)} (hn : NotsLaw nf) (ha : AndsLaw af) : OrLaw (orF nf af) := by
  intro B s s' w a b r h he
  unfold orF at he
  split at he
  · cases he
  · rename_i x s1 h1
    split at he
    · cases he
    · rename_i y s2 h2
      split at he
      · cases he
      · rename_i z s3 h3
        have c1 := hn B s s1 w a x h h1
        replace h1 := Lib.hid h1
        replace h2 := Lib.hid h2
        replace h3 := Lib.hid h3
        replace he := Lib.hid he
        go_enter Tryd.func39, Tryd.ntmps39
        go_wp2_with fail
        refine c1.mono ?_
        rintro e w1 ⟨rfl, B1, hR1, hS1⟩
        have c2 := hn B1 s1 s2 w1 b y hR1 h2.out
        rw [hS1.sb] at c2
        replace hR1 := Lib.hid hR1
        go_wp2_with fail
        refine c2.mono ?_
        rintro e w2 ⟨rfl, B2, hR2, hS2⟩
        have c3 := ha B2 s2 s3 w2 x y z hR2 h3.out
        rw [hS2.sb, hS1.sb] at c3
        replace hR2 := Lib.hid hR2
        go_wp2_with fail
        refine c3.mono ?_
        rintro e w3 ⟨rfl, B3, hR3, hS3⟩
        have c4 := hn B3 s3 s' w3 z r hR3 he.out
        rw [hS3.sb, hS2.sb, hS1.sb] at c4
        replace hR3 := Lib.hid hR3
        go_wp2_with fail
        refine c4.mono ?_
        rintro e w4 ⟨rfl, B4, hR4, hS4⟩
        replace hR4 := Lib.hid hR4
        go_wp2_with fail
        go_ret
        exact ⟨rfl, B4, hR4.out, ((hS1.then hS2).then hS3).then hS4⟩
end Go.Proofs.YtgphkbnoflfneaaDoor
