import Derived.Test.YtgphkbnoflfneaaDoorAnd5
namespace Go.Proofs.YtgphkbnoflfneaaDoor
open Go Go.RowKit Go.Shelf

theorem andOrd_law {nf : St → Nat → Option (Nat × St)} {af : St → Nat → Nat → Option (Nat × St)} (hn : NotsLaw nf) (ih : AndsLaw af) {B : Blks} {s s' : St} {w : World} {x y a b r : Nat} (h : Rep B s w) (ho : Ord2 x y a b) (he : andOrd nf af s a b = some (r, s')) :
    Calls Tryd.prog 36 #[.pointer (some ⟨B.sb, 0, none⟩), .int .i64 x, .int .i64 y] w (RetStp [] (.int .i64 r) B s' w) := by
  unfold andOrd at he
  split at he
  · rename_i hc
    cases he
    exact and_triv h ho hc
  rename_i hc
  have ha0 : a ≠ 0 := fun e => hc (.inl e)
  have hab : a ≠ b := fun e => hc (.inr e)
  split at he
  · rename_i h1
    cases he
    subst h1
    exact and_one h ho (fun e => hab e.symm)
  rename_i ha1
  split at he
  · cases he
  rename_i na s1 hna
  split at he
  · rename_i h2
    cases he
    subst h2
    exact and_neg hn h ho ha0 hab ha1 hna
  rename_i hnb
  split at he
  · rename_i c hc2
    cases he
    exact and_hit hn h ho ha0 hab ha1 hna hnb hc2
  · rename_i hc2
    exact and_new hn ih h ho ha0 hab ha1 hna hnb hc2 he
theorem andF_law (f : Nat) : AndsLaw (andF f) := by
  induction f with
  | zero => intro B s s' w a b r h he; cases he
  | succ f ih =>
    intro B s s' w a b r h he
    unfold andF at he
    split at he
    · rename_i hc
      exact andOrd_law (notF_law f) ih h (.inl ⟨hc, rfl, rfl⟩) he
    · rename_i hc
      exact andOrd_law (notF_law f) ih h (.inr ⟨hc, rfl, rfl⟩) he
end Go.Proofs.YtgphkbnoflfneaaDoor
