import Derived.Test.YtmnjakejhbpkoaaGreatDoorZNew
import Derived.Deep.LoopGhost
import Derived.Laws.EntriesVeiled
set_option linter.unusedSimpArgs false
set_option linter.unusedVariables false
namespace Go.Proofs.YtmnjakejhbpkoaaGreatDoor
open Go Go.RowKit Go.Shelf
theorem ElAt.lens {w:World} {v:Value} {l:List (Nat × Nat)} (h:ElAt w v l):∃ ba c,v = .slice ba l.length c∧∀ k (hk:k < l.length),∃ b o,ba = some ⟨b,o,none⟩∧w.cell? ⟨b,o+k * 2,none⟩ = some (.int .i64 (l[k].1:Nat))∧w.cell? ⟨b,o+k * 2+1,none⟩ = some (.int .i64 (l[k].2:Nat)):=by
 obtain ⟨ba,c,rfl,h⟩:=h
 refine ⟨ba,c,rfl,fun k hk=>?_⟩
 rcases h with ⟨_,e,_⟩ | ⟨b,o,e,hr⟩
 ·rw [e] at hk;simp at hk
 ·exact ⟨b,o,e,hr.off0 k hk⟩
end Go.Proofs.YtmnjakejhbpkoaaGreatDoor
