import Derived.Test.YteikmmfjhabijaaGreatDoorQBase
import Derived.Deep.RegionHeld3
set_option linter.unusedSimpArgs false
set_option linter.unusedVariables false
namespace Go.Proofs.YteikmmfjhabijaaGreatDoor
open Go Go.RowKit
theorem takeL {P : Program} {l : List Oper} {md : Region.Mode} {Q : Exit → Act → World → Prop} {S : World → Prop} {i : Nat} {oi : Oper} {v : Value} {fuel : Nat} {listed : Array Bool} {a : Act} {w : World} (hi : l[i]? = some oi)
  (hs : Region.noSelect l.toArray = true) (hf : Region.free md l.toArray listed i = true) (hr : (Region.ready md l.toArray listed).contains i = true)
  (hQ : ∀ c a w,Q (.panic c) (a.put oi.dst v) w → Q (.panic c) a w) (hy : YieldsIf P l.toArray S oi v a) (hS : S w)
  (h : wpAnyH P md l.toArray Q S fuel (listed.setIfInBounds i true) (a.put oi.dst v) w) : wpAnyH P md l.toArray Q S (fuel + 1) listed a w :=
 wpAnyH_take (by simpa using hi) hs hf hr hQ hy hS h
theorem consL {P : Program} {l : List Oper} {md : Region.Mode} {Q : Exit → Act → World → Prop} {S : World → Prop} {fuel : Nat} {listed : Array Bool} {a : Act} {w : World} {i : Nat} {o : Oper} (ho : l[i]? = some o)
  (h : ∀ K' : Act → World → Prop,Shut (∀ a w,S w → (S w → wpAnyH P md l.toArray Q S fuel (listed.setIfInBounds i true) a w) → K' a w) → if Region.wanted o (yielded l.toArray a.tmps) = true then Oper.wp P o a w K' Q else K' (a.put o.dst undef) w)
  : AllReadyH P md l.toArray Q S fuel listed a w [i] := AllReadyH.cons (by simpa using ho) h AllReadyH.nil
theorem consL2 {P : Program} {l : List Oper} {md : Region.Mode} {Q : Exit → Act → World → Prop} {S : World → Prop} {fuel : Nat} {listed : Array Bool} {a : Act} {w : World} {i j : Nat} {o p : Oper} (ho : l[i]? = some o) (hp : l[j]? = some p)
  (h : ∀ K' : Act → World → Prop,Shut (∀ a w,S w → (S w → wpAnyH P md l.toArray Q S fuel (listed.setIfInBounds i true) a w) → K' a w) → if Region.wanted o (yielded l.toArray a.tmps) = true then Oper.wp P o a w K' Q else K' (a.put o.dst undef) w)
  (h' : ∀ K' : Act → World → Prop,Shut (∀ a w,S w → (S w → wpAnyH P md l.toArray Q S fuel (listed.setIfInBounds j true) a w) → K' a w) → if Region.wanted p (yielded l.toArray a.tmps) = true then Oper.wp P p a w K' Q else K' (a.put p.dst undef) w) :
  AllReadyH P md l.toArray Q S fuel listed a w [i,j] := AllReadyH.cons (by simpa using ho) h (AllReadyH.cons (by simpa using hp) h' AllReadyH.nil)
end Go.Proofs.YteikmmfjhabijaaGreatDoor
