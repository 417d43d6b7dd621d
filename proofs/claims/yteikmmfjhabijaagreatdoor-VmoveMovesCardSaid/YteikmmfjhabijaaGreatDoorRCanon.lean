import Derived.Test.YteikmmfjhabijaaGreatDoorRFree
import Derived.Test.YteikmmfjhabijaaGreatDoorRLaw3
set_option linter.unusedSimpArgs false
set_option linter.unusedVariables false
namespace Go.Proofs.YteikmmfjhabijaaGreatDoor
open Go Go.RowKit Go.Shelf
def KeepR (B0:Blks) (w0:World) (ba:Option Addr) (vs:List Value):Prop:=vs = []∨∃ b o,ba = some ⟨b,o,none⟩∧b∉B0.mut∧∀ j (hj:j < vs.length),w0.cell? ⟨b,o+j,none⟩ = some vs[j]
theorem KeepR.at {t:List VN} {B0:Blks} {w0 w:World} {k:Nat} {s:St} {ba:Option Addr} {vs:List Value} (h:KeepR B0 w0 ba vs) (hS:SS t B0 w0 k s w) {j:Nat} (hj:j < vs.length):∃ b o,ba = some ⟨b,o,none⟩∧w.cell? ⟨b,o+j,none⟩ = some vs[j]:=by
 rcases h with rfl | ⟨b,o,rfl,hm,hc⟩
 ·simp at hj
 ·exact ⟨b,o,rfl,hS.cell (hc j hj) hm⟩
end Go.Proofs.YteikmmfjhabijaaGreatDoor
namespace Go.Proofs.YteikmmfjhabijaaGreatDoor
open Go Go.RowKit Go.Shelf
theorem own_keep {w w':World} {v:Value} {l:List Int} {B:Blks} {s:St} (h:w'.ownsRow w.heap.size 3 1 v l.length (l.map encZ)) (hR:Rep B s w'):∃ ba cp,v = .slice ba l.length cp∧KeepR B w' ba (l.map encZ):=by
 cases hl0:l with
 | nil =>
   rw [hl0] at h
   obtain ⟨ba,cp,e,_⟩:=owns_slI h
   exact ⟨ba,cp,e,.inl rfl⟩
 | cons x0 l0 =>
   rw [←hl0]
   obtain ⟨g,cp,e,hge,hc⟩:=own_open h (by rw [hl0];simp)
   refine ⟨_,cp,e,.inr ⟨g,0,rfl,fun hcm=>?_,fun j hj=>?_⟩⟩
   ·obtain ⟨c,hgh⟩:=(own_lt h (k:=g) (by rw [e];rfl)).2
    exact hR.not_mut hgh (by decide) (by decide) hcm
   ·have h1:=hc j _ (List.getElem?_eq_getElem hj)
    have hadd:(⟨g,0,none⟩:Addr).add j = ⟨g,j,none⟩:=by unfold Addr.add;split <;> simp_all
    rw [hadd] at h1
    rw [Nat.zero_add];exact h1
theorem vars_few {t:List VN} (hc:checkF t = 0) (h11:t.length≤11):∃ l,varsR t = some l∧l.length≤6∧L.SortedBel t (t.length - 1) l∧∀ v∈l,VarOf t v:=by
 obtain ⟨l,h1,h2⟩:=L.varsR_spec hc
 have h0:=(check_ok hc).1
 have h3:=h2.len hc (by omega)
 have h4:=L.nv_le hc (v:=t.length - 1) (by omega)
 refine ⟨l,h1,by omega,h2,fun v hv=>?_⟩
 obtain ⟨u,y,a1,a2,a3,_⟩:=(h2.mem v).1 hv
 exact ⟨u,y,a1,a2,a3⟩
end Go.Proofs.YteikmmfjhabijaaGreatDoor
