import Derived.Test.YteikmmfjhabijaaGreatDoorUSem
set_option linter.unusedSimpArgs false
set_option linter.unusedVariables false
namespace Go.Proofs.YteikmmfjhabijaaGreatDoor
open Go Go.RowKit Go.Shelf
theorem leaf_none {t:List VN} {v:Nat} (h:¬ ∃ (u:Nat) (y:VN),t[u]? = some y∧y.left < 0∧y.var = (v:Int)):leafAt t v = none:=by
 unfold leafAt
 rw [List.findIdx?_eq_none_iff]
 intro x hx
 obtain ⟨u,hu,rfl⟩:=List.getElem_of_mem hx
 cases hb:(decide (t[u].left < 0) && decide (t[u].var = (v:Int)))
 ·rfl
 ·simp only [Bool.and_eq_true,decide_eq_true_eq] at hb
  exact absurd ⟨u,_,List.getElem?_eq_getElem hu,hb.1,hb.2⟩ h
theorem litbad_v {t:List VN} {B0:Blks} {w0 w:World} {k:Nat} {s:St} {l:Int} (h:SS t B0 w0 k s w) (hl:¬ VarOf t (l.natAbs:Int)) :
  Calls Tryz.prog 34 #[.pointer (some ⟨B0.sb,0,none⟩),.int .i64 l] w fun e w'=>e = .returned (.tuple #[.int .i64 0,.int .i64 1])∧Below w.heap.size w w':=by
 obtain ⟨B,hR,hS⟩:=h.held
 rw [←hS.sb]
 have hv0:0≤varF l:=by unfold varF;split <;> (try split) <;> omega
 obtain ⟨v,hv⟩:∃ v:Nat,varF l = v:=⟨(varF l).toNat,by omega⟩
 have hno:leafAt s.tree v = none:=leaf_none fun ⟨u,y,h1,h2,h3⟩=>by
  rw [h.tree] at h1
  have hul:=(List.getElem?_eq_some_iff.1 h1).1
  have hlf:leafB y = true:=by
   cases hb:leafB y
   ·obtain ⟨l',r',e1,_⟩:=L.inner_ok h.chk h1 hb
    omega
   ·rfl
  have hr:1≤y.var∧y.var≤128:=by
   simp only [leafB,Bool.and_eq_true,decide_eq_true_eq] at hlf
   exact hlf.2
  refine hl ⟨u,y,h1,hlf,?_⟩
  rw [h3,←hv]
  have:varF l≠0:=by omega
  unfold varF at this ⊢
  split <;> rename_i c1
  ·omega
  ·rw [if_neg c1] at this
   split <;> rename_i c2
   ·omega
   ·rw [if_neg c2] at this;exact absurd rfl this
 have:=lit_bad hR h.ne hv hno
 refine this.mono ?_
 rintro e w' ⟨rfl,hx⟩
 exact ⟨rfl,hx.below⟩
end Go.Proofs.YteikmmfjhabijaaGreatDoor
