import Derived.Test.YtckhohpbokojdaaGreatDoorKN40
set_option linter.unusedSimpArgs false
set_option linter.unusedVariables false
namespace Go.Proofs.YtckhohpbokojdaaGreatDoor
open Go Go.RowKit Go.Shelf
theorem given_err {n:Int} {C:List L.Gt} {t:List Int} {v tv:Value} {w:World} (hv:SlC w v C) (hl:C.length≤80) (h2:∀ g∈C,g.inp.length≤20) (ht:SlI w tv t) (htl:t.length≤300) (hno:¬ (L.netChk n C = 0∧L.TermL n t)) :
  Calls Tryz.prog 13 #[.agg #[.int .i64 n,v],tv] w fun e w'=>e = .returned (.tuple #[.agg #[.int .i64 0,.slice none 0 0],.int .i64 1])∧Below w.heap.size w w':=by
 by_cases hc:L.netChk n C = 0
 ·exact given_no hv hc (by omega) (fun g hg=>by have:=h2 g hg;omega) ht (by omega) (fun h=>hno ⟨hc,h⟩)
 ·exact condgiven_bad hv hc (by omega) (fun g hg=>by have:=h2 g hg;omega)
theorem light_parts {C:List L.Gt} (h:lightN C = true):C.length≤80∧∀ g∈C,g.inp.length≤20:=by
 unfold lightN at h
 rw [Bool.and_eq_true,decide_eq_true_eq] at h
 exact ⟨h.2,fun g hg=>by have:=List.all_eq_true.1 h.1 g hg;simpa using this⟩
theorem nodes_of {n:Int} {C:List L.Gt} (hc:L.netChk n C = 0):∃ nl:List L.ND,C = nl.map L.ofND∧nl.length = C.length∧∀ y∈nl,∃ g∈C,g.inp.length = y.inp.length:=by
 refine ⟨C.map L.toND,(L.net_nok hc).2.2.symm,List.length_map ..,fun y hy=>?_⟩
 obtain ⟨g,hg,rfl⟩:=List.mem_map.1 hy
 exact ⟨g,hg,(by unfold L.toND;simp)⟩
end Go.Proofs.YtckhohpbokojdaaGreatDoor
