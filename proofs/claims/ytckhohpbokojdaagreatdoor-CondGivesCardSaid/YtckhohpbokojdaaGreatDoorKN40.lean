import Derived.Test.YtckhohpbokojdaaGreatDoorKN39
set_option linter.unusedSimpArgs false
set_option linter.unusedVariables false
namespace Go.Proofs.YtckhohpbokojdaaGreatDoor
open Go Go.RowKit Go.Shelf
theorem bok_nok {n:Int} {bl:List L.ND} (h:L.BOK n bl):L.NOK n bl:=⟨h.kids,fun x hx=>by
 rcases h.form x hx with e | e | e
 ·exact .inl e
 ·exact .inr (.inl e)
 ·exact .inr (.inr ⟨e.1,e.2.1⟩)⟩
theorem red_facts {n:Int} {nl:List L.ND} (hn:0≤n∧n≤128) (h:L.NOK n nl) (hne:nl≠[]) (hl:nl.length≤65536):L.netChk n ((L.reduceL nl).map L.ofND) = 0∧L.NOK n (L.reduceL nl)∧L.reduceL nl≠[]∧(L.reduceL nl).length≤nl.length∧∀ y∈L.reduceL nl,y.inp.length≤nl.length:=by
 obtain ⟨b1,_,_,b4,b5⟩:=L.reduceL_ok h hne
 have hl0:0 < (L.reduceL nl).length:=List.length_pos_iff.2 b4
 refine ⟨L.nok_net (bok_nok b1) hn (by omega),bok_nok b1,b4,b5,fun y hy=>?_⟩
 obtain ⟨i,hi,rfl⟩:=List.getElem_of_mem hy
 have:=L.bok_inp b1 hi
 omega
theorem nok_of {n:Int} {nl:List L.ND} (hc:L.netChk n (nl.map L.ofND) = 0):L.NOK n nl∧nl≠[]∧(0≤n∧n≤128)∧nl.length≤65536:=by
 have h:=L.net_nok hc
 rw [List.map_map,show (L.toND ∘ L.ofND) = id from funext L.toND_ofND,List.map_id] at h
 obtain ⟨hn,hl,_⟩:=L.netChk_ok.1 hc
 rw [List.length_map] at hl
 exact ⟨h.1,h.2.1,hn,hl.2⟩
theorem map_ne {f:L.ND→L.ND} {nl:List L.ND} (h:nl≠[]):nl.map f≠[]:=fun e=>h (List.map_eq_nil_iff.1 e)
end Go.Proofs.YtckhohpbokojdaaGreatDoor
