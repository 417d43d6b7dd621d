import Derived.Test.YtckhohpbokojdaaGreatDoorGN39
set_option linter.unusedSimpArgs false
set_option linter.unusedVariables false
namespace Go.Proofs.YtckhohpbokojdaaGreatDoor
open Go Go.RowKit Go.Shelf
theorem bok_nok {n:Int} {bl:List L.ND} (h:L.BOK n bl):L.NOK n bl:=⟨h.kids,fun x hx=>by
 rcases h.form x hx with e | e | e
 ·exact .inl e
 ·exact .inr (.inl e)
 ·exact .inr (.inr ⟨e.1,e.2.1⟩)⟩
theorem red_facts {n:Int} {nl:List L.ND} (hn:0≤n∧n≤128) (h:L.NOK n nl) (hne:nl≠[]) (hl:nl.length≤65536):L.netChk n ((L.reduceL nl).map L.ofND) = 0∧L.NOK n (L.reduceL nl)∧L.reduceL nl≠[]∧(L.reduceL nl).length≤nl.length∧∀ y∈L.reduceL nl,y.inp.length≤nl.length:=by
 obtain ⟨b1,_,_,b4,b5⟩:=L.reduceL_ok h hne
 have hl0:0 < (L.reduceL nl).length:=List.length_pos_iff.2 b4
 refine ⟨L.nok_net (bok_nok b1) hn (by omega),bok_nok b1,b4,b5,fun y hy=>?_⟩
 obtain ⟨i,hi,rfl⟩:=List.getElem_of_mem hy
 have:=L.bok_inp b1 hi
 omega
theorem nok_of {n:Int} {nl:List L.ND} (hc:L.netChk n (nl.map L.ofND) = 0):L.NOK n nl∧nl≠[]∧(0≤n∧n≤128)∧nl.length≤65536:=by
 have h:=L.net_nok hc
 rw [List.map_map,show (L.toND ∘ L.ofND) = id from funext L.toND_ofND,List.map_id] at h
 obtain ⟨hn,hl,_⟩:=L.netChk_ok.1 hc
 rw [List.length_map] at hl
 exact ⟨h.1,h.2.1,hn,hl.2⟩
theorem term_abs {n:Int} {t:List Int} (hn:n≤128) (h:L.TermL n t):∀ z∈t,1≤z.natAbs∧z.natAbs≤128:=fun z hz=>by
 have:=L.validB_range hn (h z hz).1
 omega
theorem map_ne {f:L.ND→L.ND} {nl:List L.ND} (h:nl≠[]):nl.map f≠[]:=fun e=>h (List.map_eq_nil_iff.1 e)
theorem giv_law {n:Int} {nl:List L.ND} {t:List Int} (hc:L.netChk n (nl.map L.ofND) = 0) (hT:L.TermL n t) (a:VSet) :
  L.tv (L.reduceL (nl.map (L.givND t))) (L.asg a) ((L.reduceL (nl.map (L.givND t))).length - 1) = L.tv nl (L.asg (madeS a t)) (nl.length - 1):=by
 obtain ⟨h,hne,hn,hl⟩:=nok_of hc
 have hl0:0 < nl.length:=List.length_pos_iff.2 hne
 rw [L.reduceL_true (L.map_nok h _ (L.givND_or t)) (map_ne hne),List.length_map,L.giv_true h hT _ _ _ (Nat.le_refl _) (by omega)]
 congr 1
 exact (madeS_law t a (term_abs hn.2 hT)).symm
theorem giv_free {n:Int} {nl:List L.ND} {t:List Int} (hc:L.netChk n (nl.map L.ofND) = 0) (hT:L.TermL n t) {i:Nat} (hi:i < (L.reduceL (nl.map (L.givND t))).length) {z:Int} (hz:z∈t):hasS (L.vset (L.reduceL (nl.map (L.givND t))) i) (varF z) = false:=by
 obtain ⟨h,hne,hn,hl⟩:=nok_of hc
 have hm:=L.map_nok h _ (L.givND_or t)
 obtain ⟨b1,_⟩:=L.reduceL_ok hm (map_ne hne)
 cases hh:hasS (L.vset (L.reduceL (nl.map (L.givND t))) i) (varF z) with
 | false=>rfl
 | true =>
   obtain ⟨l,hl1,hl2⟩:=L.vset_lits b1.kids _ i (Nat.le_refl _) hi hh
   have hl3:=L.giv_lits (L.reduceL_lits hm (map_ne hne) l hl1)
   have hv:=term_abs hn.2 hT z hz
   rw [varF_abs (by omega)] at hl2
   have:l = z∨l = -z:=by omega
   rcases this with rfl | rfl
   ·exact absurd hz hl3.2.1
   ·exact absurd (by rw [Int.neg_neg];exact hz) hl3.2.2
end Go.Proofs.YtckhohpbokojdaaGreatDoor
