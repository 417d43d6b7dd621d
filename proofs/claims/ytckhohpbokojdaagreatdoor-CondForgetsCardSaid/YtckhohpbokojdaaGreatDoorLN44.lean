import Derived.Test.YtckhohpbokojdaaGreatDoorLN39
section
set_option linter.unusedSimpArgs false
set_option linter.unusedVariables false
namespace Go.Proofs.YtckhohpbokojdaaGreatDoor
open Go Go.RowKit Go.Shelf
theorem bok_nok {n:Int} {bl:List L.ND} (h:L.BOK n bl):L.NOK n bl:=⟨h.kids,fun x hx=>by
 rcases h.form x hx with e | e | e
 ·exact .inl e
 ·exact .inr (.inl e)
 ·exact .inr (.inr ⟨e.1,e.2.1⟩)⟩
theorem red_facts {n:Int} {nl:List L.ND} (hn:0≤n∧n≤128) (h:L.NOK n nl) (hne:nl≠[]) (hl:nl.length≤65536):L.netChk n ((L.reduceL nl).map L.ofND) = 0∧L.NOK n (L.reduceL nl)∧L.reduceL nl≠[]∧(L.reduceL nl).length≤nl.length∧∀ y∈L.reduceL nl,y.inp.length≤nl.length:=by
 obtain ⟨b1,_,_,b4,b5⟩:=L.reduceL_ok h hne
 have hl0:0 < (L.reduceL nl).length:=List.length_pos_iff.2 b4
 refine ⟨L.nok_net (bok_nok b1) hn (by omega),bok_nok b1,b4,b5,fun y hy=>?_⟩
 obtain ⟨i,hi,rfl⟩:=List.getElem_of_mem hy
 have:=L.bok_inp b1 hi
 omega
theorem nok_of {n:Int} {nl:List L.ND} (hc:L.netChk n (nl.map L.ofND) = 0):L.NOK n nl∧nl≠[]∧(0≤n∧n≤128)∧nl.length≤65536:=by
 have h:=L.net_nok hc
 rw [List.map_map,show (L.toND ∘ L.ofND) = id from funext L.toND_ofND,List.map_id] at h
 obtain ⟨hn,hl,_⟩:=L.netChk_ok.1 hc
 rw [List.length_map] at hl
 exact ⟨h.1,h.2.1,hn,hl.2⟩
theorem map_ne {f:L.ND→L.ND} {nl:List L.ND} (h:nl≠[]):nl.map f≠[]:=fun e=>h (List.map_eq_nil_iff.1 e)
end Go.Proofs.YtckhohpbokojdaaGreatDoor
end
section
set_option linter.unusedSimpArgs false
set_option linter.unusedVariables false
namespace Go.Proofs.YtckhohpbokojdaaGreatDoor
open Go Go.RowKit Go.Shelf
theorem and_zero {a b:VSet}:a &&& b = 0↔∀ v,¬ (hasS a v = true∧hasS b v = true):=by
 constructor
 ·intro h v hv
  have h1:hasS (a &&& b) v = true:=by rw [hasS_and,hv.1,hv.2];rfl
  rw [h,L.hasS_zero] at h1
  cases h1
 ·intro h
  refine BitVec.eq_of_getLsbD_eq fun i hi=>?_
  have h1:=h ((i:Int)+1)
  unfold hasS at h1
  have e:(((i:Int)+1) - 1).toNat = i:=by omega
  have d1:decide (1≤(i:Int)+1) = true:=decide_eq_true (by omega)
  have d2:decide ((i:Int)+1≤128) = true:=decide_eq_true (by omega)
  rw [e,d1,d2] at h1
  rw [BitVec.getLsbD_and]
  cases ha:a.getLsbD i <;> cases hb:b.getLsbD i <;> simp_all
theorem sepF_iff (f:Nat→VSet):∀ (l:List Nat) (s:VSet),sepF f l s = true↔(∀ k∈l,∀ v,¬ (hasS s v = true∧hasS (f k) v = true))∧l.Pairwise fun a b=>∀ v,¬ (hasS (f a) v = true∧hasS (f b) v = true)
 | [],s=>by simp [sepF]
 | k :: l,s=>by
   rw [sepF,Bool.and_eq_true,decide_eq_true_eq,and_zero,sepF_iff f l,List.pairwise_cons]
   constructor
   ·rintro ⟨h1,h2,h3⟩
    refine ⟨fun j hj v hv=>?_,fun j hj v hv=>?_,h3⟩
    ·rcases List.mem_cons.1 hj with rfl | hj
     ·exact h1 v hv
     ·exact h2 j hj v ⟨by rw [L.hasS_or,hv.1];rfl,hv.2⟩
    ·exact h2 j hj v ⟨by rw [L.hasS_or,hv.1];simp,hv.2⟩
   ·rintro ⟨h1,h2,h3⟩
    refine ⟨h1 k (List.mem_cons_self ..),fun j hj v hv=>?_,h3⟩
    have hv1:=hv.1
    rw [L.hasS_or,Bool.or_eq_true] at hv1
    rcases hv1 with e | e
    ·exact h1 j (List.mem_cons_of_mem _ hj) v ⟨e,hv.2⟩
    ·exact h2 j hj v ⟨e,hv.2⟩
end Go.Proofs.YtckhohpbokojdaaGreatDoor
end
