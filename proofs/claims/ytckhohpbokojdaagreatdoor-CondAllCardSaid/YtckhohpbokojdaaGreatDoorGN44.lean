import Derived.Test.YtckhohpbokojdaaGreatDoorGN42
set_option linter.unusedSimpArgs false
set_option linter.unusedVariables false
namespace Go.Proofs.YtckhohpbokojdaaGreatDoor
open Go Go.RowKit Go.Shelf
theorem and_zero {a b:VSet}:a &&& b = 0↔∀ v,¬ (hasS a v = true∧hasS b v = true):=by
 constructor
 ·intro h v hv
  have h1:hasS (a &&& b) v = true:=by rw [hasS_and,hv.1,hv.2];rfl
  rw [h,L.hasS_zero] at h1
  cases h1
 ·intro h
  refine BitVec.eq_of_getLsbD_eq fun i hi=>?_
  have h1:=h ((i:Int)+1)
  unfold hasS at h1
  have e:(((i:Int)+1) - 1).toNat = i:=by omega
  have d1:decide (1≤(i:Int)+1) = true:=decide_eq_true (by omega)
  have d2:decide ((i:Int)+1≤128) = true:=decide_eq_true (by omega)
  rw [e,d1,d2] at h1
  rw [BitVec.getLsbD_and]
  cases ha:a.getLsbD i <;> cases hb:b.getLsbD i <;> simp_all
theorem sepF_iff (f:Nat→VSet):∀ (l:List Nat) (s:VSet),sepF f l s = true↔(∀ k∈l,∀ v,¬ (hasS s v = true∧hasS (f k) v = true))∧l.Pairwise fun a b=>∀ v,¬ (hasS (f a) v = true∧hasS (f b) v = true)
 | [],s=>by simp [sepF]
 | k :: l,s=>by
   rw [sepF,Bool.and_eq_true,decide_eq_true_eq,and_zero,sepF_iff f l,List.pairwise_cons]
   constructor
   ·rintro ⟨h1,h2,h3⟩
    refine ⟨fun j hj v hv=>?_,fun j hj v hv=>?_,h3⟩
    ·rcases List.mem_cons.1 hj with rfl | hj
     ·exact h1 v hv
     ·exact h2 j hj v ⟨by rw [L.hasS_or,hv.1];rfl,hv.2⟩
    ·exact h2 j hj v ⟨by rw [L.hasS_or,hv.1];simp,hv.2⟩
   ·rintro ⟨h1,h2,h3⟩
    refine ⟨h1 k (List.mem_cons_self ..),fun j hj v hv=>?_,h3⟩
    have hv1:=hv.1
    rw [L.hasS_or,Bool.or_eq_true] at hv1
    rcases hv1 with e | e
    ·exact h1 j (List.mem_cons_of_mem _ hj) v ⟨e,hv.2⟩
    ·exact h2 j hj v ⟨e,hv.2⟩
theorem decF_iff {nl:List L.ND}:decF nl = true↔L.Decomp nl:=by
 unfold decF
 rw [List.all_eq_true]
 constructor
 ·intro h i hi h3
  rw [L.ndAt_lt hi] at h3 ⊢
  have:=h nl[i] (List.getElem_mem hi)
  unfold decN at this
  rw [if_pos h3,sepF_iff] at this
  exact this.2
 ·intro h y hy
  obtain ⟨i,hi,rfl⟩:=List.getElem_of_mem hy
  unfold decN
  by_cases h3:nl[i].kind = 3
  ·rw [if_pos h3,sepF_iff]
   have:=h i hi
   rw [L.ndAt_lt hi] at this
   refine ⟨fun k _ v hv=>?_,this h3⟩
   have hv1:=hv.1
   rw [L.hasS_zero] at hv1
   cases hv1
  ·rw [if_neg h3]
theorem for_tv {n:Int} {nl:List L.ND} {s:VSet} (hc:L.netChk n (nl.map L.ofND) = 0) (hD:decF nl = true) (a:L.Asg) :
  L.tv (L.reduceL (nl.map (L.forND s))) a ((L.reduceL (nl.map (L.forND s))).length - 1) = true↔∃ b:L.Asg,(∀ v,¬ hasS s v = true→b v = a v)∧L.tv nl b (nl.length - 1) = true:=by
 obtain ⟨h,hne,hn,hl⟩:=nok_of hc
 have hl0:0 < nl.length:=List.length_pos_iff.2 hne
 rw [L.reduceL_true (L.map_nok h _ (L.forND_or s)) (map_ne hne),List.length_map]
 exact L.for_true h hn.2 (decF_iff.1 hD) s a _ _ (Nat.le_refl _) (by omega)
theorem for_chk {n:Int} {nl:List L.ND} {s:VSet} (hc:L.netChk n (nl.map L.ofND) = 0) (hD:decF nl = true):L.netChk n ((L.reduceL (nl.map (L.forND s))).map L.ofND) = 0∧(L.reduceL (nl.map (L.forND s))).length≤nl.length∧(∀ y∈L.reduceL (nl.map (L.forND s)),y.inp.length≤nl.length)∧decF (L.reduceL (nl.map (L.forND s))) = true:=by
 obtain ⟨h,hne,hn,hl⟩:=nok_of hc
 have hm:=L.map_nok h _ (L.forND_or s)
 obtain ⟨r1,_,_,r4,r5⟩:=red_facts hn hm (map_ne hne) (by rw [List.length_map];exact hl)
 rw [List.length_map] at r4
 simp only [List.length_map] at r5
 exact ⟨r1,r4,r5,decF_iff.2 (L.reduceL_decomp hm (map_ne hne) (L.map_decomp h _ (L.forND_or s) (decF_iff.1 hD)))⟩
theorem all_law {n:Int} {nl:List L.ND} {s t:VSet} (hc:L.netChk n (nl.map L.ofND) = 0) (hD:decF nl = true) (a:L.Asg) :
  L.tv (L.reduceL ((L.reduceL (nl.map (L.forND s))).map (L.forND t))) a ((L.reduceL ((L.reduceL (nl.map (L.forND s))).map (L.forND t))).length - 1) = L.tv (L.reduceL (nl.map (L.forND (s ||| t)))) a ((L.reduceL (nl.map (L.forND (s ||| t)))).length - 1):=by
 have hx:=for_chk (s:=s) hc hD
 rw [Bool.eq_iff_iff,for_tv hx.1 hx.2.2.2,for_tv hc hD]
 constructor
 ·rintro ⟨b,hb,h⟩
  obtain ⟨c,hc2,h2⟩:=(for_tv hc hD b).1 h
  refine ⟨c,fun v hv=>?_,h2⟩
  rw [L.hasS_or,Bool.or_eq_true] at hv
  rw [hc2 v (fun e=>hv (.inl e)),hb v (fun e=>hv (.inr e))]
 ·rintro ⟨c,hc2,h2⟩
  refine ⟨fun v=>if hasS t v = true then c v else a v,fun v hv=>if_neg hv,(for_tv hc hD _).2 ⟨c,fun v hv=>?_,h2⟩⟩
  by_cases ht:hasS t v = true
  ·rw [if_pos ht]
  ·rw [if_neg ht]
   refine hc2 v fun e=>?_
   rw [L.hasS_or,Bool.or_eq_true] at e
   exact e.elim hv ht
theorem none_law {n:Int} {nl:List L.ND} (hc:L.netChk n (nl.map L.ofND) = 0) (hD:decF nl = true) (a:L.Asg) :
  L.tv (L.reduceL (nl.map (L.forND 0))) a ((L.reduceL (nl.map (L.forND 0))).length - 1) = L.tv nl a (nl.length - 1):=by
 rw [Bool.eq_iff_iff,for_tv hc hD]
 constructor
 ·rintro ⟨b,hb,h⟩
  have:b = a:=funext fun v=>hb v (by rw [L.hasS_zero];decide)
  rw [←this];exact h
 ·intro h
  exact ⟨a,fun _ _=>rfl,h⟩
end Go.Proofs.YtckhohpbokojdaaGreatDoor
