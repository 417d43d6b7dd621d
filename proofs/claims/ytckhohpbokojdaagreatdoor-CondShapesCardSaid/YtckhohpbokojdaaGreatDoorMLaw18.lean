import Derived.Test.YtckhohpbokojdaaGreatDoorMLaw17
set_option linter.unusedSimpArgs false
set_option linter.unusedVariables false
namespace Go.Proofs.YtckhohpbokojdaaGreatDoor.L
def Det (x:Asg) (bl:List ND):Prop:=∀ i,i < bl.length→(ndAt bl i).kind = 4→(ndAt bl i).inp.Pairwise fun a b=>¬ (tv bl x a = true∧tv bl x b = true)
section
variable {n:Int} {bl:List ND} {x:Asg} (hB:BOK n bl)
include hB
theorem kids_true {i:Nat} (hi:i < bl.length) (h4:(ndAt bl i).kind = 4) {k:Nat} (hk:k∈(ndAt bl i).inp) (h:tv bl x k = true):tv bl x i = true:=by
 rw [hB.val hi]
 unfold valND
 rw [h4]
 simp only [show ¬ ((4:Int) = 1) by decide,show ¬ ((4:Int) = 2) by decide,show ¬ ((4:Int) = 3) by decide,if_false,if_true]
 exact List.any_eq_true.2 ⟨k,hk,h⟩
theorem flat_det (hD:Det x bl) {l:List Nat} (hl:∀ k∈l,k < bl.length) (hp:l.Pairwise fun a b=>¬ (tv bl x a = true∧tv bl x b = true)):(flatND bl 4 l).Pairwise fun a b=>¬ (tv bl x a = true∧tv bl x b = true):=by
 unfold flatND
 rw [List.pairwise_flatMap]
 have sub:∀ i∈l,∀ k∈(if (ndAt bl i).kind = 4 then (ndAt bl i).inp else [i]),tv bl x k = true→tv bl x i = true:=fun i hi k hk hv=>by
  split at hk
  ·rename_i h4;exact kids_true hB (hl i hi) h4 hk hv
  ·rw [List.mem_singleton.1 hk] at hv;exact hv
 refine ⟨fun i hi=>?_,hp.imp_of_mem fun {a b} ha hb hab p hp q hq hv=>hab ⟨sub a ha p hp hv.1,sub b hb q hq hv.2⟩⟩
 split
 ·rename_i h4;exact hD i (hl i hi) h4
 ·exact List.pairwise_singleton ..
theorem put_det (hD:Det x bl) {z:ND} (hk:∀ k∈z.inp,k < bl.length) (hz:z.kind = 4→z.inp.Pairwise fun a b=>¬ (tv bl x a = true∧tv bl x b = true)):Det x (putND bl z).2:=by
 unfold putND
 split
 ·exact hD
 ·intro i hi h4
  by_cases hlt:i < bl.length
  ·rw [ndAt_app hlt] at h4 ⊢
   refine (hD i hlt h4).imp_of_mem fun {a b} ha hb hab hv=>?_
   rw [ndAt_lt hlt] at ha hb
   have h1:=hB.kids i hlt a ha
   have h2:=hB.kids i hlt b hb
   rw [tv_app (by omega),tv_app (by omega)] at hv
   exact hab hv
  ·have e:i = bl.length:=by simp at hi;omega
   subst e
   have hz':ndAt (bl++[z]) bl.length = z:=by unfold ndAt;rw [List.getD_eq_getElem?_getD,List.getElem?_append_right (Nat.le_refl _)];simp
   rw [hz'] at h4 ⊢
   refine (hz h4).imp_of_mem fun {a b} ha hb hab hv=>?_
   rw [tv_app (hk a ha),tv_app (hk b hb)] at hv
   exact hab hv
theorem add_det (hD:Det x bl) {y:ND} (hk:∀ k∈y.inp,k < bl.length) (hf:(y.kind = 0∨y.kind = 1)∧y.lit = 0∧y.inp = []∨y.kind = 2∧(y.lit≠0∧-n≤y.lit∧y.lit≤n)∧y.inp = []∨(y.kind = 3∨y.kind = 4)∧y.lit = 0)
  (hy:y.kind = 4→y.inp.Pairwise fun a b=>¬ (tv bl x a = true∧tv bl x b = true)):Det x (addND bl y).2:=by
 have hfl:∀ k∈flatND bl y.kind y.inp,k < bl.length:=hB.flat_lt hk
 have hcon:∀ z:ND,(z.kind = 0∨z.kind = 1)∧z.inp = []→Det x (putND bl z).2:=fun z hz =>
  put_det hB hD (fun k h=>by rw [hz.2] at h;cases h) (fun e=>by rcases hz.1 with h | h <;> (rw [h] at e;cases e))
 unfold addND
 by_cases h3:y.kind < 3
 ·rw [if_pos h3]
  exact put_det hB hD (fun k h=>by cases h) fun e=>by dsimp only at e;omega
 ·rw [if_neg h3]
  dsimp only
  obtain ⟨D,hDe⟩:∃ D:Int,D = if y.kind = 4 then 0 else 1:=⟨_,rfl⟩
  obtain ⟨F,hF⟩:∃ F:Int,F = if y.kind = 4 then 1 else 0:=⟨_,rfl⟩
  have hD2:D = 0∨D = 1:=by rw [hDe];split <;> simp
  have hF2:F = 0∨F = 1:=by rw [hF];split <;> simp
  rw [←hDe,←hF]
  split
  ·exact hcon ⟨F,0,[]⟩ ⟨hF2,rfl⟩
  ·split
   ·exact hcon ⟨D,0,[]⟩ ⟨hD2,rfl⟩
   ·exact hD
   ·rename_i m hm1 hm2
    generalize hM:onceL bl D (flatND bl y.kind y.inp) = M at *
    have hmem:∀ k∈sortN M,k∈flatND bl y.kind y.inp:=fun k h=>by
     have:=(sortN_perm M).mem_iff.1 h
     rw [←hM] at this
     exact ((mem_onceL bl _ k _).1 this).1
    refine put_det hB hD (fun k h=>hfl k (hmem k h)) fun e=>?_
    dsimp only at e ⊢
    have hp:=flat_det hB hD hk (hy e)
    rw [e] at hM
    have hp2:M.Pairwise fun a b=>¬ (tv bl x a = true∧tv bl x b = true):=by
     rw [←hM];exact hp.sublist (onceL_sub bl _ _)
    exact (sortN_perm M).symm.pairwise hp2 fun {a b} h e=>h ⟨e.2,e.1⟩
end
theorem redF_det {n:Int} {x:Asg} {nl:List ND}:NOK n nl→Det x nl→Det x (redF nl).1:=by
 refine snoc_ind (P:=fun nl=>NOK n nl→Det x nl→Det x (redF nl).1) (fun _ _=>fun i hi=>absurd hi (Nat.not_lt_zero _)) (fun l a ih h hD=>?_) nl
 obtain ⟨h1,h2⟩:=h.init
 obtain ⟨b1,b2,b3,b4,b5,b6⟩:=redF_ok h1
 have hDl:Det x l:=fun i hi h4=>by
  have:=hD i (by simp;omega)
  rw [ndAt_app hi] at this
  refine (this h4).imp_of_mem fun {p q} hp hq hpq hv=>?_
  rw [ndAt_lt hi] at hp hq
  have g1:=h1.kids i hi p hp
  have g2:=h1.kids i hi q hq
  refine hpq ?_
  rw [tv_app (by omega),tv_app (by omega)];exact hv
 have ha:=h.form a (by simp)
 have hk:∀ k∈(⟨a.kind,a.lit,a.inp.map fun k=>(redF l).2.getD k 0⟩:ND).inp,k < (redF l).1.length:=fun k hk'=>by
  obtain ⟨m,hm,rfl⟩:=List.mem_map.1 hk'
  exact b5 m (h2 m hm)
 have hf:(a.kind = 0∨a.kind = 1)∧a.lit = 0∧a.inp.map (fun k=>(redF l).2.getD k 0) = []∨a.kind = 2∧(a.lit≠0∧-n≤a.lit∧a.lit≤n)∧a.inp.map (fun k=>(redF l).2.getD k 0) = []∨(a.kind = 3∨a.kind = 4)∧a.lit = 0:=by
  rcases ha with h | h | h
  ·exact .inl ⟨h.1,h.2.1,by rw [h.2.2];rfl⟩
  ·exact .inr (.inl ⟨h.1,h.2.1,by rw [h.2.2];rfl⟩)
  ·exact .inr (.inr h)
 have hpw:a.kind = 4→(a.inp.map fun k=>(redF l).2.getD k 0).Pairwise fun p q=>¬ (tv (redF l).1 x p = true∧tv (redF l).1 x q = true):=fun h4=>by
  have hend:ndAt (l++[a]) l.length = a:=by unfold ndAt;rw [List.getD_eq_getElem?_getD,List.getElem?_append_right (Nat.le_refl _)];simp
  have:=hD l.length (by simp)
  rw [hend] at this
  rw [List.pairwise_map]
  refine (this h4).imp_of_mem fun {p q} hp hq hpq hv=>?_
  refine hpq ?_
  rw [tv_app (h2 p hp),tv_app (h2 q hq),←b6 x p (h2 p hp),←b6 x q (h2 q hq)]
  exact hv
 rw [redF_snoc]
 exact add_det b1 (ih h1 hDl) hk hf hpw
theorem netL_det {n:Int} {x:Asg} {bl:List ND} (hB:BOK n bl) {root:Nat} (hr:root < bl.length) (hD:Det x bl):Det x (netL bl root):=fun j hj h4=>by
 obtain ⟨i,hi,hu,rfl⟩:=netL_from hB hr hj
 rw [netL_ndAt hB hr hu] at h4 ⊢
 dsimp only at h4 ⊢
 rw [List.pairwise_map]
 refine (hD i (by omega) h4).imp_of_mem fun {a b} ha hb hab hv=>hab ?_
 have hdown:=(useF_ok hB.kids hr).down i hu
 have hmax:=(useF_ok hB.kids hr).max
 rw [←netL_val hB.kids hr x a a (Nat.le_refl _) (by have:=hmax a (hdown a ha);omega) (hdown a ha),←netL_val hB.kids hr x b b (Nat.le_refl _) (by have:=hmax b (hdown b hb);omega) (hdown b hb)]
 exact hv
theorem reduceL_det {n:Int} {x:Asg} {nl:List ND} (h:NOK n nl) (hne:nl≠[]) (hD:Det x nl):Det x (reduceL nl):=by
 obtain ⟨b1,_,_,_,b5,_⟩:=redF_ok h
 have hl0:0 < nl.length:=List.length_pos_iff.2 hne
 exact netL_det b1 (b5 _ (by omega)) (redF_det h hD)
theorem giv_det {n:Int} {nl:List ND} (h:NOK n nl) {t:List Int} (hT:TermL n t) {a:Asg} (hD:Det (madeL a t) nl):Det a (nl.map (givND t)):=fun i hi h4=>by
 have hil:i < nl.length:=by simpa using hi
 have e2:ndAt (nl.map (givND t)) i = givND t nl[i]:=by rw [ndAt_lt hi,List.getElem_map]
 rw [e2] at h4 ⊢
 rcases givND_or t nl[i] with g | g
 ·rw [g] at h4 ⊢
  have:=hD i hil
  rw [ndAt_lt hil] at this
  refine (this h4).imp_of_mem fun {p q} hp hq hpq hv=>hpq ?_
  have g1:=h.kids i hil p hp
  have g2:=h.kids i hil q hq
  rw [←giv_true h hT a p p (Nat.le_refl _) (by omega),←giv_true h hT a q q (Nat.le_refl _) (by omega)]
  exact hv
 ·rw [g.2.2];exact .nil
end Go.Proofs.YtckhohpbokojdaaGreatDoor.L
