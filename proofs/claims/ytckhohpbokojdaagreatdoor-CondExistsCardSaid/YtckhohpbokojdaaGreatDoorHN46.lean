import Derived.Test.YtckhohpbokojdaaGreatDoorHN39
import Derived.Test.YtckhohpbokojdaaGreatDoorHN2
import Derived.Deep.CutRange
import Derived.Test.YtckhohpbokojdaaGreatDoorHN18
import Derived.Test.YtckhohpbokojdaaGreatDoorHLst
section
set_option linter.unusedSimpArgs false
set_option linter.unusedVariables false
namespace Go.Proofs.YtckhohpbokojdaaGreatDoor
open Go Go.RowKit Go.Shelf
theorem bok_nok {n:Int} {bl:List L.ND} (h:L.BOK n bl):L.NOK n bl:=⟨h.kids,fun x hx=>by
 rcases h.form x hx with e | e | e
 ·exact .inl e
 ·exact .inr (.inl e)
 ·exact .inr (.inr ⟨e.1,e.2.1⟩)⟩
theorem red_facts {n:Int} {nl:List L.ND} (hn:0≤n∧n≤128) (h:L.NOK n nl) (hne:nl≠[]) (hl:nl.length≤65536):L.netChk n ((L.reduceL nl).map L.ofND) = 0∧L.NOK n (L.reduceL nl)∧L.reduceL nl≠[]∧(L.reduceL nl).length≤nl.length∧∀ y∈L.reduceL nl,y.inp.length≤nl.length:=by
 obtain ⟨b1,_,_,b4,b5⟩:=L.reduceL_ok h hne
 have hl0:0 < (L.reduceL nl).length:=List.length_pos_iff.2 b4
 refine ⟨L.nok_net (bok_nok b1) hn (by omega),bok_nok b1,b4,b5,fun y hy=>?_⟩
 obtain ⟨i,hi,rfl⟩:=List.getElem_of_mem hy
 have:=L.bok_inp b1 hi
 omega
theorem nok_of {n:Int} {nl:List L.ND} (hc:L.netChk n (nl.map L.ofND) = 0):L.NOK n nl∧nl≠[]∧(0≤n∧n≤128)∧nl.length≤65536:=by
 have h:=L.net_nok hc
 rw [List.map_map,show (L.toND ∘ L.ofND) = id from funext L.toND_ofND,List.map_id] at h
 obtain ⟨hn,hl,_⟩:=L.netChk_ok.1 hc
 rw [List.length_map] at hl
 exact ⟨h.1,h.2.1,hn,hl.2⟩
theorem map_ne {f:L.ND→L.ND} {nl:List L.ND} (h:nl≠[]):nl.map f≠[]:=fun e=>h (List.map_eq_nil_iff.1 e)
end Go.Proofs.YtckhohpbokojdaaGreatDoor
end
section
set_option linter.unusedSimpArgs false
set_option linter.unusedVariables false
namespace Go.Proofs.YtckhohpbokojdaaGreatDoor
open Go Go.RowKit Go.Shelf
theorem light_parts {C:List L.Gt} (h:lightN C = true):C.length≤80∧∀ g∈C,g.inp.length≤20:=by
 unfold lightN at h
 rw [Bool.and_eq_true,decide_eq_true_eq] at h
 exact ⟨h.2,fun g hg=>by have:=List.all_eq_true.1 h.1 g hg;simpa using this⟩
theorem nodes_of {n:Int} {C:List L.Gt} (hc:L.netChk n C = 0):∃ nl:List L.ND,C = nl.map L.ofND∧nl.length = C.length∧∀ y∈nl,∃ g∈C,g.inp.length = y.inp.length:=by
 refine ⟨C.map L.toND,(L.net_nok hc).2.2.symm,List.length_map ..,fun y hy=>?_⟩
 obtain ⟨g,hg,rfl⟩:=List.mem_map.1 hy
 exact ⟨g,hg,(by unfold L.toND;simp)⟩
end Go.Proofs.YtckhohpbokojdaaGreatDoor
end
section
set_option linter.unusedSimpArgs false
set_option linter.unusedVariables false
namespace Go.Proofs.YtckhohpbokojdaaGreatDoor
open Go Go.RowKit Go.Shelf
theorem own_shape {w:World} {base n size:Nat} {e:TypeId} {v:Value} {xs:List Value} (h:w.ownsRow base e size v n xs):∃ b c,v = .slice b n c:=by
 obtain ⟨_,⟨rfl,e⟩ | ⟨g,cap,cur,rfl,_⟩⟩:=h
 ·rw [e];exact ⟨_,_,rfl⟩
 ·exact ⟨_,_,rfl⟩
end Go.Proofs.YtckhohpbokojdaaGreatDoor
end
section
set_option linter.unusedSimpArgs false
set_option linter.unusedVariables false
namespace Go.Proofs.YtckhohpbokojdaaGreatDoor
open Go Go.RowKit Go.Shelf
theorem and_zero {a b:VSet}:a &&& b = 0↔∀ v,¬ (hasS a v = true∧hasS b v = true):=by
 constructor
 ·intro h v hv
  have h1:hasS (a &&& b) v = true:=by rw [hasS_and,hv.1,hv.2];rfl
  rw [h,L.hasS_zero] at h1
  cases h1
 ·intro h
  refine BitVec.eq_of_getLsbD_eq fun i hi=>?_
  have h1:=h ((i:Int)+1)
  unfold hasS at h1
  have e:(((i:Int)+1) - 1).toNat = i:=by omega
  have d1:decide (1≤(i:Int)+1) = true:=decide_eq_true (by omega)
  have d2:decide ((i:Int)+1≤128) = true:=decide_eq_true (by omega)
  rw [e,d1,d2] at h1
  rw [BitVec.getLsbD_and]
  cases ha:a.getLsbD i <;> cases hb:b.getLsbD i <;> simp_all
theorem sepF_iff (f:Nat→VSet):∀ (l:List Nat) (s:VSet),sepF f l s = true↔(∀ k∈l,∀ v,¬ (hasS s v = true∧hasS (f k) v = true))∧l.Pairwise fun a b=>∀ v,¬ (hasS (f a) v = true∧hasS (f b) v = true)
 | [],s=>by simp [sepF]
 | k :: l,s=>by
   rw [sepF,Bool.and_eq_true,decide_eq_true_eq,and_zero,sepF_iff f l,List.pairwise_cons]
   constructor
   ·rintro ⟨h1,h2,h3⟩
    refine ⟨fun j hj v hv=>?_,fun j hj v hv=>?_,h3⟩
    ·rcases List.mem_cons.1 hj with rfl | hj
     ·exact h1 v hv
     ·exact h2 j hj v ⟨by rw [L.hasS_or,hv.1];rfl,hv.2⟩
    ·exact h2 j hj v ⟨by rw [L.hasS_or,hv.1];simp,hv.2⟩
   ·rintro ⟨h1,h2,h3⟩
    refine ⟨h1 k (List.mem_cons_self ..),fun j hj v hv=>?_,h3⟩
    have hv1:=hv.1
    rw [L.hasS_or,Bool.or_eq_true] at hv1
    rcases hv1 with e | e
    ·exact h1 j (List.mem_cons_of_mem _ hj) v ⟨e,hv.2⟩
    ·exact h2 j hj v ⟨e,hv.2⟩
theorem decF_iff {nl:List L.ND}:decF nl = true↔L.Decomp nl:=by
 unfold decF
 rw [List.all_eq_true]
 constructor
 ·intro h i hi h3
  rw [L.ndAt_lt hi] at h3 ⊢
  have:=h nl[i] (List.getElem_mem hi)
  unfold decN at this
  rw [if_pos h3,sepF_iff] at this
  exact this.2
 ·intro h y hy
  obtain ⟨i,hi,rfl⟩:=List.getElem_of_mem hy
  unfold decN
  by_cases h3:nl[i].kind = 3
  ·rw [if_pos h3,sepF_iff]
   have:=h i hi
   rw [L.ndAt_lt hi] at this
   refine ⟨fun k _ v hv=>?_,this h3⟩
   have hv1:=hv.1
   rw [L.hasS_zero] at hv1
   cases hv1
  ·rw [if_neg h3]
theorem for_tv {n:Int} {nl:List L.ND} {s:VSet} (hc:L.netChk n (nl.map L.ofND) = 0) (hD:decF nl = true) (a:L.Asg) :
  L.tv (L.reduceL (nl.map (L.forND s))) a ((L.reduceL (nl.map (L.forND s))).length - 1) = true↔∃ b:L.Asg,(∀ v,¬ hasS s v = true→b v = a v)∧L.tv nl b (nl.length - 1) = true:=by
 obtain ⟨h,hne,hn,hl⟩:=nok_of hc
 have hl0:0 < nl.length:=List.length_pos_iff.2 hne
 rw [L.reduceL_true (L.map_nok h _ (L.forND_or s)) (map_ne hne),List.length_map]
 exact L.for_true h hn.2 (decF_iff.1 hD) s a _ _ (Nat.le_refl _) (by omega)
theorem for_chk {n:Int} {nl:List L.ND} {s:VSet} (hc:L.netChk n (nl.map L.ofND) = 0) (hD:decF nl = true):L.netChk n ((L.reduceL (nl.map (L.forND s))).map L.ofND) = 0∧(L.reduceL (nl.map (L.forND s))).length≤nl.length∧(∀ y∈L.reduceL (nl.map (L.forND s)),y.inp.length≤nl.length)∧decF (L.reduceL (nl.map (L.forND s))) = true:=by
 obtain ⟨h,hne,hn,hl⟩:=nok_of hc
 have hm:=L.map_nok h _ (L.forND_or s)
 obtain ⟨r1,_,_,r4,r5⟩:=red_facts hn hm (map_ne hne) (by rw [List.length_map];exact hl)
 rw [List.length_map] at r4
 simp only [List.length_map] at r5
 exact ⟨r1,r4,r5,decF_iff.2 (L.reduceL_decomp hm (map_ne hne) (L.map_decomp h _ (L.forND_or s) (decF_iff.1 hD)))⟩
theorem for_free {n:Int} {nl:List L.ND} {s:VSet} (hc:L.netChk n (nl.map L.ofND) = 0) {i:Nat} (hi:i < (L.reduceL (nl.map (L.forND s))).length):L.vset (L.reduceL (nl.map (L.forND s))) i &&& s = 0:=by
 obtain ⟨h,hne,hn,hl⟩:=nok_of hc
 have hm:=L.map_nok h _ (L.forND_or s)
 obtain ⟨b1,_⟩:=L.reduceL_ok hm (map_ne hne)
 rw [and_zero]
 rintro v ⟨hv1,hv2⟩
 obtain ⟨l,hl1,hl2⟩:=L.vset_lits b1.kids _ i (Nat.le_refl _) hi hv1
 have hl3:=L.for_lits (L.reduceL_lits hm (map_ne hne) l hl1)
 rw [hl2,hv2] at hl3
 cases hl3.2
end Go.Proofs.YtckhohpbokojdaaGreatDoor
end
section
set_option linter.unusedSimpArgs false
set_option linter.unusedVariables false
namespace Go.Proofs.YtckhohpbokojdaaGreatDoor
open Go Go.RowKit Go.Shelf
def exS (a:VSet) (l:List Int) (k:Nat):Nat→VSet
 | 0=>a
 | j+1=>if k / 2 ^ j % 2 = 1 then withS (withoutS (exS a l k j) (l.getD j 0)) (l.getD j 0) else withoutS (exS a l k j) (l.getD j 0)
theorem exS_step {a:VSet} {l:List Int} {k j:Nat} (hj:j < l.length) (hr:1≤l[j]∧l[j]≤128) (v:Int):hasS (exS a l k (j+1)) v = if v = l[j] then decide (k / 2 ^ j % 2 = 1) else hasS (exS a l k j) v:=by
 have e:l.getD j 0 = l[j]:=by rw [List.getD_eq_getElem?_getD,List.getElem?_eq_getElem hj];rfl
 rw [show exS a l k (j+1) = if k / 2 ^ j % 2 = 1 then withS (withoutS (exS a l k j) (l.getD j 0)) (l.getD j 0) else withoutS (exS a l k j) (l.getD j 0) from rfl,e]
 by_cases hb:k / 2 ^ j % 2 = 1
 ·rw [if_pos hb,decide_eq_true hb,L.hasS_with,hasS_without]
  by_cases hv:v = l[j]
  ·rw [if_pos hv,hv]
   have h1:=hr.1
   have h2:=hr.2
   simp [h1,h2]
  ·rw [if_neg hv]
   have hv2:¬ l[j] = v:=fun e=>hv e.symm
   simp [hv,hv2]
 ·rw [if_neg hb,decide_eq_false hb,hasS_without]
  by_cases hv:v = l[j]
  ·rw [if_pos hv,hv];simp
  ·rw [if_neg hv]
   have hv2:¬ l[j] = v:=fun e=>hv e.symm
   simp [hv,hv2]
theorem exS_out {a:VSet} {l:List Int} {k:Nat} (hr:∀ v∈l,1≤v∧v≤128) {v:Int}:∀ (j:Nat),j≤l.length→v∉l→hasS (exS a l k j) v = hasS a v
 | 0,_,_=>rfl
 | j+1,hj,hv=>by
   rw [exS_step (by omega) (hr _ (List.getElem_mem _)),if_neg (fun e:v = l[j]=>hv (by rw [e];exact List.getElem_mem _)),exS_out hr j (by omega) hv]
theorem exS_in {a:VSet} {l:List Int} {k:Nat} (hn:l.Nodup) (hr:∀ v∈l,1≤v∧v≤128) {i:Nat} (hi:i < l.length):∀ (j:Nat),j≤l.length→i < j→hasS (exS a l k j) l[i] = decide (k / 2 ^ i % 2 = 1)
 | 0,_,h=>absurd h (Nat.not_lt_zero _)
 | j+1,hj,h=>by
   rw [exS_step (by omega) (hr _ (List.getElem_mem _))]
   by_cases e:i = j
   ·subst e;rw [if_pos rfl]
   ·rw [if_neg (fun h2=>e ((List.getElem_inj hn).1 h2)),exS_in hn hr hi j (by omega) (by omega)]
theorem bits_ex (f:Nat→Bool):∀ (n:Nat),∃ k,k < 2 ^ n∧∀ i,i < n→decide (k / 2 ^ i % 2 = 1) = f i
 | 0=>⟨0,by decide,fun i hi=>absurd hi (Nat.not_lt_zero _)⟩
 | n+1=>by
   obtain ⟨k,hk,h⟩:=bits_ex f n
   have hpw:2 ^ (n+1) = 2 ^ n+2 ^ n:=by rw [Nat.pow_succ];omega
   cases hf:f n with
   | false =>
     refine ⟨k,by omega,fun i hi=>?_⟩
     by_cases e:i = n
     ·subst e
      rw [Nat.div_eq_of_lt hk,hf];rfl
     ·exact h i (by omega)
   | true =>
     refine ⟨k+2 ^ n,by omega,fun i hi=>?_⟩
     by_cases e:i = n
     ·subst e
      rw [Nat.add_div_right _ (Nat.two_pow_pos i),Nat.div_eq_of_lt hk,hf];rfl
     ·have hlt:i < n:=by omega
      rw [←h i hlt]
      obtain ⟨d,rfl⟩:∃ d,n = i+(d+1):=⟨n - i - 1,by omega⟩
      have e2:(k+2 ^ (i+(d+1))) / 2 ^ i = k / 2 ^ i+2 * 2 ^ d:=by
       rw [Nat.pow_add,Nat.add_mul_div_left _ _ (Nat.two_pow_pos i),Nat.pow_succ,Nat.mul_comm (2 ^ d) 2]
      rw [e2,Nat.add_mul_mod_self_left]
def uniV (nl:List L.ND) (m:Nat):VSet:=(List.range m).foldl (fun s i=>s ||| L.vset nl i) 0
theorem uniV_succ (nl:List L.ND) (m:Nat):uniV nl (m+1) = uniV nl m ||| L.vset nl m:=by
 unfold uniV
 rw [List.range_succ,List.foldl_append];rfl
theorem uniV_has {nl:List L.ND} {v:Int}:∀ {m i:Nat},i < m→hasS (L.vset nl i) v = true→hasS (uniV nl m) v = true
 | 0,_,h,_=>absurd h (Nat.not_lt_zero _)
 | m+1,i,h,hv=>by
   rw [uniV_succ,L.hasS_or,Bool.or_eq_true]
   by_cases e:i = m
   ·subst e;exact .inr hv
   ·exact .inl (uniV_has (by omega) hv)
theorem exists_law {n:Int} {nl:List L.ND} {s a:VSet} (hc:L.netChk n (nl.map L.ofND) = 0) (hD:decF nl = true) {l:List Int} (hl:l = listV (s &&& uniV nl nl.length)) (hn:l.Nodup) (hm:∀ v,v∈l↔hasS (s &&& uniV nl nl.length) v = true) :
  L.tv (L.reduceL (nl.map (L.forND s))) (L.asg a) ((L.reduceL (nl.map (L.forND s))).length - 1) = (List.range (2 ^ l.length)).any fun k=>L.tv nl (L.asg (exS a l k l.length)) (nl.length - 1):=by
 obtain ⟨h,hne,hN,hl6⟩:=nok_of hc
 have hl0:0 < nl.length:=List.length_pos_iff.2 hne
 have hr:∀ v∈l,1≤v∧v≤128:=fun v hv=>L.hasS_range' ((hm v).1 hv)
 rw [Bool.eq_iff_iff,for_tv hc hD,List.any_eq_true]
 constructor
 ·rintro ⟨b,hb,ht⟩
  obtain ⟨k,hk,hbit⟩:=bits_ex (fun i=>b (l.getD i 0)) l.length
  refine ⟨k,List.mem_range.2 hk,?_⟩
  rw [←ht]
  refine L.tv_vset h hN.2 _ _ (Nat.le_refl _) (by omega) fun v hv=>?_
  show hasS (exS a l k l.length) v = b v
  by_cases hvl:v∈l
  ·obtain ⟨i,hi,rfl⟩:=List.getElem_of_mem hvl
   rw [exS_in hn hr hi _ (Nat.le_refl _) hi,hbit i hi]
   show b (l.getD i 0) = b l[i]
   rw [List.getD_eq_getElem?_getD,List.getElem?_eq_getElem hi];rfl
  ·rw [exS_out hr _ (Nat.le_refl _) hvl]
   refine (hb v fun hs=>hvl ((hm v).2 ?_)).symm
   rw [hasS_and,hs,uniV_has (by omega) hv];rfl
 ·rintro ⟨k,hk,ht⟩
  refine ⟨L.asg (exS a l k l.length),fun v hv=>?_,ht⟩
  show hasS (exS a l k l.length) v = hasS a v
  refine exS_out hr _ (Nat.le_refl _) fun hvl=>hv ?_
  have:=(hm v).1 hvl
  rw [hasS_and,Bool.and_eq_true] at this
  exact this.1
end Go.Proofs.YtckhohpbokojdaaGreatDoor
end
