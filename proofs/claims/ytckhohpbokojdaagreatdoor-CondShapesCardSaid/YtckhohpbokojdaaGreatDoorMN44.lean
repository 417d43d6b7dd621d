import Derived.Test.YtckhohpbokojdaaGreatDoorMN36
import Derived.Test.YtckhohpbokojdaaGreatDoorMN9
import Derived.Test.YtckhohpbokojdaaGreatDoorMD1
section
set_option linter.unusedSimpArgs false
set_option linter.unusedVariables false
namespace Go.Proofs.YtckhohpbokojdaaGreatDoor
open Go Go.RowKit Go.Shelf
theorem slC_nd {w:World} {v:Value} {nl:List L.ND} (h:SlC w v (nl.map L.ofND)):∃ ba c,v = .slice ba nl.length c∧∀ j (hj:j < nl.length),∃ b o bb cc,ba = some ⟨b,o,none⟩∧w.cell? ⟨b,o+j * 3,none⟩ = some (.int .i64 nl[j].kind)∧w.cell? ⟨b,o+j * 3+1,none⟩ = some (.int .i64 nl[j].lit)∧w.cell? ⟨b,o+j * 3+2,none⟩ = some (.slice bb nl[j].inp.length cc)∧SlI w (.slice bb nl[j].inp.length cc) (castL nl[j].inp):=by
 obtain ⟨ba,c,e,hcs⟩:=h.shape
 refine ⟨ba,c,by rw [e,List.length_map],fun j hj=>?_⟩
 obtain ⟨b,o,bb,cc,h1,h2,h3,h4,h5⟩:=hcs j (by rw [List.length_map];exact hj)
 rw [List.getElem_map] at h2 h3 h4 h5
 have e2:(L.ofND nl[j]).inp.length = nl[j].inp.length:=List.length_map _
 rw [e2] at h4 h5
 exact ⟨b,o,bb,cc,h1,h2,h3,h4,h5⟩
end Go.Proofs.YtckhohpbokojdaaGreatDoor
end
section
set_option linter.unusedSimpArgs false
set_option linter.unusedVariables false
namespace Go.Proofs.YtckhohpbokojdaaGreatDoor
open Go Go.RowKit Go.Shelf
theorem bx3q {W:World} {ob:Nat} {a0 a1 a2:Value} {t:TypeId} (h:W.heap[ob]? = some (.cells #[a0,a1,a2] t (0,0))):(W.cell? ⟨ob,0,none⟩ = some a0∧W.cell? ⟨ob,1,none⟩ = some a1∧W.cell? ⟨ob,2,none⟩ = some a2)∧W.frozen? ⟨ob,0,none⟩ = false∧W.frozen? ⟨ob,1,none⟩ = false∧W.frozen? ⟨ob,2,none⟩ = false:=⟨⟨by rw [World.cell?,h];rfl,by rw [World.cell?,h];rfl,by rw [World.cell?,h];rfl⟩,by simp [World.frozen?,h],by simp [World.frozen?,h],by simp [World.frozen?,h]⟩
end Go.Proofs.YtckhohpbokojdaaGreatDoor
end
section
set_option linter.unusedSimpArgs false
set_option linter.unusedVariables false
namespace Go.Proofs.YtckhohpbokojdaaGreatDoor
open Go Go.RowKit Go.Shelf
theorem giv_chk {n:Int} {nl:List L.ND} {x:List Int} (hc:L.netChk n (nl.map L.ofND) = 0):L.netChk n ((L.reduceL (nl.map (L.givND x))).map L.ofND) = 0∧(L.reduceL (nl.map (L.givND x))).length≤nl.length∧∀ y∈L.reduceL (nl.map (L.givND x)),y.inp.length≤nl.length:=by
 obtain ⟨h,hne,hn,hl⟩:=nok_of hc
 obtain ⟨r1,_,_,r4,r5⟩:=red_facts hn (L.map_nok h _ (L.givND_or x)) (map_ne hne) (by rw [List.length_map];exact hl)
 rw [List.length_map] at r4
 simp only [List.length_map] at r5
 exact ⟨r1,r4,r5⟩
end Go.Proofs.YtckhohpbokojdaaGreatDoor
end
section
set_option linter.unusedSimpArgs false
set_option linter.unusedVariables false
namespace Go.Proofs.YtckhohpbokojdaaGreatDoor
open Go Go.RowKit Go.Shelf
theorem and_zero {a b:VSet}:a &&& b = 0↔∀ v,¬ (hasS a v = true∧hasS b v = true):=by
 constructor
 ·intro h v hv
  have h1:hasS (a &&& b) v = true:=by rw [hasS_and,hv.1,hv.2];rfl
  rw [h,L.hasS_zero] at h1
  cases h1
 ·intro h
  refine BitVec.eq_of_getLsbD_eq fun i hi=>?_
  have h1:=h ((i:Int)+1)
  unfold hasS at h1
  have e:(((i:Int)+1) - 1).toNat = i:=by omega
  have d1:decide (1≤(i:Int)+1) = true:=decide_eq_true (by omega)
  have d2:decide ((i:Int)+1≤128) = true:=decide_eq_true (by omega)
  rw [e,d1,d2] at h1
  rw [BitVec.getLsbD_and]
  cases ha:a.getLsbD i <;> cases hb:b.getLsbD i <;> simp_all
theorem sepF_iff (f:Nat→VSet):∀ (l:List Nat) (s:VSet),sepF f l s = true↔(∀ k∈l,∀ v,¬ (hasS s v = true∧hasS (f k) v = true))∧l.Pairwise fun a b=>∀ v,¬ (hasS (f a) v = true∧hasS (f b) v = true)
 | [],s=>by simp [sepF]
 | k :: l,s=>by
   rw [sepF,Bool.and_eq_true,decide_eq_true_eq,and_zero,sepF_iff f l,List.pairwise_cons]
   constructor
   ·rintro ⟨h1,h2,h3⟩
    refine ⟨fun j hj v hv=>?_,fun j hj v hv=>?_,h3⟩
    ·rcases List.mem_cons.1 hj with rfl | hj
     ·exact h1 v hv
     ·exact h2 j hj v ⟨by rw [L.hasS_or,hv.1];rfl,hv.2⟩
    ·exact h2 j hj v ⟨by rw [L.hasS_or,hv.1];simp,hv.2⟩
   ·rintro ⟨h1,h2,h3⟩
    refine ⟨h1 k (List.mem_cons_self ..),fun j hj v hv=>?_,h3⟩
    have hv1:=hv.1
    rw [L.hasS_or,Bool.or_eq_true] at hv1
    rcases hv1 with e | e
    ·exact h1 j (List.mem_cons_of_mem _ hj) v ⟨e,hv.2⟩
    ·exact h2 j hj v ⟨e,hv.2⟩
theorem decF_iff {nl:List L.ND}:decF nl = true↔L.Decomp nl:=by
 unfold decF
 rw [List.all_eq_true]
 constructor
 ·intro h i hi h3
  rw [L.ndAt_lt hi] at h3 ⊢
  have:=h nl[i] (List.getElem_mem hi)
  unfold decN at this
  rw [if_pos h3,sepF_iff] at this
  exact this.2
 ·intro h y hy
  obtain ⟨i,hi,rfl⟩:=List.getElem_of_mem hy
  unfold decN
  by_cases h3:nl[i].kind = 3
  ·rw [if_pos h3,sepF_iff]
   have:=h i hi
   rw [L.ndAt_lt hi] at this
   refine ⟨fun k _ v hv=>?_,this h3⟩
   have hv1:=hv.1
   rw [L.hasS_zero] at hv1
   cases hv1
  ·rw [if_neg h3]
end Go.Proofs.YtckhohpbokojdaaGreatDoor
end
