import Derived.Test.YtckhohpbokojdaaGreatDoorMLaw13
set_option linter.unusedSimpArgs false
set_option linter.unusedVariables false
namespace Go.Proofs.YtckhohpbokojdaaGreatDoor.L
def vsND (v:Nat→VSet) (y:ND):VSet:=y.inp.foldl (fun s k=>s ||| v k) (if y.kind = 2 then withS 0 (y.lit.natAbs:Int) else 0)
def vss (bl:List ND):List VSet:=bl.foldl (fun vs y=>vs++[vsND (fun k=>vs.getD k 0) y]) []
def vset (bl:List ND) (i:Nat):VSet:=(vss bl).getD i 0
theorem vss_snoc (bl:List ND) (y:ND):vss (bl++[y]) = vss bl++[vsND (vset bl) y]:=by unfold vss;rw [List.foldl_append];rfl
theorem vss_len:∀ bl:List ND,(vss bl).length = bl.length:=by
 refine snoc_ind rfl fun l a ih=>?_
 rw [vss_snoc,List.length_append,List.length_append,ih];rfl
theorem vset_snoc_lt {bl:List ND} {y:ND} {i:Nat} (h:i < bl.length):vset (bl++[y]) i = vset bl i:=by
 unfold vset
 rw [vss_snoc,List.getD_eq_getElem?_getD,List.getElem?_append_left (by rw [vss_len];exact h),←List.getD_eq_getElem?_getD]
theorem vset_app {bl m:List ND} {i:Nat} (h:i < bl.length):vset (bl++m) i = vset bl i:=by
 refine snoc_ind (P:=fun m=>vset (bl++m) i = vset bl i) (by simp) (fun l a ih=>?_) m
 rw [←List.append_assoc,vset_snoc_lt (by rw [List.length_append];omega),ih]
theorem vset_new {bl:List ND} {y:ND}:vset (bl++[y]) bl.length = vsND (vset bl) y:=by
 have e:(vss (bl++[y]))[bl.length]? = some (vsND (vset bl) y):=by
  rw [vss_snoc,List.getElem?_append_right (by rw [vss_len];exact Nat.le_refl _),vss_len,Nat.sub_self];rfl
 unfold vset at e ⊢
 rw [List.getD_eq_getElem?_getD,e];rfl
theorem foldl_or_congr {v w:Nat→VSet}:∀ {l:List Nat} (s:VSet),(∀ k∈l,v k = w k)→l.foldl (fun s k=>s ||| v k) s = l.foldl (fun s k=>s ||| w k) s
 | [],_,_=>rfl
 | a :: l,s,h=>by
   rw [List.foldl_cons,List.foldl_cons,h a (List.mem_cons_self ..)]
   exact foldl_or_congr _ fun k hk=>h k (List.mem_cons_of_mem _ hk)
theorem vsND_congr {v w:Nat→VSet} {y:ND} (h:∀ k∈y.inp,v k = w k):vsND v y = vsND w y:=foldl_or_congr _ h
theorem vset_at {i:Nat} {y:ND} {bl:List ND}:(∀ i (hi:i < bl.length),∀ k∈bl[i].inp,k < i)→bl[i]? = some y→vset bl i = vsND (vset bl) y:=by
 refine snoc_ind (P:=fun bl:List ND=>(∀ i (hi:i < bl.length),∀ k∈bl[i].inp,k < i)→bl[i]? = some y→vset bl i = vsND (vset bl) y) (fun _ h=>by simp at h) (fun l a ih hk h=>?_) bl
 have hkl:∀ i (hi:i < l.length),∀ k∈l[i].inp,k < i:=fun i hi k hk'=>by
  have:=hk i (by rw [List.length_append];omega) k
  rw [List.getElem_append_left hi] at this
  exact this hk'
 by_cases hi:i < l.length
 ·rw [List.getElem?_append_left hi] at h
  rw [vset_snoc_lt hi,ih hkl h]
  refine vsND_congr fun k hk'=>(vset_snoc_lt ?_).symm
  have e:l[i] = y:=(List.getElem?_eq_some_iff.1 h).2
  have:=hkl i hi k (by rw [e];exact hk')
  omega
 ·have hil:i = l.length:=by
   have:=(List.getElem?_eq_some_iff.1 h).1
   simp at this;omega
  subst hil
  have e:a = y:=by rw [List.getElem?_append_right (Nat.le_refl _)] at h;simpa using h
  subst e
  rw [vset_new]
  refine vsND_congr fun k hk'=>(vset_snoc_lt ?_).symm
  have:=hk l.length (by simp) k
  rw [List.getElem_append_right (Nat.le_refl _)] at this
  simp only [Nat.sub_self,List.getElem_cons_zero] at this
  exact this hk'
theorem hasS_foldl_or {f:Nat→VSet} (v:Int):∀ (l:List Nat) (s:VSet),hasS (l.foldl (fun s k=>s ||| f k) s) v = true↔hasS s v = true∨∃ k∈l,hasS (f k) v = true
 | [],s=>⟨fun h=>.inl h,fun h=>h.elim id (fun ⟨_,h,_⟩=>by cases h)⟩
 | a :: l,s=>by
   rw [List.foldl_cons,hasS_foldl_or v l,hasS_or,Bool.or_eq_true]
   simp only [List.mem_cons]
   constructor
   ·rintro ((h | h) | ⟨k,hk,h⟩)
    ·exact .inl h
    ·exact .inr ⟨a,.inl rfl,h⟩
    ·exact .inr ⟨k,.inr hk,h⟩
   ·rintro (h | ⟨k,rfl | hk,h⟩)
    ·exact .inl (.inl h)
    ·exact .inl (.inr h)
    ·exact .inr ⟨k,hk,h⟩
theorem hasS_vsND (f:Nat→VSet) (y:ND) (v:Int):hasS (vsND f y) v = true↔(y.kind = 2∧(y.lit.natAbs:Int) = v∧1≤v∧v≤128)∨∃ k∈y.inp,hasS (f k) v = true:=by
 unfold vsND
 rw [hasS_foldl_or]
 by_cases h:y.kind = 2
 ·rw [if_pos h,hasS_with,hasS_zero]
  simp only [Bool.false_or,Bool.and_eq_true,decide_eq_true_eq]
  simp [h,and_assoc]
 ·rw [if_neg h,hasS_zero]
  simp [h]
def litsND (bl:List ND):List Int:=(bl.filter fun y=>decide (y.kind = 2)).map (·.lit)
theorem mem_litsND {bl:List ND} {l:Int}:l∈litsND bl↔∃ y∈bl,y.kind = 2∧y.lit = l:=by
 unfold litsND
 simp only [List.mem_map,List.mem_filter,decide_eq_true_eq,and_assoc]
theorem vset_lits {bl:List ND} (hk:∀ i (hi:i < bl.length),∀ k∈bl[i].inp,k < i) {v:Int}:∀ (n i:Nat),i≤n→i < bl.length→hasS (vset bl i) v = true→∃ l∈litsND bl,(l.natAbs:Int) = v:=by
 intro n
 induction n with
 | zero =>
   intro i hi hil h
   rw [vset_at hk (List.getElem?_eq_getElem hil),hasS_vsND] at h
   rcases h with ⟨h1,h2,_⟩ | ⟨k,hk',h⟩
   ·exact ⟨_,mem_litsND.2 ⟨_,List.getElem_mem hil,h1,rfl⟩,h2⟩
   ·have:=hk i hil k hk';omega
 | succ n ih =>
   intro i hi hil h
   rw [vset_at hk (List.getElem?_eq_getElem hil),hasS_vsND] at h
   rcases h with ⟨h1,h2,_⟩ | ⟨k,hk',h⟩
   ·exact ⟨_,mem_litsND.2 ⟨_,List.getElem_mem hil,h1,rfl⟩,h2⟩
   ·have:=hk i hil k hk'
    exact ih k (by omega) (by omega) h
theorem tv_vset {n:Int} {bl:List ND} (h:NOK n bl) (hn:n≤128) {x y:Asg}:∀ (m i:Nat),i≤m→i < bl.length→(∀ v,hasS (vset bl i) v = true→x v = y v)→tv bl x i = tv bl y i:=by
 have step:∀ i (hi:i < bl.length),(∀ k∈bl[i].inp,(∀ v,hasS (vset bl k) v = true→x v = y v)→tv bl x k = tv bl y k)→(∀ v,hasS (vset bl i) v = true→x v = y v)→tv bl x i = tv bl y i:=fun i hi hin hv=>by
  have e:=List.getElem?_eq_getElem hi
  rw [tv_at h.kids e,tv_at h.kids e]
  rw [vset_at h.kids e] at hv
  have h1:valND (tv bl x) x bl[i] = valND (tv bl y) x bl[i]:=valND_congr fun k hk=>hin k hk fun v hv'=>hv v ((hasS_vsND _ _ _).2 (.inr ⟨k,hk,hv'⟩))
  rw [h1]
  unfold valND
  by_cases hk2:bl[i].kind = 2
  ·have hl:x (bl[i].lit.natAbs:Int) = y (bl[i].lit.natAbs:Int):=by
    refine hv _ ((hasS_vsND _ _ _).2 (.inl ⟨hk2,rfl,?_⟩))
    rcases h.form _ (List.getElem_mem hi) with h2 | h2 | h2
    ·rcases h2.1 with e | e <;> rw [e] at hk2 <;> cases hk2
    ·have:=h2.2.1;omega
    ·rcases h2.1 with e | e <;> rw [e] at hk2 <;> cases hk2
   rw [hl]
  ·simp [hk2]
 intro m
 induction m with
 | zero=>exact fun i hi hil hv=>step i hil (fun k hk=>by have:=h.kids i hil k hk;omega) hv
 | succ m ih=>exact fun i hi hil hv=>step i hil (fun k hk=>by have:=h.kids i hil k hk;exact ih k (by omega) (by omega)) hv
def givND (l:List Int) (y:ND):ND:=if y.kind = 2 then if y.lit∈l then ⟨1,0,[]⟩ else if -y.lit∈l then ⟨0,0,[]⟩ else y else y
def forND (s:VSet) (y:ND):ND:=if y.kind = 2∧hasS s (y.lit.natAbs:Int) = true then ⟨1,0,[]⟩ else y
theorem map_nok {n:Int} {nl:List ND} (h:NOK n nl) (f:ND→ND) (hf:∀ y,f y = y∨((f y).kind = 0∨(f y).kind = 1)∧(f y).lit = 0∧(f y).inp = []):NOK n (nl.map f):=by
 refine ⟨fun i hi k hk=>?_,fun x hx=>?_⟩
 ·rw [List.getElem_map] at hk
  have hi':i < nl.length:=by simpa using hi
  rcases hf nl[i] with e | e
  ·rw [e] at hk;exact h.kids i hi' k hk
  ·rw [e.2.2] at hk;cases hk
 ·obtain ⟨y,hy,rfl⟩:=List.mem_map.1 hx
  rcases hf y with e | e
  ·rw [e];exact h.form y hy
  ·exact .inl e
theorem givND_or (l:List Int) (y:ND):givND l y = y∨((givND l y).kind = 0∨(givND l y).kind = 1)∧(givND l y).lit = 0∧(givND l y).inp = []:=by
 unfold givND
 by_cases h1:y.kind = 2
 ·rw [if_pos h1]
  by_cases h2:y.lit∈l
  ·rw [if_pos h2];exact .inr ⟨.inr rfl,rfl,rfl⟩
  ·rw [if_neg h2]
   by_cases h3:-y.lit∈l
   ·rw [if_pos h3];exact .inr ⟨.inl rfl,rfl,rfl⟩
   ·rw [if_neg h3];exact .inl rfl
 ·rw [if_neg h1];exact .inl rfl
def madeL (a:Asg) (l:List Int):Asg:=l.foldl (fun a z v=>if v = (z.natAbs:Int) then decide (0 < z) else a v) a
theorem madeL_out:∀ (l:List Int) (a:Asg) (v:Int),(∀ z∈l,(z.natAbs:Int)≠v)→madeL a l v = a v
 | [],_,_,_=>rfl
 | z :: l,a,v,h=>by
   show madeL _ l v = _
   rw [madeL_out l _ v fun y hy=>h y (List.mem_cons_of_mem _ hy)]
   exact if_neg (fun e=>h z (List.mem_cons_self ..) e.symm)
theorem madeL_in:∀ (l:List Int) (a:Asg) (z:Int),z∈l→-z∉l→z≠0→madeL a l (z.natAbs:Int) = decide (0 < z)
 | y :: l,a,z,hz,hn,h0=>by
   show madeL _ l _ = _
   have hn':-z∉l:=fun h=>hn (List.mem_cons_of_mem _ h)
   by_cases hzl:z∈l
   ·exact madeL_in l _ z hzl hn' h0
   ·have e:z = y:=(List.mem_cons.1 hz).resolve_right hzl
    subst e
    rw [madeL_out l _ _ fun y hy e=>?_]
    ·exact if_pos rfl
    have:y = z∨y = -z:=by omega
    rcases this with rfl | rfl
    ·exact hzl hy
    ·exact hn' hy
def TermL (n:Int) (l:List Int):Prop:=∀ z∈l,validB n z = true∧-z∉l
theorem giv_true {n:Int} {nl:List ND} (h:NOK n nl) {l:List Int} (hl:TermL n l) (a:Asg):∀ (m i:Nat),i≤m→i < nl.length→tv (nl.map (givND l)) a i = tv nl (madeL a l) i:=by
 have hm:=map_nok h (givND l) (givND_or l)
 have step:∀ i (hi:i < nl.length),(∀ k∈nl[i].inp,tv (nl.map (givND l)) a k = tv nl (madeL a l) k)→tv (nl.map (givND l)) a i = tv nl (madeL a l) i:=fun i hi hin=>by
  have e:=List.getElem?_eq_getElem hi
  have e2:(nl.map (givND l))[i]? = some (givND l nl[i]):=by rw [List.getElem?_map,e];rfl
  rw [tv_at h.kids e,tv_at hm.kids e2]
  by_cases hk2:nl[i].kind = 2
  ·have hf:nl[i].lit≠0:=by
    rcases h.form _ (List.getElem_mem hi) with h2 | h2 | h2
    ·rcases h2.1 with e | e <;> rw [e] at hk2 <;> cases hk2
    ·exact h2.2.1.1
    ·rcases h2.1 with e | e <;> rw [e] at hk2 <;> cases hk2
   generalize nl[i] = y at *
   unfold givND
   rw [if_pos hk2]
   have hR:valND (tv nl (madeL a l)) (madeL a l) y = (madeL a l (y.lit.natAbs:Int) == decide (0 < y.lit)):=by unfold valND;simp [hk2]
   by_cases h1:y.lit∈l
   ·rw [if_pos h1,hR,madeL_in l a y.lit h1 (hl _ h1).2 hf]
    simp [valND]
   ·rw [if_neg h1]
    by_cases h2:-y.lit∈l
    ·rw [if_pos h2,hR]
     have:=madeL_in l a (-y.lit) h2 (by rw [Int.neg_neg];exact h1) (by omega)
     rw [Int.natAbs_neg] at this
     rw [this]
     by_cases h0:0 < y.lit
     ·rw [decide_eq_true h0,decide_eq_false (by omega:¬ 0 < -y.lit)];simp [valND]
     ·rw [decide_eq_false h0,decide_eq_true (by omega:0 < -y.lit)];simp [valND]
    ·rw [if_neg h2,hR,madeL_out l a _ fun z hz e=>?_]
     ·unfold valND;simp [hk2]
     ·have:z = y.lit∨z = -y.lit:=by omega
      rcases this with rfl | rfl
      ·exact h1 hz
      ·exact h2 hz
  ·have eg:givND l nl[i] = nl[i]:=by unfold givND;rw [if_neg hk2]
   rw [eg,valND_congr hin]
   unfold valND
   simp [hk2]
 intro m
 induction m with
 | zero=>exact fun i hi hil=>step i hil fun k hk=>by have:=h.kids i hil k hk;omega
 | succ m ih=>exact fun i hi hil=>step i hil fun k hk=>by have:=h.kids i hil k hk;exact ih k (by omega) (by omega)
def Decomp (bl:List ND):Prop:=∀ i,i < bl.length→(ndAt bl i).kind = 3→(ndAt bl i).inp.Pairwise fun a b=>∀ v,¬ (hasS (vset bl a) v = true∧hasS (vset bl b) v = true)
end Go.Proofs.YtckhohpbokojdaaGreatDoor.L
namespace Go.Proofs.YtckhohpbokojdaaGreatDoor.L
theorem putND_mem {bl:List ND} {x y:ND} (h:y∈(putND bl x).2):y∈bl∨y = x:=by
 unfold putND at h
 split at h
 ·exact .inl h
 ·simpa using h
theorem putND_lits {bl:List ND} {x:ND} {l:Int} (h:l∈litsND (putND bl x).2):l∈litsND bl∨(x.kind = 2∧x.lit = l):=by
 obtain ⟨y,hy,h2,rfl⟩:=mem_litsND.1 h
 rcases putND_mem hy with hy | rfl
 ·exact .inl (mem_litsND.2 ⟨y,hy,h2,rfl⟩)
 ·exact .inr ⟨h2,rfl⟩
theorem addND_lits {bl:List ND} {x:ND} {l:Int} (h:l∈litsND (addND bl x).2):l∈litsND bl∨(x.kind = 2∧x.lit = l):=by
 unfold addND at h
 by_cases h3:x.kind < 3
 ·rw [if_pos h3] at h
  exact putND_lits (x:=⟨x.kind,x.lit,[]⟩) h
 ·rw [if_neg h3] at h
  dsimp only at h
  obtain ⟨D,hD⟩:∃ D:Int,D = if x.kind = 4 then 0 else 1:=⟨_,rfl⟩
  obtain ⟨F,hF⟩:∃ F:Int,F = if x.kind = 4 then 1 else 0:=⟨_,rfl⟩
  have hD2:D≠2:=by rw [hD];split <;> decide
  have hF2:F≠2:=by rw [hF];split <;> decide
  rw [←hD,←hF] at h
  have hd:∀ z:ND,z.kind≠2→l∈litsND (putND bl z).2→l∈litsND bl∨(x.kind = 2∧x.lit = l):=fun z hz h=>(putND_lits h).imp id fun e=>absurd e.1 hz
  split at h
  ·exact hd ⟨F,0,[]⟩ hF2 h
  ·split at h
   ·exact hd ⟨D,0,[]⟩ hD2 h
   ·exact .inl h
   ·exact hd ⟨x.kind,0,_⟩ (by dsimp only;omega) h
theorem redF_lits {n:Int} {nl:List ND}:NOK n nl→∀ l∈litsND (redF nl).1,l∈litsND nl:=by
 refine snoc_ind (P:=fun nl=>NOK n nl→∀ l∈litsND (redF nl).1,l∈litsND nl) (fun _ l hl=>by simp [redF,litsND] at hl) (fun m a ih h l hl=>?_) nl
 rw [redF_snoc] at hl
 have ha:=h.form a (by simp)
 have:=addND_lits hl
 rcases this with h1 | ⟨h1,h2⟩
 ·obtain ⟨y,hy,g⟩:=mem_litsND.1 (ih h.init.1 l h1)
  exact mem_litsND.2 ⟨y,List.mem_append_left _ hy,g⟩
 ·exact mem_litsND.2 ⟨a,by simp,h1,h2⟩
theorem netL_lits {n:Int} {bl:List ND} (hB:BOK n bl) {root:Nat} (hr:root < bl.length):∀ l∈litsND (netL bl root),l∈litsND bl:=fun l hl=>by
 obtain ⟨y,hy,h2,rfl⟩:=mem_litsND.1 hl
 obtain ⟨j,hj,rfl⟩:=List.getElem_of_mem hy
 obtain ⟨i,hi,hu,rfl⟩:=netL_from hB hr hj
 have:=netL_at hB hr hu
 rw [List.getElem?_eq_getElem hj] at this
 have e:=Option.some.inj this
 rw [e] at h2 ⊢
 rw [ndAt_lt (by omega)] at h2 ⊢
 exact mem_litsND.2 ⟨_,List.getElem_mem _,h2,rfl⟩
theorem reduceL_lits {n:Int} {nl:List ND} (h:NOK n nl) (hne:nl≠[]):∀ l∈litsND (reduceL nl),l∈litsND nl:=fun l hl=>by
 obtain ⟨b1,_,_,_,b5,_⟩:=redF_ok h
 have hl0:0 < nl.length:=List.length_pos_iff.2 hne
 exact redF_lits h l (netL_lits b1 (b5 _ (by omega)) l hl)
theorem onceL_sub (bl:List ND) (drop:Int):∀ l,(onceL bl drop l).Sublist l:=by
 refine snoc_ind (by simp [onceL]) fun l i ih=>?_
 rw [onceL_snoc]
 unfold onceStep
 split
 ·exact ih.append (List.Sublist.refl _)
 ·exact ih.trans (List.sublist_append_left l [i])
theorem Dis.symm {f:Nat→VSet} {a b:Nat} (h:∀ v,¬ (hasS (f a) v = true∧hasS (f b) v = true)):∀ v,¬ (hasS (f b) v = true∧hasS (f a) v = true):=fun v e=>h v e.symm
section
variable {n:Int} {bl:List ND} (hB:BOK n bl)
include hB
theorem kids_vset {i:Nat} (hi:i < bl.length) {k:Nat} (hk:k∈(ndAt bl i).inp) {v:Int} (h:hasS (vset bl k) v = true):hasS (vset bl i) v = true:=by
 rw [ndAt_lt hi] at hk
 rw [vset_at hB.kids (List.getElem?_eq_getElem hi),hasS_vsND]
 exact .inr ⟨k,hk,h⟩
theorem flat_vset {kind:Int} {l:List Nat} (hl:∀ k∈l,k < bl.length) {k:Nat} (hk:k∈flatND bl kind l):∃ i∈l,∀ v,hasS (vset bl k) v = true→hasS (vset bl i) v = true:=by
 unfold flatND at hk
 obtain ⟨i,hi,h⟩:=List.mem_flatMap.1 hk
 split at h
 ·exact ⟨i,hi,fun v hv=>kids_vset hB (hl i hi) h hv⟩
 ·rw [List.mem_singleton.1 h];exact ⟨i,hi,fun v hv=>hv⟩
theorem flat_dis (hD:Decomp bl) {l:List Nat} (hl:∀ k∈l,k < bl.length) (hp:l.Pairwise fun a b=>∀ v,¬ (hasS (vset bl a) v = true∧hasS (vset bl b) v = true)):(flatND bl 3 l).Pairwise fun a b=>∀ v,¬ (hasS (vset bl a) v = true∧hasS (vset bl b) v = true):=by
 unfold flatND
 rw [List.pairwise_flatMap]
 have sub:∀ i∈l,∀ k∈(if (ndAt bl i).kind = 3 then (ndAt bl i).inp else [i]),∀ v,hasS (vset bl k) v = true→hasS (vset bl i) v = true:=fun i hi k hk v hv=>by
  split at hk
  ·exact kids_vset hB (hl i hi) hk hv
  ·rw [List.mem_singleton.1 hk] at hv;exact hv
 refine ⟨fun i hi=>?_,hp.imp_of_mem fun {a b} ha hb hab x hx y hy v hv=>hab v ⟨sub a ha x hx v hv.1,sub b hb y hy v hv.2⟩⟩
 split
 ·rename_i h3;exact hD i (hl i hi) h3
 ·exact List.pairwise_singleton ..
theorem put_vset {z:ND} (hk:∀ k∈z.inp,k < bl.length) (hf:(z.kind = 0∨z.kind = 1)∧z.lit = 0∧z.inp = []∨z.kind = 2∧(z.lit≠0∧-n≤z.lit∧z.lit≤n)∧z.inp = []∨(z.kind = 3∨z.kind = 4)∧z.lit = 0∧z.inp.Pairwise (· < ·)∧2≤z.inp.length) (v:Int) :
  hasS (vset (putND bl z).2 (putND bl z).1) v = hasS (vsND (vset bl) z) v:=by
 obtain ⟨g1,g2,⟨m,hm⟩,_⟩:=putND_spec hB hk hf
 rw [vset_at g1.kids g2,hm]
 rw [vsND_congr fun k hk'=>vset_app (hk k hk')]
theorem put_decomp (hD:Decomp bl) {z:ND} (hk:∀ k∈z.inp,k < bl.length) (hz:z.kind = 3→z.inp.Pairwise fun a b=>∀ v,¬ (hasS (vset bl a) v = true∧hasS (vset bl b) v = true)):Decomp (putND bl z).2:=by
 unfold putND
 split
 ·exact hD
 ·intro i hi h3
  by_cases hlt:i < bl.length
  ·rw [ndAt_app hlt] at h3 ⊢
   refine (hD i hlt h3).imp_of_mem fun {a b} ha hb hab v hv=>?_
   rw [ndAt_lt hlt] at ha hb
   have h1:=hB.kids i hlt a ha
   have h2:=hB.kids i hlt b hb
   rw [vset_app (by omega),vset_app (by omega)] at hv
   exact hab v hv
  ·have e:i = bl.length:=by simp at hi;omega
   subst e
   have hz':ndAt (bl++[z]) bl.length = z:=by unfold ndAt;rw [List.getD_eq_getElem?_getD,List.getElem?_append_right (Nat.le_refl _)];simp
   rw [hz'] at h3 ⊢
   refine (hz h3).imp_of_mem fun {a b} ha hb hab v hv=>?_
   rw [vset_app (hk a ha),vset_app (hk b hb)] at hv
   exact hab v hv
theorem add_decomp (hD:Decomp bl) {y:ND} (hk:∀ k∈y.inp,k < bl.length) (hf:(y.kind = 0∨y.kind = 1)∧y.lit = 0∧y.inp = []∨y.kind = 2∧(y.lit≠0∧-n≤y.lit∧y.lit≤n)∧y.inp = []∨(y.kind = 3∨y.kind = 4)∧y.lit = 0)
  (hy:y.kind = 3→y.inp.Pairwise fun a b=>∀ v,¬ (hasS (vset bl a) v = true∧hasS (vset bl b) v = true)) :
  Decomp (addND bl y).2∧∀ v,hasS (vset (addND bl y).2 (addND bl y).1) v = true→hasS (vsND (vset bl) y) v = true:=by
 have hfl:∀ k∈flatND bl y.kind y.inp,k < bl.length:=hB.flat_lt hk
 have hvs:∀ k∈flatND bl y.kind y.inp,∀ v,hasS (vset bl k) v = true→hasS (vsND (vset bl) y) v = true:=fun k hk' v hv=>by
  obtain ⟨i,hi,h⟩:=flat_vset hB hk hk'
  rw [hasS_vsND]
  exact .inr ⟨i,hi,h v hv⟩
 have hcon:∀ z:ND,(z.kind = 0∨z.kind = 1)∧z.lit = 0∧z.inp = []→Decomp (putND bl z).2∧∀ v,hasS (vset (putND bl z).2 (putND bl z).1) v = true→hasS (vsND (vset bl) y) v = true:=fun z hz=>by
  have h1:∀ k∈z.inp,k < bl.length:=fun k h=>by rw [hz.2.2] at h;cases h
  refine ⟨put_decomp hB hD h1 (fun e=>by rcases hz.1 with h | h <;> (rw [h] at e;cases e)),fun v hv=>?_⟩
  rw [put_vset hB h1 (.inl hz),hasS_vsND] at hv
  rcases hv with ⟨h,_⟩ | ⟨k,h,_⟩
  ·rcases hz.1 with e | e <;> rw [e] at h <;> cases h
  ·rw [hz.2.2] at h;cases h
 unfold addND
 by_cases h3:y.kind < 3
 ·rw [if_pos h3]
  have h1:∀ k∈(⟨y.kind,y.lit,[]⟩:ND).inp,k < bl.length:=fun k h=>by cases h
  refine ⟨put_decomp hB hD h1 fun e=>by dsimp only at e;omega,fun v hv=>?_⟩
  rw [put_vset hB h1 (by dsimp only;rcases hf with h | h | h;exact .inl ⟨h.1,h.2.1,rfl⟩;exact .inr (.inl ⟨h.1,h.2.1,rfl⟩);omega),hasS_vsND] at hv
  rw [hasS_vsND]
  rcases hv with h | ⟨k,h,_⟩
  ·exact .inl h
  ·cases h
 ·rw [if_neg h3]
  dsimp only
  obtain ⟨D,hDe⟩:∃ D:Int,D = if y.kind = 4 then 0 else 1:=⟨_,rfl⟩
  obtain ⟨F,hF⟩:∃ F:Int,F = if y.kind = 4 then 1 else 0:=⟨_,rfl⟩
  have hD2:D = 0∨D = 1:=by rw [hDe];split <;> simp
  have hF2:F = 0∨F = 1:=by rw [hF];split <;> simp
  rw [←hDe,←hF]
  split
  ·exact hcon ⟨F,0,[]⟩ ⟨hF2,rfl,rfl⟩
  ·split
   ·exact hcon ⟨D,0,[]⟩ ⟨hD2,rfl,rfl⟩
   ·rename_i i hi
    have hm:i∈flatND bl y.kind y.inp:=((mem_onceL bl _ i _).1 (by rw [hi];exact List.mem_singleton.2 rfl)).1
    exact ⟨hD,fun v hv=>hvs i hm v hv⟩
   ·rename_i m hm1 hm2
    generalize hM:onceL bl D (flatND bl y.kind y.inp) = M at *
    have hmem:∀ k∈sortN M,k∈flatND bl y.kind y.inp:=fun k h=>by
     have:=(sortN_perm M).mem_iff.1 h
     rw [←hM] at this
     exact ((mem_onceL bl _ k _).1 this).1
    have h1:∀ k∈(⟨y.kind,0,sortN M⟩:ND).inp,k < bl.length:=fun k h=>hfl k (hmem k h)
    have hnd:M.Nodup:=by rw [←hM];exact nodup_onceL bl _ _
    have hlen:2≤(sortN M).length:=by
     rw [(sortN_perm M).length_eq]
     match M,hm1,hm2 with
     | [],h,_=>exact absurd rfl h
     | [i],_,h=>exact absurd rfl (h i)
     | _ :: _ :: _,_,_=>simp
    have hsorted:(sortN M).Pairwise (· < ·):=by
     have h1:=sortN_sorted M
     have h2:(sortN M).Nodup:=(sortN_perm M).nodup_iff.2 hnd
     exact (h1.and h2).imp fun {a b} h=>by have:=h.1;have:=h.2;omega
    refine ⟨put_decomp hB hD h1 fun e=>?_,fun v hv=>?_⟩
    ·dsimp only at e ⊢
     have hp:=flat_dis hB hD hk (hy e)
     rw [e] at hM
     have hp2:M.Pairwise fun a b=>∀ v,¬ (hasS (vset bl a) v = true∧hasS (vset bl b) v = true):=by
      rw [←hM];exact hp.sublist (onceL_sub bl _ _)
     exact (sortN_perm M).symm.pairwise hp2 fun {a b} h=>Dis.symm (f:=vset bl) h
    ·rw [put_vset hB h1 (.inr (.inr ⟨by dsimp only;omega,rfl,hsorted,hlen⟩)),hasS_vsND] at hv
     rcases hv with ⟨h,_⟩ | ⟨k,h,hv⟩
     ·dsimp only at h;omega
     ·exact hvs k (hmem k h) v hv
end
theorem redF_decomp {n:Int} {nl:List ND}:NOK n nl→Decomp nl→Decomp (redF nl).1∧∀ i,i < nl.length→∀ v,hasS (vset (redF nl).1 ((redF nl).2.getD i 0)) v = true→hasS (vset nl i) v = true:=by
 refine snoc_ind (P:=fun nl=>NOK n nl→Decomp nl→Decomp (redF nl).1∧∀ i,i < nl.length→∀ v,hasS (vset (redF nl).1 ((redF nl).2.getD i 0)) v = true→hasS (vset nl i) v = true) (fun _ _=>⟨fun i hi=>absurd hi (Nat.not_lt_zero _),fun i hi=>absurd hi (Nat.not_lt_zero _)⟩) (fun l a ih h hD=>?_) nl
 obtain ⟨h1,h2⟩:=h.init
 obtain ⟨b1,b2,b3,b4,b5,b6⟩:=redF_ok h1
 have hDl:Decomp l:=fun i hi h3=>by
  have:=hD i (by simp;omega)
  rw [ndAt_app hi] at this
  refine (this h3).imp_of_mem fun {x y} hx hy hxy v hv=>?_
  rw [ndAt_lt hi] at hx hy
  have g1:=h1.kids i hi x hx
  have g2:=h1.kids i hi y hy
  refine hxy v ?_
  rw [vset_app (by omega),vset_app (by omega)];exact hv
 obtain ⟨c1,c2⟩:=ih h1 hDl
 have ha:=h.form a (by simp)
 have hk:∀ k∈(⟨a.kind,a.lit,a.inp.map fun k=>(redF l).2.getD k 0⟩:ND).inp,k < (redF l).1.length:=fun k hk'=>by
  obtain ⟨m,hm,rfl⟩:=List.mem_map.1 hk'
  exact b5 m (h2 m hm)
 have hf:(a.kind = 0∨a.kind = 1)∧a.lit = 0∧a.inp.map (fun k=>(redF l).2.getD k 0) = []∨a.kind = 2∧(a.lit≠0∧-n≤a.lit∧a.lit≤n)∧a.inp.map (fun k=>(redF l).2.getD k 0) = []∨(a.kind = 3∨a.kind = 4)∧a.lit = 0:=by
  rcases ha with h | h | h
  ·exact .inl ⟨h.1,h.2.1,by rw [h.2.2];rfl⟩
  ·exact .inr (.inl ⟨h.1,h.2.1,by rw [h.2.2];rfl⟩)
  ·exact .inr (.inr h)
 have hpw:a.kind = 3→(a.inp.map fun k=>(redF l).2.getD k 0).Pairwise fun x y=>∀ v,¬ (hasS (vset (redF l).1 x) v = true∧hasS (vset (redF l).1 y) v = true):=fun h3=>by
  have hend:ndAt (l++[a]) l.length = a:=by unfold ndAt;rw [List.getD_eq_getElem?_getD,List.getElem?_append_right (Nat.le_refl _)];simp
  have:=hD l.length (by simp)
  rw [hend] at this
  rw [List.pairwise_map]
  refine (this h3).imp_of_mem fun {x y} hx hy hxy v hv=>?_
  refine hxy v ?_
  rw [vset_app (h2 x hx),vset_app (h2 y hy)]
  exact ⟨c2 x (h2 x hx) v hv.1,c2 y (h2 y hy) v hv.2⟩
 obtain ⟨d1,d2⟩:=add_decomp b1 c1 hk hf hpw
 obtain ⟨_,_,⟨m,hm⟩,_⟩:=b1.add hk hf
 rw [redF_snoc]
 refine ⟨d1,fun i hi v hv=>?_⟩
 have hst:(redStep (redF l) a).1 = (addND (redF l).1 ⟨a.kind,a.lit,a.inp.map fun k=>(redF l).2.getD k 0⟩).2:=rfl
 have hst2:(redStep (redF l) a).2 = (redF l).2++[(addND (redF l).1 ⟨a.kind,a.lit,a.inp.map fun k=>(redF l).2.getD k 0⟩).1]:=rfl
 rw [hst,hst2] at hv
 by_cases hlt:i < l.length
 ·rw [List.getD_eq_getElem?_getD,List.getElem?_append_left (by omega),←List.getD_eq_getElem?_getD,hm,vset_app (b5 i hlt)] at hv
  rw [vset_app hlt]
  exact c2 i hlt v hv
 ·have e:i = l.length:=by simp at hi;omega
  subst e
  rw [List.getD_eq_getElem?_getD,List.getElem?_append_right (by omega),b3,Nat.sub_self] at hv
  have:=d2 v hv
  rw [vset_new,hasS_vsND]
  rw [hasS_vsND] at this
  rcases this with h | ⟨k,hk',h⟩
  ·exact .inl h
  ·obtain ⟨x,hx,rfl⟩:=List.mem_map.1 hk'
   exact .inr ⟨x,hx,c2 x (h2 x hx) v h⟩
theorem netL_vset {n:Int} {bl:List ND} (hB:BOK n bl) {root:Nat} (hr:root < bl.length) {v:Int}:∀ (m i:Nat),i≤m→useF bl root i = true→hasS (vset (netL bl root) (moveN bl root i)) v = true→hasS (vset bl i) v = true:=by
 have hmax:=(useF_ok hB.kids hr).max
 have hdown:=(useF_ok hB.kids hr).down
 have hkn:=netL_kids hB.kids hr
 have step:∀ i,useF bl root i = true→(∀ k∈(ndAt bl i).inp,hasS (vset (netL bl root) (moveN bl root k)) v = true→hasS (vset bl k) v = true)→hasS (vset (netL bl root) (moveN bl root i)) v = true→hasS (vset bl i) v = true:=fun i hi hin hv=>by
  have hil:i < bl.length:=by have:=hmax i hi;omega
  rw [vset_at hkn (netL_at hB hr hi),hasS_vsND] at hv
  rw [vset_at hB.kids (List.getElem?_eq_getElem hil),hasS_vsND,←ndAt_lt hil]
  rcases hv with h | ⟨k,hk,h⟩
  ·exact .inl h
  ·obtain ⟨x,hx,rfl⟩:=List.mem_map.1 hk
   exact .inr ⟨x,hx,hin x hx h⟩
 have hkid:∀ i,useF bl root i = true→∀ k∈(ndAt bl i).inp,k < i:=fun i hi k hk=>by
  have hil:i < bl.length:=by have:=hmax i hi;omega
  rw [ndAt_lt hil] at hk
  exact hB.kids i hil k hk
 intro m
 induction m with
 | zero=>exact fun i hi hu=>step i hu fun k hk=>by have:=hkid i hu k hk;omega
 | succ m ih=>exact fun i hi hu=>step i hu fun k hk=>ih k (by have:=hkid i hu k hk;omega) (hdown i hu k hk)
theorem netL_decomp {n:Int} {bl:List ND} (hB:BOK n bl) {root:Nat} (hr:root < bl.length) (hD:Decomp bl):Decomp (netL bl root):=fun j hj h3=>by
 obtain ⟨i,hi,hu,rfl⟩:=netL_from hB hr hj
 rw [netL_ndAt hB hr hu] at h3 ⊢
 dsimp only at h3 ⊢
 rw [List.pairwise_map]
 refine (hD i (by omega) h3).imp_of_mem fun {a b} ha hb hab v hv=>hab v ?_
 have hdown:=(useF_ok hB.kids hr).down i hu
 exact ⟨netL_vset hB hr a a (Nat.le_refl _) (hdown a ha) hv.1,netL_vset hB hr b b (Nat.le_refl _) (hdown b hb) hv.2⟩
theorem reduceL_decomp {n:Int} {nl:List ND} (h:NOK n nl) (hne:nl≠[]) (hD:Decomp nl):Decomp (reduceL nl):=by
 obtain ⟨b1,_,_,_,b5,_⟩:=redF_ok h
 have hl0:0 < nl.length:=List.length_pos_iff.2 hne
 exact netL_decomp b1 (b5 _ (by omega)) (redF_decomp h hD).1
theorem map_vset {n:Int} {nl:List ND} (h:NOK n nl) (f:ND→ND) (hf:∀ y,f y = y∨((f y).kind = 0∨(f y).kind = 1)∧(f y).lit = 0∧(f y).inp = []) {v:Int}:∀ (m i:Nat),i≤m→i < nl.length→hasS (vset (nl.map f) i) v = true→hasS (vset nl i) v = true:=by
 have hm:=map_nok h f hf
 have step:∀ i (hi:i < nl.length),(∀ k∈nl[i].inp,hasS (vset (nl.map f) k) v = true→hasS (vset nl k) v = true)→hasS (vset (nl.map f) i) v = true→hasS (vset nl i) v = true:=fun i hi hin hv=>by
  have e:=List.getElem?_eq_getElem hi
  have e2:(nl.map f)[i]? = some (f nl[i]):=by rw [List.getElem?_map,e];rfl
  rw [vset_at hm.kids e2,hasS_vsND] at hv
  rw [vset_at h.kids e,hasS_vsND]
  rcases hf nl[i] with g | g
  ·rw [g] at hv
   exact hv.imp id fun ⟨k,hk,h⟩=>⟨k,hk,hin k hk h⟩
  ·rcases hv with ⟨h2,_⟩ | ⟨k,hk,_⟩
   ·rcases g.1 with e | e <;> rw [e] at h2 <;> cases h2
   ·rw [g.2.2] at hk;cases hk
 intro m
 induction m with
 | zero=>exact fun i hi hil=>step i hil fun k hk=>by have:=h.kids i hil k hk;omega
 | succ m ih=>exact fun i hi hil=>step i hil fun k hk=>by have:=h.kids i hil k hk;exact ih k (by omega) (by omega)
theorem map_decomp {n:Int} {nl:List ND} (h:NOK n nl) (f:ND→ND) (hf:∀ y,f y = y∨((f y).kind = 0∨(f y).kind = 1)∧(f y).lit = 0∧(f y).inp = []) (hD:Decomp nl):Decomp (nl.map f):=fun i hi h3=>by
 have hil:i < nl.length:=by simpa using hi
 have e2:ndAt (nl.map f) i = f nl[i]:=by rw [ndAt_lt hi,List.getElem_map]
 rw [e2] at h3 ⊢
 rcases hf nl[i] with g | g
 ·rw [g] at h3 ⊢
  have:=hD i hil
  rw [ndAt_lt hil] at this
  refine (this h3).imp_of_mem fun {a b} ha hb hab v hv=>hab v ?_
  have g1:=h.kids i hil a ha
  have g2:=h.kids i hil b hb
  exact ⟨map_vset h f hf a a (Nat.le_refl _) (by omega) hv.1,map_vset h f hf b b (Nat.le_refl _) (by omega) hv.2⟩
 ·rw [g.2.2];exact .nil
end Go.Proofs.YtckhohpbokojdaaGreatDoor.L
