import Derived.Test.YtckhohpbokojdaaGreatDoorMLaw11
set_option linter.unusedSimpArgs false
set_option linter.unusedVariables false
namespace Go.Proofs.YtckhohpbokojdaaGreatDoor.L
structure ND where
 kind:Int
 lit:Int
 inp:List Nat
 deriving DecidableEq,Inhabited
def zeroND:ND:=⟨0,0,[]⟩
def ndAt (bl:List ND) (i:Nat):ND:=bl.getD i zeroND
def flatND (bl:List ND) (kind:Int) (l:List Nat):List Nat:=l.flatMap fun i=>if (ndAt bl i).kind = kind then (ndAt bl i).inp else [i]
structure InS where
 out:List Nat
 lits:List Int
 opn:Bool
def inStep (bl:List ND) (drop fin:Int) (a:InS) (i:Nat):InS :=
 let x:=ndAt bl i
 let b:InS:=if x.kind = fin∨(x.kind = 2∧-x.lit∈a.lits) then { a with opn:=false } else if x.kind≠drop∧i∉a.out then { a with out:=a.out++[i] } else a
 if x.kind = 2 then { b with lits:=x.lit :: b.lits } else b
def inRun (bl:List ND) (drop fin:Int) (l:List Nat):InS:=l.foldl (inStep bl drop fin) ⟨[],[],true⟩
def onceStep (bl:List ND) (drop:Int) (out:List Nat) (i:Nat):List Nat:=if (ndAt bl i).kind≠drop∧i∉out then out++[i] else out
def onceL (bl:List ND) (drop:Int) (l:List Nat):List Nat:=l.foldl (onceStep bl drop) []
def decidedP (bl:List ND) (fin:Int) (l:List Nat):Prop:=∃ i∈l,(ndAt bl i).kind = fin∨∃ k∈l,(ndAt bl i).kind = 2∧(ndAt bl k).kind = 2∧(ndAt bl i).lit = -(ndAt bl k).lit
instance (bl:List ND) (fin:Int) (l:List Nat):Decidable (decidedP bl fin l):=by unfold decidedP;infer_instance
theorem onceL_snoc (bl:List ND) (drop:Int) (l:List Nat) (i:Nat):onceL bl drop (l++[i]) = onceStep bl drop (onceL bl drop l) i:=by unfold onceL;rw [List.foldl_append];rfl
theorem inRun_snoc (bl:List ND) (drop fin:Int) (l:List Nat) (i:Nat):inRun bl drop fin (l++[i]) = inStep bl drop fin (inRun bl drop fin l) i:=by unfold inRun;rw [List.foldl_append];rfl
theorem snoc_ind {α:Type} {P:List α→Prop} (h0:P []) (h1:∀ l a,P l→P (l++[a])) (l:List α):P l:=by
 have:∀ n,∀ l:List α,l.length = n→P l:=by
  intro n
  induction n with
  | zero=>intro l hl;rw [List.length_eq_zero_iff.1 hl];exact h0
  | succ n ih =>
    intro l hl
    have hne:l≠[]:=by intro e;rw [e] at hl;cases hl
    rw [←List.dropLast_concat_getLast hne]
    exact h1 _ _ (ih _ (by rw [List.length_dropLast];omega))
 exact this _ l rfl
theorem mem_onceL (bl:List ND) (drop:Int) (i:Nat):∀ l,i∈onceL bl drop l↔i∈l∧(ndAt bl i).kind≠drop:=by
 refine snoc_ind (by simp [onceL]) fun l k ih=>?_
 rw [onceL_snoc]
 unfold onceStep
 by_cases h:(ndAt bl k).kind≠drop∧k∉onceL bl drop l
 ·rw [if_pos h,List.mem_append,ih,List.mem_append,List.mem_singleton]
  constructor
  ·rintro (h1 | rfl)
   ·exact ⟨.inl h1.1,h1.2⟩
   ·exact ⟨.inr rfl,h.1⟩
  ·rintro ⟨h1 | rfl,h2⟩
   ·exact .inl ⟨h1,h2⟩
   ·exact .inr rfl
 ·rw [if_neg h,ih,List.mem_append,List.mem_singleton]
  constructor
  ·exact fun h1=>⟨.inl h1.1,h1.2⟩
  ·rintro ⟨h1 | rfl,h2⟩
   ·exact ⟨h1,h2⟩
   ·by_cases hk:i∈onceL bl drop l
    ·exact ih.1 hk
    ·exact absurd ⟨h2,hk⟩ h
theorem nodup_onceL (bl:List ND) (drop:Int):∀ l,(onceL bl drop l).Nodup:=by
 refine snoc_ind (by simp [onceL]) fun l k ih=>?_
 rw [onceL_snoc]
 unfold onceStep
 split
 ·rename_i h
  rw [List.nodup_append]
  exact ⟨ih,by simp,fun a ha b hb e=>h.2 (by rw [←List.mem_singleton.1 hb,←e];exact ha)⟩
 ·exact ih
theorem mem_lits (bl:List ND) (drop fin:Int) (z:Int):∀ l,z∈(inRun bl drop fin l).lits↔∃ i∈l,(ndAt bl i).kind = 2∧(ndAt bl i).lit = z:=by
 refine snoc_ind (by simp [inRun]) fun l k ih=>?_
 rw [inRun_snoc]
 have hb:∀ (b:InS),b.lits = (inRun bl drop fin l).lits→(z∈(if (ndAt bl k).kind = 2 then { b with lits:=(ndAt bl k).lit :: b.lits } else b:InS).lits↔∃ i∈l++[k],(ndAt bl i).kind = 2∧(ndAt bl i).lit = z):=fun b hb=>by
  by_cases h2:(ndAt bl k).kind = 2
  ·rw [if_pos h2]
   show z∈_ :: b.lits↔_
   rw [List.mem_cons,hb,ih]
   constructor
   ·rintro (e | ⟨i,hi,h⟩)
    ·exact ⟨k,by simp,h2,e.symm⟩
    ·exact ⟨i,List.mem_append_left _ hi,h⟩
   ·rintro ⟨i,hi,h⟩
    rcases List.mem_append.1 hi with hi | hi
    ·exact .inr ⟨i,hi,h⟩
    ·rw [List.mem_singleton.1 hi] at h;exact .inl h.2.symm
  ·rw [if_neg h2,hb,ih]
   constructor
   ·rintro ⟨i,hi,h⟩;exact ⟨i,List.mem_append_left _ hi,h⟩
   ·rintro ⟨i,hi,h⟩
    rcases List.mem_append.1 hi with hi | hi
    ·exact ⟨i,hi,h⟩
    ·rw [List.mem_singleton.1 hi] at h;exact absurd h.1 h2
 unfold inStep
 refine hb _ ?_
 split
 ·rfl
 ·split <;> rfl
theorem inRun_eq (bl:List ND) (drop fin:Int) (hl:∀ i,(ndAt bl i).kind = 2→(ndAt bl i).lit≠0):∀ l,((inRun bl drop fin l).opn = true↔¬ decidedP bl fin l)∧((inRun bl drop fin l).opn = true→(inRun bl drop fin l).out = onceL bl drop l):=by
 refine snoc_ind ⟨by simp [inRun,decidedP],fun _=>rfl⟩ fun l k ih=>?_
 obtain ⟨ih1,ih2⟩:=ih
 have hmem:=fun z=>mem_lits bl drop fin z l
 rw [inRun_snoc,onceL_snoc]
 have hfin:∀ (b:InS),(if (ndAt bl k).kind = 2 then { b with lits:=(ndAt bl k).lit :: b.lits } else b:InS).opn = b.opn∧(if (ndAt bl k).kind = 2 then { b with lits:=(ndAt bl k).lit :: b.lits } else b:InS).out = b.out:=fun b=>by split <;> exact ⟨rfl,rfl⟩
 have hdec:decidedP bl fin (l++[k])↔decidedP bl fin l∨(ndAt bl k).kind = fin∨((ndAt bl k).kind = 2∧-(ndAt bl k).lit∈(inRun bl drop fin l).lits):=by
  rw [hmem]
  constructor
  ·rintro ⟨i,hi,h⟩
   rcases List.mem_append.1 hi with hi | hi
   ·rcases h with h | ⟨m,hm,h1,h2,h3⟩
    ·exact .inl ⟨i,hi,.inl h⟩
    ·rcases List.mem_append.1 hm with hm | hm
     ·exact .inl ⟨i,hi,.inr ⟨m,hm,h1,h2,h3⟩⟩
     ·rw [List.mem_singleton.1 hm] at h2 h3
      exact .inr (.inr ⟨h2,i,hi,h1,h3⟩)
   ·rw [List.mem_singleton.1 hi] at h
    rcases h with h | ⟨m,hm,h1,h2,h3⟩
    ·exact .inr (.inl h)
    ·rcases List.mem_append.1 hm with hm | hm
     ·exact .inr (.inr ⟨h1,m,hm,h2,by omega⟩)
     ·rw [List.mem_singleton.1 hm] at h2 h3
      have:=hl k h1
      omega
  ·rintro (⟨i,hi,h | ⟨m,hm,h⟩⟩ | h | ⟨h1,i,hi,h2,h3⟩)
   ·exact ⟨i,List.mem_append_left _ hi,.inl h⟩
   ·exact ⟨i,List.mem_append_left _ hi,.inr ⟨m,List.mem_append_left _ hm,h⟩⟩
   ·exact ⟨k,by simp,.inl h⟩
   ·exact ⟨k,by simp,.inr ⟨i,List.mem_append_left _ hi,h1,h2,by omega⟩⟩
 unfold inStep
 simp only []
 rw [(hfin _).1,(hfin _).2,hdec]
 by_cases h:(ndAt bl k).kind = fin∨((ndAt bl k).kind = 2∧-(ndAt bl k).lit∈(inRun bl drop fin l).lits)
 ·rw [if_pos h]
  exact ⟨⟨fun e=>(by cases e),fun e=>absurd (.inr h) e⟩,fun e=>by cases e⟩
 ·rw [if_neg h]
  have hno:(decidedP bl fin l∨(ndAt bl k).kind = fin∨((ndAt bl k).kind = 2∧-(ndAt bl k).lit∈(inRun bl drop fin l).lits))↔decidedP bl fin l:=⟨fun e=>e.elim id fun e=>absurd e h,.inl⟩
  rw [hno]
  unfold onceStep
  by_cases h3:(ndAt bl k).kind≠drop∧k∉(inRun bl drop fin l).out
  ·rw [if_pos h3]
   refine ⟨ih1,fun e=>?_⟩
   have e':(inRun bl drop fin l).opn = true:=e
   show (inRun bl drop fin l).out++[k] = _
   rw [if_pos (by rw [←ih2 e'];exact h3),ih2 e']
  ·rw [if_neg h3]
   refine ⟨ih1,fun e=>?_⟩
   rw [if_neg (by rw [←ih2 e];exact h3),ih2 e]
def insN (a:Nat):List Nat→List Nat
 | []=>[a]
 | b :: r=>if a≤b then a :: b :: r else b :: insN a r
def sortN:List Nat→List Nat
 | []=>[]
 | a :: r=>insN a (sortN r)
theorem insN_perm (a:Nat):∀ l,(insN a l).Perm (a :: l)
 | []=>.refl _
 | b :: r=>by
   rw [insN];split
   ·exact .refl _
   ·exact ((insN_perm a r).cons b).trans (.swap a b r)
theorem sortN_perm:∀ l,(sortN l).Perm l
 | []=>.refl _
 | a :: r=>(insN_perm a _).trans ((sortN_perm r).cons a)
theorem insN_sorted (a:Nat):∀ {l},l.Pairwise (·≤·)→(insN a l).Pairwise (·≤·)
 | [],_=>List.pairwise_singleton _ _
 | b :: r,h=>by
   rw [List.pairwise_cons] at h
   rw [insN];split
   ·rename_i hab
    rw [List.pairwise_cons]
    refine ⟨fun c hc=>?_,by rw [List.pairwise_cons];exact h⟩
    rcases List.mem_cons.1 hc with rfl | hc
    ·exact hab
    ·exact Nat.le_trans hab (h.1 c hc)
   ·rw [List.pairwise_cons]
    refine ⟨fun c hc=>?_,insN_sorted a h.2⟩
    rcases List.mem_cons.1 ((insN_perm a r).mem_iff.1 hc) with rfl | hc
    ·omega
    ·exact h.1 c hc
theorem sortN_sorted:∀ l,(sortN l).Pairwise (·≤·)
 | []=>.nil
 | a :: r=>insN_sorted a (sortN_sorted r)
theorem sortedN_eq:∀ {l m:List Nat},l.Pairwise (·≤·)→m.Pairwise (·≤·)→l.Perm m→l = m
 | [],m,_,_,h=>(List.nil_perm.1 h).symm
 | a :: r,[],_,_,h=>by have:=h.length_eq;simp at this
 | a :: r,b :: q,h1,h2,h=>by
   rw [List.pairwise_cons] at h1 h2
   have hab:a = b:=by
    have ha:=h.mem_iff.1 (List.mem_cons_self (a:=a) (l:=r))
    have hb:=h.mem_iff.2 (List.mem_cons_self (a:=b) (l:=q))
    rcases List.mem_cons.1 ha with e | ha
    ·exact e
    ·rcases List.mem_cons.1 hb with e | hb
     ·exact e.symm
     ·have:=h1.1 b hb
      have:=h2.1 a ha
      omega
   subst hab
   rw [sortedN_eq h1.2 h2.2 (List.perm_cons a |>.1 h)]
theorem sortN_eq {l m:List Nat} (h1:m.Pairwise (·≤·)) (h2:m.Perm l):m = sortN l:=sortedN_eq h1 (sortN_sorted l) (h2.trans (sortN_perm l).symm)
def putND (bl:List ND) (x:ND):Nat × List ND:=match bl.findIdx? (fun y=>decide (y = x)) with
 | some i=>(i,bl)
 | none=>(bl.length,bl++[x])
def addND (bl:List ND) (x:ND):Nat × List ND :=
 if x.kind < 3 then putND bl ⟨x.kind,x.lit,[]⟩ else
  let drop:Int:=if x.kind = 4 then 0 else 1
  let fin:Int:=if x.kind = 4 then 1 else 0
  let l:=flatND bl x.kind x.inp
  if decidedP bl fin l then putND bl ⟨fin,0,[]⟩ else
   match onceL bl drop l with
   | []=>putND bl ⟨drop,0,[]⟩
   | [i]=>(i,bl)
   | m=>putND bl ⟨x.kind,0,sortN m⟩
structure BOK (n:Int) (bl:List ND):Prop where
 nd:bl.Nodup
 kids:∀ i (hi:i < bl.length),∀ k∈bl[i].inp,k < i
 form:∀ x∈bl,(x.kind = 0∨x.kind = 1)∧x.lit = 0∧x.inp = []∨x.kind = 2∧(x.lit≠0∧-n≤x.lit∧x.lit≤n)∧x.inp = []∨(x.kind = 3∨x.kind = 4)∧x.lit = 0∧x.inp.Pairwise (· < ·)∧2≤x.inp.length
theorem BOK.nil (n:Int):BOK n []:=⟨.nil,fun i hi=>absurd hi (Nat.not_lt_zero _),fun x hx=>by cases hx⟩
theorem ndAt_lt {bl:List ND} {i:Nat} (hi:i < bl.length):ndAt bl i = bl[i]:=by unfold ndAt;rw [List.getD_eq_getElem?_getD,List.getElem?_eq_getElem hi];rfl
theorem putND_spec {n:Int} {bl:List ND} (h:BOK n bl) {x:ND} (hk:∀ k∈x.inp,k < bl.length) (hf:(x.kind = 0∨x.kind = 1)∧x.lit = 0∧x.inp = []∨x.kind = 2∧(x.lit≠0∧-n≤x.lit∧x.lit≤n)∧x.inp = []∨(x.kind = 3∨x.kind = 4)∧x.lit = 0∧x.inp.Pairwise (· < ·)∧2≤x.inp.length) :
  BOK n (putND bl x).2∧(putND bl x).2[(putND bl x).1]? = some x∧(∃ m,(putND bl x).2 = bl++m)∧(putND bl x).2.length≤bl.length+1:=by
 unfold putND
 split
 ·rename_i i hi
  obtain ⟨h1,h2,_⟩:=List.findIdx?_eq_some_iff_getElem.1 hi
  refine ⟨h,?_,⟨[],by simp⟩,by simp⟩
  rw [List.getElem?_eq_getElem h1]
  simpa using h2
 ·rename_i hi
  rw [List.findIdx?_eq_none_iff] at hi
  refine ⟨⟨?_,fun i hil k hk'=>?_,fun y hy=>?_⟩,?_,⟨[x],rfl⟩,by simp⟩
  ·rw [List.nodup_append]
   exact ⟨h.nd,by simp,fun a ha b hb e=>by have:=hi a ha;simp at this;exact this (by rw [e,List.mem_singleton.1 hb])⟩
  ·by_cases hlt:i < bl.length
   ·simp only [List.getElem_append_left hlt] at hk'
    exact h.kids i hlt k hk'
   ·have:i = bl.length:=by simp at hil;omega
    subst this
    simp only [List.getElem_append_right (Nat.le_refl _),Nat.sub_self,List.getElem_cons_zero] at hk'
    exact hk k hk'
  ·rcases List.mem_append.1 hy with hy | hy
   ·exact h.form y hy
   ·rw [List.mem_singleton.1 hy];exact hf
  ·rw [List.getElem?_append_right (Nat.le_refl _)];simp
end Go.Proofs.YtckhohpbokojdaaGreatDoor.L
namespace Go.Proofs.YtckhohpbokojdaaGreatDoor.L
def valND (v:Nat→Bool) (x:Asg) (y:ND):Bool :=
 if y.kind = 1 then true else if y.kind = 2 then (x (y.lit.natAbs:Int) == decide (0 < y.lit)) else if y.kind = 3 then y.inp.all v else if y.kind = 4 then y.inp.any v else false
def tvs (x:Asg) (bl:List ND):List Bool:=bl.foldl (fun vs y=>vs++[valND (fun k=>vs.getD k false) x y]) []
def tv (bl:List ND) (x:Asg) (i:Nat):Bool:=(tvs x bl).getD i false
theorem tvs_snoc (x:Asg) (bl:List ND) (y:ND):tvs x (bl++[y]) = tvs x bl++[valND (tv bl x) x y]:=by unfold tvs;rw [List.foldl_append];rfl
theorem tvs_len (x:Asg):∀ bl:List ND,(tvs x bl).length = bl.length:=by
 refine snoc_ind rfl fun l a ih=>?_
 rw [tvs_snoc,List.length_append,List.length_append,ih];rfl
theorem tv_snoc_lt {bl:List ND} {y:ND} {x:Asg} {i:Nat} (h:i < bl.length):tv (bl++[y]) x i = tv bl x i:=by
 unfold tv
 rw [tvs_snoc,List.getD_eq_getElem?_getD,List.getElem?_append_left (by rw [tvs_len];exact h),←List.getD_eq_getElem?_getD]
theorem tv_app {bl m:List ND} {x:Asg} {i:Nat} (h:i < bl.length):tv (bl++m) x i = tv bl x i:=by
 refine snoc_ind (P:=fun m=>tv (bl++m) x i = tv bl x i) (by simp) (fun l a ih=>?_) m
 rw [←List.append_assoc,tv_snoc_lt (by rw [List.length_append];omega),ih]
theorem tv_new {bl:List ND} {y:ND} {x:Asg}:tv (bl++[y]) x bl.length = valND (tv bl x) x y:=by
 have e:(tvs x (bl++[y]))[bl.length]? = some (valND (tv bl x) x y):=by
  rw [tvs_snoc,List.getElem?_append_right (by rw [tvs_len];exact Nat.le_refl _),tvs_len,Nat.sub_self];rfl
 unfold tv at e ⊢
 rw [List.getD_eq_getElem?_getD,e];rfl
theorem valND_congr {v w:Nat→Bool} {x:Asg} {y:ND} (h:∀ k∈y.inp,v k = w k):valND v x y = valND w x y:=by
 unfold valND
 have h1:y.inp.all v = y.inp.all w:=by rw [Bool.eq_iff_iff,List.all_eq_true,List.all_eq_true];exact ⟨fun e k hk=>by rw [←h k hk];exact e k hk,fun e k hk=>by rw [h k hk];exact e k hk⟩
 have h2:y.inp.any v = y.inp.any w:=by
  rw [Bool.eq_iff_iff,List.any_eq_true,List.any_eq_true];exact ⟨fun ⟨k,hk,e⟩=>⟨k,hk,by rw [←h k hk];exact e⟩,fun ⟨k,hk,e⟩=>⟨k,hk,by rw [h k hk];exact e⟩⟩
 rw [h1,h2]
theorem tv_at {x:Asg} {i:Nat} {y:ND} {bl:List ND}:(∀ i (hi:i < bl.length),∀ k∈bl[i].inp,k < i)→bl[i]? = some y→tv bl x i = valND (tv bl x) x y:=by
 refine snoc_ind (P:=fun bl:List ND=>(∀ i (hi:i < bl.length),∀ k∈bl[i].inp,k < i)→bl[i]? = some y→tv bl x i = valND (tv bl x) x y) (fun _ h=>by simp at h) (fun l a ih hk h=>?_) bl
 have hkl:∀ i (hi:i < l.length),∀ k∈l[i].inp,k < i:=fun i hi k hk'=>by
  have:=hk i (by rw [List.length_append];omega) k
  rw [List.getElem_append_left hi] at this
  exact this hk'
 by_cases hi:i < l.length
 ·rw [List.getElem?_append_left hi] at h
  rw [tv_snoc_lt hi,ih hkl h]
  refine valND_congr fun k hk'=>(tv_snoc_lt ?_).symm
  have e:l[i] = y:=(List.getElem?_eq_some_iff.1 h).2
  have:=hkl i hi k (by rw [e];exact hk')
  omega
 ·have hil:i = l.length:=by
   have:=(List.getElem?_eq_some_iff.1 h).1
   simp at this;omega
  subst hil
  have e:a = y:=by rw [List.getElem?_append_right (Nat.le_refl _)] at h;simpa using h
  subst e
  rw [tv_new]
  refine valND_congr fun k hk'=>(tv_snoc_lt ?_).symm
  have:=hk l.length (by simp) k
  rw [List.getElem_append_right (Nat.le_refl _)] at this
  simp only [Nat.sub_self,List.getElem_cons_zero] at this
  exact this hk'
section
variable {n:Int} {bl:List ND} (h:BOK n bl)
include h
theorem BOK.val {i:Nat} (hi:i < bl.length) (x:Asg):tv bl x i = valND (tv bl x) x (ndAt bl i):=by
 rw [ndAt_lt hi];exact tv_at h.kids (List.getElem?_eq_getElem hi)
theorem BOK.flat_lt {kind:Int} {l:List Nat} (hl:∀ k∈l,k < bl.length):∀ k∈flatND bl kind l,k < bl.length:=fun k hk=>by
 obtain ⟨i,hi,hk⟩:=List.mem_flatMap.1 hk
 have hil:=hl i hi
 split at hk
 ·rw [ndAt_lt hil] at hk
  have:=h.kids i hil k hk;omega
 ·rw [List.mem_singleton.1 hk];exact hil
theorem BOK.flat_val {kind:Int} {l:List Nat} (hl:∀ k∈l,k < bl.length) (hk:kind = 3∨kind = 4) (x:Asg):(if kind = 3 then l.all (tv bl x) else l.any (tv bl x)) = (if kind = 3 then (flatND bl kind l).all (tv bl x) else (flatND bl kind l).any (tv bl x)):=by
 have key:∀ i,i∈l→tv bl x i = (if kind = 3 then (if (ndAt bl i).kind = kind then (ndAt bl i).inp else [i]).all (tv bl x) else (if (ndAt bl i).kind = kind then (ndAt bl i).inp else [i]).any (tv bl x)):=fun i hi=>by
  by_cases hki:(ndAt bl i).kind = kind
  ·rw [if_pos hki,h.val (hl i hi)]
   unfold valND
   rcases hk with rfl | rfl <;> simp [hki]
  ·rw [if_neg hki];simp
 unfold flatND
 rcases hk with rfl | rfl
 ·simp only [if_true] at key ⊢
  rw [Bool.eq_iff_iff,List.all_eq_true,List.all_eq_true]
  constructor
  ·intro e k hk'
   obtain ⟨i,hi,hk'⟩:=List.mem_flatMap.1 hk'
   have:=key i hi
   rw [e i hi] at this
   exact List.all_eq_true.1 this.symm k hk'
  ·intro e i hi
   rw [key i hi,List.all_eq_true]
   exact fun k hk'=>e k (List.mem_flatMap.2 ⟨i,hi,hk'⟩)
 ·simp only [show ¬ ((4:Int) = 3) by decide,if_false] at key ⊢
  rw [Bool.eq_iff_iff,List.any_eq_true,List.any_eq_true]
  constructor
  ·rintro ⟨i,hi,e⟩
   rw [key i hi,List.any_eq_true] at e
   obtain ⟨k,hk',e⟩:=e
   exact ⟨k,List.mem_flatMap.2 ⟨i,hi,hk'⟩,e⟩
  ·rintro ⟨k,hk',e⟩
   obtain ⟨i,hi,hk'⟩:=List.mem_flatMap.1 hk'
   exact ⟨i,hi,by rw [key i hi,List.any_eq_true];exact ⟨k,hk',e⟩⟩
theorem BOK.lit_ne {i:Nat} (hi:i < bl.length) (hk:(ndAt bl i).kind = 2):(ndAt bl i).lit≠0:=by
 rw [ndAt_lt hi] at hk ⊢
 rcases h.form _ (List.getElem_mem hi) with h1 | h1 | h1
 ·rcases h1.1 with e | e <;> rw [e] at hk <;> cases hk
 ·exact h1.2.1.1
 ·rcases h1.1 with e | e <;> rw [e] at hk <;> cases hk
theorem BOK.add {y:ND} (hk:∀ k∈y.inp,k < bl.length) (hf:(y.kind = 0∨y.kind = 1)∧y.lit = 0∧y.inp = []∨y.kind = 2∧(y.lit≠0∧-n≤y.lit∧y.lit≤n)∧y.inp = []∨(y.kind = 3∨y.kind = 4)∧y.lit = 0) :
  BOK n (addND bl y).2∧(addND bl y).1 < (addND bl y).2.length∧(∃ m,(addND bl y).2 = bl++m)∧(addND bl y).2.length≤bl.length+1∧∀ x,tv (addND bl y).2 x (addND bl y).1 = valND (tv bl x) x y:=by
 have put:∀ {z:ND},(∀ k∈z.inp,k < bl.length)→((z.kind = 0∨z.kind = 1)∧z.lit = 0∧z.inp = []∨z.kind = 2∧(z.lit≠0∧-n≤z.lit∧z.lit≤n)∧z.inp = []∨(z.kind = 3∨z.kind = 4)∧z.lit = 0∧z.inp.Pairwise (· < ·)∧2≤z.inp.length)→(∀ x,valND (tv bl x) x z = valND (tv bl x) x y) →
   BOK n (putND bl z).2∧(putND bl z).1 < (putND bl z).2.length∧(∃ m,(putND bl z).2 = bl++m)∧(putND bl z).2.length≤bl.length+1∧∀ x,tv (putND bl z).2 x (putND bl z).1 = valND (tv bl x) x y:=fun {z} h1 h2 h3=>by
  obtain ⟨g1,g2,g3,g4⟩:=putND_spec h h1 h2
  refine ⟨g1,(List.getElem?_eq_some_iff.1 g2).1,g3,g4,fun x=>?_⟩
  rw [tv_at g1.kids g2,←h3 x]
  obtain ⟨m,hm⟩:=g3
  rw [hm]
  exact valND_congr fun k hk'=>tv_app (h1 k hk')
 unfold addND
 by_cases h3:y.kind < 3
 ·rw [if_pos h3]
  refine put (fun k hk'=>by cases hk') ?_ (fun x=>?_)
  ·rcases hf with ⟨a,b,c⟩ | ⟨a,b,c⟩ | ⟨a,b⟩
   ·exact .inl ⟨a,b,rfl⟩
   ·exact .inr (.inl ⟨a,b,rfl⟩)
   ·rcases a with e | e <;> rw [e] at h3 <;> omega
  ·unfold valND
   simp only []
   rcases hf with ⟨a,b,c⟩ | ⟨a,b,c⟩ | ⟨a,b⟩
   ·rcases a with e | e <;> simp [e]
   ·simp [a]
   ·rcases a with e | e <;> rw [e] at h3 <;> omega
 ·rw [if_neg h3]
  have hkind:y.kind = 3∨y.kind = 4:=by
   rcases hf with ⟨a,_⟩ | ⟨a,_⟩ | ⟨a,_⟩
   ·omega
   ·omega
   ·exact a
  have hlt:=h.flat_lt (kind:=y.kind) hk
  have hfl:=h.flat_val hk hkind
  have hy:∀ x,valND (tv bl x) x y = if y.kind = 3 then (flatND bl y.kind y.inp).all (tv bl x) else (flatND bl y.kind y.inp).any (tv bl x):=fun x=>by
   rw [←hfl]
   unfold valND
   rcases hkind with e | e <;> simp [e]
  generalize hF:flatND bl y.kind y.inp = F at hlt hy
  simp only []
  have hdv:∀ i,i < bl.length→∀ x,(ndAt bl i).kind = (if y.kind = 4 then (0:Int) else 1)→tv bl x i = decide (y.kind = 3):=fun i hi x e=>by
   rw [h.val hi]
   unfold valND
   rcases hkind with e' | e' <;> simp [e,e']
  by_cases hd:decidedP bl (if y.kind = 4 then 1 else 0) F
  ·rw [if_pos hd]
   refine put (fun k hk'=>by cases hk') (.inl ⟨by show (if y.kind = 4 then (1:Int) else 0) = 0∨(if y.kind = 4 then (1:Int) else 0) = 1;split <;> simp,rfl,rfl⟩) (fun x=>?_)
   rw [hy]
   obtain ⟨i,hi,e | ⟨k,hk',e1,e2,e3⟩⟩:=hd
   ·have hv:tv bl x i = decide (y.kind = 4):=by
     rw [h.val (hlt i hi)]
     unfold valND
     rcases hkind with e' | e' <;> simp [e,e']
    rcases hkind with e' | e'
    ·simp only [e',if_true]
     rw [e'] at hv
     unfold valND
     simp only [show ¬ ((3:Int) = 4) by decide,if_false]
     symm
     show F.all (tv bl x) = false
     rw [Bool.eq_false_iff]
     intro hall
     have:=List.all_eq_true.1 hall i hi
     rw [hv] at this;simp at this
    ·simp only [e',show ¬ ((4:Int) = 3) by decide,if_false,if_true]
     rw [e'] at hv
     unfold valND
     simp only [if_true]
     symm
     rw [List.any_eq_true]
     exact ⟨i,hi,by rw [hv];simp⟩
   ·have hv1:tv bl x i = (x ((ndAt bl i).lit.natAbs:Int) == decide (0 < (ndAt bl i).lit)):=by
     rw [h.val (hlt i hi)];unfold valND;simp [e1]
    have hv2:tv bl x k = (x ((ndAt bl k).lit.natAbs:Int) == decide (0 < (ndAt bl k).lit)):=by
     rw [h.val (hlt k hk')];unfold valND;simp [e2]
    have hne:=h.lit_ne (hlt k hk') e2
    have hop:tv bl x i = !tv bl x k:=by
     rw [hv1,hv2,e3,Int.natAbs_neg]
     by_cases hp:0 < (ndAt bl k).lit
     ·rw [decide_eq_true hp,decide_eq_false (by omega)];cases x _ <;> rfl
     ·rw [decide_eq_false hp,decide_eq_true (by omega)];cases x _ <;> rfl
    rcases hkind with e' | e'
    ·simp only [e',if_true]
     unfold valND
     simp only [show ¬ ((3:Int) = 4) by decide,if_false]
     symm
     show F.all (tv bl x) = false
     rw [Bool.eq_false_iff]
     intro hall
     have a1:=List.all_eq_true.1 hall i hi
     have a2:=List.all_eq_true.1 hall k hk'
     rw [hop,a2] at a1;cases a1
    ·simp only [e',show ¬ ((4:Int) = 3) by decide,if_false,if_true]
     unfold valND
     simp only [if_true]
     symm
     rw [List.any_eq_true]
     cases hh:tv bl x i
     ·exact ⟨k,hk',by rw [hop] at hh;simpa using hh⟩
     ·exact ⟨i,hi,hh⟩
  ·rw [if_neg hd]
   have hmo:=fun i=>mem_onceL bl (if y.kind = 4 then 0 else 1) i F
   have hnd:=nodup_onceL bl (if y.kind = 4 then 0 else 1) F
   have hval:∀ x,(if y.kind = 3 then F.all (tv bl x) else F.any (tv bl x)) = if y.kind = 3 then (onceL bl (if y.kind = 4 then 0 else 1) F).all (tv bl x) else (onceL bl (if y.kind = 4 then 0 else 1) F).any (tv bl x):=fun x=>by
    rcases hkind with e' | e'
    ·simp only [e',if_true] at hmo hdv ⊢
     simp only [show ¬ ((3:Int) = 4) by decide,if_false] at hmo hdv ⊢
     rw [Bool.eq_iff_iff,List.all_eq_true,List.all_eq_true]
     constructor
     ·exact fun e i hi=>e i ((hmo i).1 hi).1
     ·intro e i hi
      by_cases hdr:(ndAt bl i).kind = 1
      ·rw [hdv i (hlt i hi) x hdr];rfl
      ·exact e i ((hmo i).2 ⟨hi,hdr⟩)
    ·simp only [e',show ¬ ((4:Int) = 3) by decide,if_false,if_true] at hmo hdv ⊢
     rw [Bool.eq_iff_iff,List.any_eq_true,List.any_eq_true]
     constructor
     ·rintro ⟨i,hi,e⟩
      by_cases hdr:(ndAt bl i).kind = 0
      ·rw [hdv i (hlt i hi) x hdr] at e;simp at e
      ·exact ⟨i,(hmo i).2 ⟨hi,hdr⟩,e⟩
     ·rintro ⟨i,hi,e⟩
      exact ⟨i,((hmo i).1 hi).1,e⟩
   have hmlt:∀ i∈onceL bl (if y.kind = 4 then 0 else 1) F,i < bl.length:=fun i hi=>hlt i ((hmo i).1 hi).1
   generalize hO:onceL bl (if y.kind = 4 then 0 else 1) F = O at hval hmlt hnd
   match O,hval,hmlt,hnd with
   | [],hval,_,_ =>
     refine put (fun k hk'=>by cases hk') (.inl ⟨by show (if y.kind = 4 then (0:Int) else 1) = 0∨(if y.kind = 4 then (0:Int) else 1) = 1;split <;> simp,rfl,rfl⟩) (fun x=>?_)
     rw [hy,hval]
     unfold valND
     rcases hkind with e' | e' <;> simp [e']
   | [i],hval,hmlt,_ =>
     refine ⟨h,hmlt i (by simp),⟨[],by simp⟩,by simp,fun x=>?_⟩
     rw [hy,hval]
     rcases hkind with e' | e' <;> simp [e']
   | i :: j :: r,hval,hmlt,hnd =>
     have hp:=sortN_perm (i :: j :: r)
     have hs:=sortN_sorted (i :: j :: r)
     have hsn:(sortN (i :: j :: r)).Nodup:=hp.nodup_iff.2 hnd
     refine put (fun k hk'=>hmlt k (hp.mem_iff.1 hk')) (.inr (.inr ⟨hkind,rfl,?_,by rw [hp.length_eq];simp⟩)) (fun x=>?_)
     ·have:=hs.and hsn
      exact this.imp fun hab=>Nat.lt_of_le_of_ne hab.1 hab.2
     ·rw [hy,hval]
      unfold valND
      simp only []
      have ha:(sortN (i :: j :: r)).all (tv bl x) = (i :: j :: r).all (tv bl x):=by
       rw [Bool.eq_iff_iff,List.all_eq_true,List.all_eq_true];exact ⟨fun e k hk'=>e k (hp.mem_iff.2 hk'),fun e k hk'=>e k (hp.mem_iff.1 hk')⟩
      have hb:(sortN (i :: j :: r)).any (tv bl x) = (i :: j :: r).any (tv bl x):=by
       rw [Bool.eq_iff_iff,List.any_eq_true,List.any_eq_true];exact ⟨fun ⟨k,hk',e⟩=>⟨k,hp.mem_iff.1 hk',e⟩,fun ⟨k,hk',e⟩=>⟨k,hp.mem_iff.2 hk',e⟩⟩
      rw [ha,hb]
      rcases hkind with e' | e' <;> simp [e']
end
end Go.Proofs.YtckhohpbokojdaaGreatDoor.L
namespace Go.Proofs.YtckhohpbokojdaaGreatDoor.L
def marksF (bl:List ND):Nat→(Nat→Bool)→(Nat→Bool)
 | 0,u=>u
 | n+1,u=>marksF bl n (if u n = true then fun k=>u k || decide (k∈(ndAt bl n).inp) else u)
def useF (bl:List ND) (root:Nat):Nat→Bool:=marksF bl (root+1) fun k=>decide (k = root)
def netF (bl:List ND) (u:Nat→Bool):Nat→List ND × (Nat→Nat)
 | 0=>([],fun _=>0)
 | n+1=>let a:=netF bl u n
   if u n = true then (a.1++[⟨(ndAt bl n).kind,(ndAt bl n).lit,(ndAt bl n).inp.map a.2⟩],fun k=>if k = n then a.1.length else a.2 k) else a
def netL (bl:List ND) (root:Nat):List ND:=(netF bl (useF bl root) (root+1)).1
theorem marksF_old {bl:List ND}:∀ {n:Nat} {u:Nat→Bool} {k:Nat},u k = true→marksF bl n u k = true
 | 0,u,k,h=>h
 | n+1,u,k,h=>by
   rw [marksF]
   refine marksF_old ?_
   split
   ·simp [h]
   ·exact h
theorem marksF_high {bl:List ND} (hk:∀ i (hi:i < bl.length),∀ k∈bl[i].inp,k < i):∀ {n:Nat} {u:Nat→Bool} {k:Nat},n≤bl.length→n≤k+1→marksF bl n u k = u k
 | 0,u,k,_,_=>rfl
 | n+1,u,k,hn,h=>by
   rw [marksF,marksF_high hk (by omega) (by omega)]
   split
   ·have:k∉(ndAt bl n).inp:=fun hc=>by
     rw [ndAt_lt (by omega)] at hc
     have:=hk n (by omega) k hc;omega
    simp [this]
   ·rfl
theorem marksF_closed {bl:List ND} (hk:∀ i (hi:i < bl.length),∀ k∈bl[i].inp,k < i):∀ {n:Nat} {u:Nat→Bool},n≤bl.length→∀ i,i < n→marksF bl n u i = true→∀ k∈(ndAt bl i).inp,marksF bl n u k = true
 | 0,u,_,i,hi,_,k,_=>absurd hi (Nat.not_lt_zero _)
 | n+1,u,hn,i,hi,h,k,hk'=>by
   rw [marksF] at h ⊢
   by_cases e:i = n
   ·subst e
    rw [marksF_high hk (by omega) (by omega)] at h
    have hu:u i = true:=by
     split at h
     ·assumption
     ·exact h
    rw [if_pos hu]
    exact marksF_old (by simp [hk'])
   ·exact marksF_closed hk (by omega) i (by omega) h k hk'
theorem marksF_max {bl:List ND} (hk:∀ i (hi:i < bl.length),∀ k∈bl[i].inp,k < i) {m:Nat}:∀ {n:Nat} {u:Nat→Bool},n≤bl.length→(∀ k,u k = true→k≤m)→∀ k,marksF bl n u k = true→k≤m
 | 0,u,_,h,k,hk'=>h k hk'
 | n+1,u,hn,h,k,hk'=>by
   rw [marksF] at hk'
   refine marksF_max hk (by omega) (fun j hj=>?_) k hk'
   split at hj
   ·rename_i hun
    simp only [Bool.or_eq_true,decide_eq_true_eq] at hj
    rcases hj with hj | hj
    ·exact h j hj
    ·rw [ndAt_lt (by omega)] at hj
     have:=hk n (by omega) j hj
     have:=h n hun;omega
   ·exact h j hj
structure Use (bl:List ND) (root:Nat) (u:Nat→Bool):Prop where
 top:u root = true
 max:∀ k,u k = true→k≤root
 down:∀ i,u i = true→∀ k∈(ndAt bl i).inp,u k = true
theorem useF_ok {bl:List ND} (hk:∀ i (hi:i < bl.length),∀ k∈bl[i].inp,k < i) {root:Nat} (hr:root < bl.length):Use bl root (useF bl root):=by
 have hmax:=marksF_max hk (n:=root+1) (u:=fun k=>decide (k = root)) (m:=root) (by omega) (fun k h=>by simp at h;omega)
 exact ⟨marksF_old (by simp),hmax,fun i hi k hk'=>marksF_closed hk (by omega) i (by have:=hmax i hi;omega) hi k hk'⟩
structure NetOK (bl:List ND) (u:Nat→Bool) (n:Nat) (o:List ND) (f:Nat→Nat):Prop where
 lt:∀ i,i < n→u i = true→f i < o.length
 at_:∀ i,i < n→u i = true→o[f i]? = some ⟨(ndAt bl i).kind,(ndAt bl i).lit,(ndAt bl i).inp.map f⟩
 from_:∀ j,j < o.length→∃ i,i < n∧u i = true∧f i = j
 mono:∀ i k,i < k→k < n→u i = true→u k = true→f i < f k
theorem netF_ok {bl:List ND} (hk:∀ i (hi:i < bl.length),∀ k∈bl[i].inp,k < i) {u:Nat→Bool}:∀ {n:Nat},n≤bl.length→NetOK bl u n (netF bl u n).1 (netF bl u n).2
 | 0,_=>⟨fun i hi=>absurd hi (Nat.not_lt_zero _),fun i hi=>absurd hi (Nat.not_lt_zero _),fun j hj=>absurd hj (Nat.not_lt_zero _),fun i k _ hk=>absurd hk (Nat.not_lt_zero _)⟩
 | n+1,hn=>by
   have ih:=netF_ok hk (u:=u) (n:=n) (by omega)
   rw [netF]
   generalize netF bl u n = a at ih
   obtain ⟨o,f⟩:=a
   simp only at ih ⊢
   by_cases hu:u n = true
   ·rw [if_pos hu]
    have hnew:∀ i,i≤n→((ndAt bl i).inp.map fun k=>if k = n then o.length else f k) = (ndAt bl i).inp.map f:=fun i hi=>List.map_congr_left fun k hk'=>by
     rw [ndAt_lt (by omega)] at hk'
     have:=hk i (by omega) k hk'
     rw [if_neg (by omega)]
    refine ⟨fun i hi hui=>?_,fun i hi hui=>?_,fun j hj=>?_,fun i k hik hkn hui huk=>?_⟩
    ·show (if i = n then o.length else f i) < (o++[_]).length
     rw [List.length_append]
     by_cases e:i = n
     ·rw [if_pos e];simp
     ·rw [if_neg e];have:=ih.lt i (by omega) hui;omega
    ·show (o++[_])[if i = n then o.length else f i]? = some ⟨_,_,(ndAt bl i).inp.map fun k=>if k = n then o.length else f k⟩
     rw [hnew i (by omega)]
     by_cases e:i = n
     ·subst e
      rw [if_pos rfl,List.getElem?_append_right (Nat.le_refl _)];simp
     ·rw [if_neg e,List.getElem?_append_left (ih.lt i (by omega) hui)]
      exact ih.at_ i (by omega) hui
    ·have hj':j < (o++[(⟨(ndAt bl n).kind,(ndAt bl n).lit,(ndAt bl n).inp.map f⟩:ND)]).length:=hj
     show ∃ i,i < n+1∧u i = true∧(if i = n then o.length else f i) = j
     rw [List.length_append] at hj'
     by_cases e:j < o.length
     ·obtain ⟨i,h1,h2,h3⟩:=ih.from_ j e
      exact ⟨i,by omega,h2,by rw [if_neg (by omega)];exact h3⟩
     ·exact ⟨n,by omega,hu,by rw [if_pos rfl];simp at hj';omega⟩
    ·show (if i = n then o.length else f i) < (if k = n then o.length else f k)
     by_cases e:k = n
     ·rw [if_neg (by omega),if_pos e];exact ih.lt i (by omega) hui
     ·rw [if_neg (by omega),if_neg e];exact ih.mono i k hik (by omega) hui huk
   ·rw [if_neg hu]
    have hlt:∀ i,i < n+1→u i = true→i < n:=fun i hi hui=>by
     have:i≠n:=fun e=>hu (e ▸ hui)
     omega
    exact ⟨fun i hi hui=>ih.lt i (hlt i hi hui) hui,fun i hi hui=>ih.at_ i (hlt i hi hui) hui,fun j hj=>by
     obtain ⟨i,h1,h2⟩:=ih.from_ j hj
     exact ⟨i,by omega,h2⟩,fun i k hik hkn hui huk=>ih.mono i k hik (hlt k hkn huk) hui huk⟩
def moveN (bl:List ND) (root:Nat):Nat→Nat:=(netF bl (useF bl root) (root+1)).2
section
variable {bl:List ND} {root:Nat} (hk:∀ i (hi:i < bl.length),∀ k∈bl[i].inp,k < i) (hr:root < bl.length)
include hk hr
theorem netL_ok:NetOK bl (useF bl root) (root+1) (netL bl root) (moveN bl root):=netF_ok hk (by omega)
theorem netL_ne:netL bl root≠[]:=fun e=>by
 have:=(netL_ok hk hr).lt root (by omega) (useF_ok hk hr).top
 simp only [e] at this
 exact absurd this (Nat.not_lt_zero _)
theorem moveN_root:moveN bl root root+1 = (netL bl root).length:=by
 have h:=netL_ok hk hr
 have hu:=useF_ok hk hr
 have h1:=h.lt root (by omega) hu.top
 have h0:0 < (netL bl root).length:=by
  have:(netL bl root).length≠0:=fun e=>netL_ne hk hr (List.length_eq_zero_iff.1 e)
  omega
 obtain ⟨i,i1,i2,i3⟩:=h.from_ ((netL bl root).length - 1) (by omega)
 have hle:=hu.max i i2
 rcases Nat.lt_or_ge i root with hlt | hge
 ·have:=h.mono i root hlt (by omega) i2 hu.top
  omega
 ·have:i = root:=by omega
  subst this
  omega
theorem netL_kids:∀ j (hj:j < (netL bl root).length),∀ k∈(netL bl root)[j].inp,k < j:=fun j hj k hk'=>by
 have h:=netL_ok hk hr
 have hu:=useF_ok hk hr
 obtain ⟨i,i1,i2,rfl⟩:=h.from_ j hj
 have e:=h.at_ i i1 i2
 have e':(netL bl root)[moveN bl root i]? = some (netL bl root)[moveN bl root i]:=List.getElem?_eq_getElem hj
 rw [e'] at e
 rw [Option.some.inj e] at hk'
 obtain ⟨m,hm,rfl⟩:=List.mem_map.1 hk'
 have hmi:m < i:=by rw [ndAt_lt (by omega)] at hm;exact hk i (by omega) m hm
 exact h.mono m i hmi i1 (hu.down i i2 m hm) i2
theorem netL_val (x:Asg):∀ (n i:Nat),i≤n→i≤root→useF bl root i = true→tv (netL bl root) x (moveN bl root i) = tv bl x i
 | n,i,hn,hi,hui=>by
   have h:=netL_ok hk hr
   have hu:=useF_ok hk hr
   have e:=h.at_ i (by omega) hui
   have e2:(netL bl root)[moveN bl root i]? = some ⟨(ndAt bl i).kind,(ndAt bl i).lit,(ndAt bl i).inp.map (moveN bl root)⟩:=e
   rw [tv_at (netL_kids hk hr) e2,tv_at hk (List.getElem?_eq_getElem (show i < bl.length by omega)),←ndAt_lt (show i < bl.length by omega)]
   have hin:∀ k∈(ndAt bl i).inp,tv (netL bl root) x (moveN bl root k) = tv bl x k:=fun k hk'=>by
    have hki:k < i:=by rw [ndAt_lt (by omega)] at hk';exact hk i (by omega) k hk'
    match n with
    | 0=>omega
    | n+1=>exact netL_val x n k (by omega) (by omega) (hu.down i hui k hk')
   unfold valND
   simp only [List.all_map,List.any_map]
   have ha:(ndAt bl i).inp.all (tv (netL bl root) x ∘ moveN bl root) = (ndAt bl i).inp.all (tv bl x):=by
    rw [Bool.eq_iff_iff,List.all_eq_true,List.all_eq_true];exact ⟨fun e k hk'=>by rw [←hin k hk'];exact e k hk',fun e k hk'=>by show tv _ x (moveN bl root k) = true;rw [hin k hk'];exact e k hk'⟩
   have hb:(ndAt bl i).inp.any (tv (netL bl root) x ∘ moveN bl root) = (ndAt bl i).inp.any (tv bl x):=by
    rw [Bool.eq_iff_iff,List.any_eq_true,List.any_eq_true]
    exact ⟨fun ⟨k,hk',e⟩=>⟨k,hk',by rw [←hin k hk'];exact e⟩,fun ⟨k,hk',e⟩=>⟨k,hk',by show tv _ x (moveN bl root k) = true;rw [hin k hk'];exact e⟩⟩
   rw [ha,hb]
theorem netL_true (x:Asg):tv (netL bl root) x ((netL bl root).length - 1) = tv bl x root:=by
 have h1:=moveN_root hk hr
 rw [←netL_val hk hr x root root (Nat.le_refl _) (Nat.le_refl _) (useF_ok hk hr).top]
 congr 1
 omega
end
end Go.Proofs.YtckhohpbokojdaaGreatDoor.L
namespace Go.Proofs.YtckhohpbokojdaaGreatDoor.L
def SimpIn (bl:List ND) (kind:Int) (l:List Nat):Prop:=∀ k∈l,(ndAt bl k).kind≠kind∧(ndAt bl k).kind≠0∧(ndAt bl k).kind≠1∧∀ m∈l,¬ ((ndAt bl k).kind = 2∧(ndAt bl m).kind = 2∧(ndAt bl k).lit = -(ndAt bl m).lit)
def Simp (bl:List ND):Prop:=∀ i,i < bl.length→((ndAt bl i).kind = 3∨(ndAt bl i).kind = 4)→SimpIn bl (ndAt bl i).kind (ndAt bl i).inp
theorem ndAt_app {bl m:List ND} {i:Nat} (h:i < bl.length):ndAt (bl++m) i = ndAt bl i:=by
 unfold ndAt
 rw [List.getD_eq_getElem?_getD,List.getD_eq_getElem?_getD,List.getElem?_append_left h]
theorem SimpIn.app {bl m:List ND} {kind:Int} {l:List Nat} (hl:∀ k∈l,k < bl.length) (h:SimpIn bl kind l):SimpIn (bl++m) kind l:=fun k hk=>by
 obtain ⟨h1,h2,h3,h4⟩:=h k hk
 rw [ndAt_app (hl k hk)]
 exact ⟨h1,h2,h3,fun j hj=>by rw [ndAt_app (hl j hj)];exact h4 j hj⟩
theorem Simp.put {n:Int} {bl:List ND} (hB:BOK n bl) (h:Simp bl) {x:ND} (hk:∀ k∈x.inp,k < bl.length) (hx:x.kind = 3∨x.kind = 4→SimpIn bl x.kind x.inp):Simp (putND bl x).2:=by
 unfold putND
 split
 ·exact h
 ·intro i hi hki
  by_cases hlt:i < bl.length
  ·show SimpIn (bl++[x]) _ _
   have e:ndAt (bl++[x]) i = ndAt bl i:=ndAt_app hlt
   have hki':(ndAt (bl++[x]) i).kind = 3∨(ndAt (bl++[x]) i).kind = 4:=hki
   show SimpIn (bl++[x]) (ndAt (bl++[x]) i).kind (ndAt (bl++[x]) i).inp
   rw [e] at hki' ⊢
   refine (h i hlt hki').app fun k hk'=>?_
   rw [ndAt_lt hlt] at hk'
   have:=hB.kids i hlt k hk';omega
  ·have:i = bl.length:=by
    have:i < (bl++[x]).length:=hi
    simp at this;omega
   subst this
   have e:ndAt (bl++[x]) bl.length = x:=by
    rw [ndAt_lt (by simp),List.getElem_append_right (Nat.le_refl _)];simp
   have hki':(ndAt (bl++[x]) bl.length).kind = 3∨(ndAt (bl++[x]) bl.length).kind = 4:=hki
   show SimpIn (bl++[x]) (ndAt (bl++[x]) bl.length).kind (ndAt (bl++[x]) bl.length).inp
   rw [e] at hki' ⊢
   exact (hx hki').app hk
theorem Simp.add {n:Int} {bl:List ND} (hB:BOK n bl) (h:Simp bl) {y:ND} (hk:∀ k∈y.inp,k < bl.length) (hkind:y.kind < 3∨y.kind = 3∨y.kind = 4):Simp (addND bl y).2:=by
 unfold addND
 by_cases h3:y.kind < 3
 ·rw [if_pos h3]
  exact h.put hB (fun k hk'=>absurd hk' (List.not_mem_nil)) (fun e=>by have:y.kind = 3∨y.kind = 4:=e;omega)
 ·rw [if_neg h3]
  have hkind':y.kind = 3∨y.kind = 4:=by omega
  have hlt:=hB.flat_lt (kind:=y.kind) hk
  have hnk:∀ k∈flatND bl y.kind y.inp,(ndAt bl k).kind≠y.kind:=fun k hk'=>by
   obtain ⟨i,hi,hk'⟩:=List.mem_flatMap.1 hk'
   by_cases hki:(ndAt bl i).kind = y.kind
   ·rw [if_pos hki] at hk'
    have:=(h i (hk i hi) (by rw [hki];exact hkind') k hk').1
    rw [hki] at this;exact this
   ·rw [if_neg hki,List.mem_singleton] at hk'
    rw [hk'];exact hki
  generalize flatND bl y.kind y.inp = F at hlt hnk
  simp only []
  obtain ⟨d,hd0⟩:∃ d,d = (if y.kind = 4 then (0:Int) else 1):=⟨_,rfl⟩
  obtain ⟨f,hf0⟩:∃ f,f = (if y.kind = 4 then (1:Int) else 0):=⟨_,rfl⟩
  rw [←hd0,←hf0]
  have hdf:(d = 0∧f = 1)∨(d = 1∧f = 0):=by
   rcases hkind' with e | e <;> simp [e] at hd0 hf0 <;> omega
  by_cases hd:decidedP bl f F
  ·rw [if_pos hd]
   refine h.put hB (fun k hk'=>absurd hk' (List.not_mem_nil)) (fun e=>?_)
   have:f = 3∨f = 4:=e
   omega
  ·rw [if_neg hd]
   have hmo:=fun i=>mem_onceL bl d i F
   have hp:=sortN_perm (onceL bl d F)
   have hin:SimpIn bl y.kind (sortN (onceL bl d F)):=fun k hk'=>by
    obtain ⟨g1,g2⟩:=(hmo k).1 (hp.mem_iff.1 hk')
    have g3:(ndAt bl k).kind≠f:=fun e=>hd ⟨k,g1,.inl e⟩
    refine ⟨hnk k g1,by omega,by omega,fun m hm hop=>?_⟩
    exact hd ⟨k,g1,.inr ⟨m,((hmo m).1 (hp.mem_iff.1 hm)).1,hop⟩⟩
   have hlt':∀ k∈sortN (onceL bl d F),k < bl.length:=fun k hk'=>hlt k ((hmo k).1 (hp.mem_iff.1 hk')).1
   generalize onceL bl d F = O at hin hlt'
   match O,hin,hlt' with
   | [],_,_ =>
     refine h.put hB (fun k hk'=>absurd hk' (List.not_mem_nil)) (fun e=>?_)
     have:d = 3∨d = 4:=e
     omega
   | [i],_,_=>exact h
   | i :: j :: r,hin,hlt'=>exact h.put hB hlt' (fun _=>hin)
def redStep (a:List ND × List Nat) (y:ND):List ND × List Nat:=let p:=addND a.1 ⟨y.kind,y.lit,y.inp.map fun k=>a.2.getD k 0⟩;(p.2,a.2++[p.1])
def redF (nl:List ND):List ND × List Nat:=nl.foldl redStep ([],[])
def reduceL (nl:List ND):List ND:=netL (redF nl).1 ((redF nl).2.getD (nl.length - 1) 0)
theorem redF_snoc (nl:List ND) (y:ND):redF (nl++[y]) = redStep (redF nl) y:=by unfold redF;rw [List.foldl_append];rfl
structure NOK (n:Int) (nl:List ND):Prop where
 kids:∀ i (hi:i < nl.length),∀ k∈nl[i].inp,k < i
 form:∀ x∈nl,(x.kind = 0∨x.kind = 1)∧x.lit = 0∧x.inp = []∨x.kind = 2∧(x.lit≠0∧-n≤x.lit∧x.lit≤n)∧x.inp = []∨(x.kind = 3∨x.kind = 4)∧x.lit = 0
theorem NOK.init {n:Int} {l:List ND} {a:ND} (h:NOK n (l++[a])):NOK n l∧(∀ k∈a.inp,k < l.length):=by
 refine ⟨⟨fun i hi k hk=>?_,fun x hx=>h.form x (List.mem_append_left _ hx)⟩,fun k hk=>?_⟩
 ·have:=h.kids i (by simp;omega) k
  rw [List.getElem_append_left hi] at this
  exact this hk
 ·have:=h.kids l.length (by simp) k
  rw [List.getElem_append_right (Nat.le_refl _)] at this
  simp only [Nat.sub_self,List.getElem_cons_zero] at this
  exact this hk
theorem redF_ok {n:Int} {nl:List ND}:NOK n nl→BOK n (redF nl).1∧Simp (redF nl).1∧(redF nl).2.length = nl.length∧(redF nl).1.length≤nl.length∧(∀ i,i < nl.length→(redF nl).2.getD i 0 < (redF nl).1.length)∧∀ x i,i < nl.length→tv (redF nl).1 x ((redF nl).2.getD i 0) = tv nl x i:=by
 refine snoc_ind (P:=fun nl=>NOK n nl→BOK n (redF nl).1∧Simp (redF nl).1∧(redF nl).2.length = nl.length∧(redF nl).1.length≤nl.length∧(∀ i,i < nl.length→(redF nl).2.getD i 0 < (redF nl).1.length)∧∀ x i,i < nl.length→tv (redF nl).1 x ((redF nl).2.getD i 0) = tv nl x i)
  (fun _=>⟨BOK.nil n,fun i hi=>absurd hi (Nat.not_lt_zero _),rfl,Nat.le_refl _,fun i hi=>absurd hi (Nat.not_lt_zero _),fun x i hi=>absurd hi (Nat.not_lt_zero _)⟩) (fun l a ih h=>?_) nl
 obtain ⟨h1,h2⟩:=h.init
 obtain ⟨b1,b2,b3,b4,b5,b6⟩:=ih h1
 have ha:=h.form a (by simp)
 have hk:∀ k∈(⟨a.kind,a.lit,a.inp.map fun k=>(redF l).2.getD k 0⟩:ND).inp,k < (redF l).1.length:=fun k hk'=>by
  obtain ⟨m,hm,rfl⟩:=List.mem_map.1 hk'
  exact b5 m (h2 m hm)
 have hkind:a.kind < 3∨a.kind = 3∨a.kind = 4:=by
  rcases ha with ⟨e,_⟩ | ⟨e,_⟩ | ⟨e,_⟩ <;> omega
 obtain ⟨c1,c2,⟨m,c3⟩,c4,c5⟩:=b1.add (y:=⟨a.kind,a.lit,a.inp.map fun k=>(redF l).2.getD k 0⟩) hk (by
  rcases ha with ⟨x1,x2,x3⟩ | ⟨x1,x2,x3⟩ | ⟨x1,x2⟩
  ·exact .inl ⟨x1,x2,by rw [x3];rfl⟩
  ·exact .inr (.inl ⟨x1,x2,by rw [x3];rfl⟩)
  ·exact .inr (.inr ⟨x1,x2⟩))
 have c6:=b2.add b1 (y:=⟨a.kind,a.lit,a.inp.map fun k=>(redF l).2.getD k 0⟩) hk hkind
 rw [redF_snoc]
 unfold redStep
 generalize addND (redF l).1 ⟨a.kind,a.lit,a.inp.map fun k=>(redF l).2.getD k 0⟩ = p at c1 c2 c3 c4 c5 c6
 have hgl:∀ i,i < l.length→((redF l).2++[p.1]).getD i 0 = (redF l).2.getD i 0:=fun i hi=>by
  rw [List.getD_eq_getElem?_getD,List.getD_eq_getElem?_getD,List.getElem?_append_left (by omega)]
 have hgn:((redF l).2++[p.1]).getD l.length 0 = p.1:=by
  rw [List.getD_eq_getElem?_getD,List.getElem?_append_right (by omega),b3,Nat.sub_self];rfl
 refine ⟨c1,c6,by simp [b3],by simp only [List.length_append,List.length_singleton];omega,fun i hi=>?_,fun x i hi=>?_⟩
 ·show ((redF l).2++[p.1]).getD i 0 < p.2.length
  by_cases e:i < l.length
  ·rw [hgl i e]
   have:=b5 i e
   rw [c3,List.length_append];omega
  ·have:i = l.length:=by simp at hi;omega
   subst this
   rw [hgn];exact c2
 ·show tv p.2 x (((redF l).2++[p.1]).getD i 0) = _
  by_cases e:i < l.length
  ·rw [hgl i e,tv_snoc_lt e,←b6 x i e,c3,tv_app (b5 i e)]
  ·have:i = l.length:=by simp at hi;omega
   subst this
   rw [hgn,c5 x,tv_new]
   unfold valND
   simp only [List.all_map,List.any_map]
   have e1:a.inp.all (tv (redF l).1 x ∘ fun k=>(redF l).2.getD k 0) = a.inp.all (tv l x):=by
    rw [Bool.eq_iff_iff,List.all_eq_true,List.all_eq_true];exact ⟨fun e k hk'=>by rw [←b6 x k (h2 k hk')];exact e k hk',fun e k hk'=>by show tv _ x _ = true;rw [b6 x k (h2 k hk')];exact e k hk'⟩
   have e2:a.inp.any (tv (redF l).1 x ∘ fun k=>(redF l).2.getD k 0) = a.inp.any (tv l x):=by
    rw [Bool.eq_iff_iff,List.any_eq_true,List.any_eq_true]
    exact ⟨fun ⟨k,hk',e⟩=>⟨k,hk',by rw [←b6 x k (h2 k hk')];exact e⟩,fun ⟨k,hk',e⟩=>⟨k,hk',by show tv _ x _ = true;rw [b6 x k (h2 k hk')];exact e⟩⟩
   rw [e1,e2]
theorem reduceL_true {n:Int} {nl:List ND} (h:NOK n nl) (hne:nl≠[]) (x:Asg):tv (reduceL nl) x ((reduceL nl).length - 1) = tv nl x (nl.length - 1):=by
 obtain ⟨b1,b2,b3,b4,b5,b6⟩:=redF_ok h
 have h0:0 < nl.length:=List.length_pos_iff.2 hne
 unfold reduceL
 rw [netL_true b1.kids (b5 _ (by omega)),b6 x _ (by omega)]
end Go.Proofs.YtckhohpbokojdaaGreatDoor.L
namespace Go.Proofs.YtckhohpbokojdaaGreatDoor.L
theorem marksF_least {bl:List ND} {P:Nat→Prop} (hP:∀ i,P i→∀ k∈(ndAt bl i).inp,P k):∀ {n:Nat} {u:Nat→Bool},(∀ k,u k = true→P k)→∀ k,marksF bl n u k = true→P k
 | 0,u,h,k,hk=>h k hk
 | n+1,u,h,k,hk=>by
   rw [marksF] at hk
   refine marksF_least hP (fun j hj=>?_) k hk
   split at hj
   ·rename_i hun
    simp only [Bool.or_eq_true,decide_eq_true_eq] at hj
    exact hj.elim (h j) (hP n (h n hun) j)
   ·exact h j hj
theorem useF_least {bl:List ND} {root:Nat} {P:Nat→Prop} (hr:P root) (hP:∀ i,P i→∀ k∈(ndAt bl i).inp,P k):∀ k,useF bl root k = true→P k :=
 marksF_least hP (fun k hk=>by have:k = root:=by simpa using hk
                               rw [this];exact hr)
def AllU (nl:List ND):Prop:=∀ i,i < nl.length→useF nl (nl.length - 1) i = true
section
variable {n:Int} {bl:List ND} {root:Nat} (hB:BOK n bl) (hr:root < bl.length)
include hB hr
theorem moveN_lt {i k:Nat} (h:i < k) (hk:k≤root) (hi:useF bl root i = true) (hk':useF bl root k = true):moveN bl root i < moveN bl root k:=(netL_ok hB.kids hr).mono i k h (by omega) hi hk'
theorem moveN_inj {i k:Nat} (hi:useF bl root i = true) (hk:useF bl root k = true) (e:moveN bl root i = moveN bl root k):i = k:=by
 have hu:=useF_ok hB.kids hr
 rcases Nat.lt_trichotomy i k with h | h | h
 ·have:=moveN_lt hB hr h (hu.max k hk) hi hk;omega
 ·exact h
 ·have:=moveN_lt hB hr h (hu.max i hi) hk hi;omega
theorem netL_at {i:Nat} (hi:useF bl root i = true):(netL bl root)[moveN bl root i]? = some ⟨(ndAt bl i).kind,(ndAt bl i).lit,(ndAt bl i).inp.map (moveN bl root)⟩:=(netL_ok hB.kids hr).at_ i (by have:=(useF_ok hB.kids hr).max i hi;omega) hi
theorem netL_ndAt {i:Nat} (hi:useF bl root i = true):ndAt (netL bl root) (moveN bl root i) = ⟨(ndAt bl i).kind,(ndAt bl i).lit,(ndAt bl i).inp.map (moveN bl root)⟩:=by
 unfold ndAt
 rw [List.getD_eq_getElem?_getD,netL_at hB hr hi];rfl
theorem netL_from {j:Nat} (hj:j < (netL bl root).length):∃ i,i≤root∧useF bl root i = true∧moveN bl root i = j:=by
 obtain ⟨i,h1,h2⟩:=(netL_ok hB.kids hr).from_ j hj
 exact ⟨i,by omega,h2⟩
theorem netL_bok:BOK n (netL bl root):=by
 have hu:=useF_ok hB.kids hr
 refine ⟨?_,netL_kids hB.kids hr,fun x hx=>?_⟩
 ·unfold List.Nodup
  rw [List.pairwise_iff_getElem]
  intro a b ha hb hab e0
  have e:(netL bl root)[a]? = (netL bl root)[b]?:=by rw [List.getElem?_eq_getElem ha,List.getElem?_eq_getElem hb,e0]
  clear e0
  obtain ⟨i,i1,i2,i3⟩:=netL_from hB hr ha
  obtain ⟨k,k1,k2,k3⟩:=netL_from hB hr hb
  rw [←i3,←k3,netL_at hB hr i2,netL_at hB hr k2] at e
  simp only [Option.some.injEq,ND.mk.injEq] at e
  have hinp:(ndAt bl i).inp = (ndAt bl k).inp:=by
   have hin:∀ (l m:List Nat),(∀ j∈l,useF bl root j = true)→(∀ j∈m,useF bl root j = true)→l.map (moveN bl root) = m.map (moveN bl root)→l = m:=by
    intro l
    induction l with
    | nil=>intro m _ _ e;cases m with
      | nil=>rfl
      | cons=>simp at e
    | cons p l ih=>intro m h1 h2 e;cases m with
      | nil=>simp at e
      | cons q m =>
        simp only [List.map_cons,List.cons.injEq] at e
        rw [moveN_inj hB hr (h1 p (by simp)) (h2 q (by simp)) e.1,ih m (fun j hj=>h1 j (by simp [hj])) (fun j hj=>h2 j (by simp [hj])) e.2]
   exact hin _ _ (hu.down i i2) (hu.down k k2) e.2.2
  have hik:ndAt bl i = ndAt bl k:=by
   have h1:=e.1;have h2:=e.2.1
   generalize ndAt bl i = x at *
   generalize ndAt bl k = y at *
   cases x;cases y;simp_all
  rw [ndAt_lt (by omega),ndAt_lt (by omega)] at hik
  have:i = k:=(List.getElem_inj hB.nd).1 hik
  subst this
  omega
 ·obtain ⟨j,hj,rfl⟩:=List.getElem_of_mem hx
  obtain ⟨i,i1,i2,rfl⟩:=netL_from hB hr hj
  have e:=netL_at hB hr i2
  rw [List.getElem?_eq_getElem hj] at e
  rw [Option.some.inj e]
  have hf:=hB.form (ndAt bl i) (by rw [ndAt_lt (by omega)];exact List.getElem_mem _)
  rcases hf with ⟨h1,h2,h3⟩ | ⟨h1,h2,h3⟩ | ⟨h1,h2,h3,h4⟩
  ·exact .inl ⟨h1,h2,by show List.map _ _ = _;rw [h3];rfl⟩
  ·exact .inr (.inl ⟨h1,h2,by show List.map _ _ = _;rw [h3];rfl⟩)
  ·refine .inr (.inr ⟨h1,h2,?_,by show 2≤(List.map _ _).length;rw [List.length_map];exact h4⟩)
   show (List.map _ _).Pairwise _
   rw [List.pairwise_map]
   exact h3.imp_of_mem fun {a b} ha hb hab=>moveN_lt hB hr hab (hu.max b (hu.down i i2 b hb)) (hu.down i i2 a ha) (hu.down i i2 b hb)
theorem netL_simp (hS:Simp bl):Simp (netL bl root):=fun j hj hk=>by
 have hu:=useF_ok hB.kids hr
 obtain ⟨i,i1,i2,rfl⟩:=netL_from hB hr hj
 rw [netL_ndAt hB hr i2] at hk ⊢
 intro k hk'
 obtain ⟨a,ha,rfl⟩:=List.mem_map.1 hk'
 have hua:=hu.down i i2 a ha
 obtain ⟨g1,g2,g3,g4⟩:=hS i (by omega) hk a ha
 rw [netL_ndAt hB hr hua]
 refine ⟨g1,g2,g3,fun m hm=>?_⟩
 obtain ⟨b,hb,rfl⟩:=List.mem_map.1 hm
 rw [netL_ndAt hB hr (hu.down i i2 b hb)]
 exact g4 b hb
theorem netL_all:AllU (netL bl root):=fun j hj=>by
 have hu:=useF_ok hB.kids hr
 obtain ⟨i,i1,i2,rfl⟩:=netL_from hB hr hj
 have hlast:=moveN_root hB.kids hr
 have hlast':(netL bl root).length - 1 = moveN bl root root:=by omega
 rw [hlast']
 have hU:=useF_ok (netL_kids hB.kids hr) (root:=moveN bl root root) (by omega)
 have:=useF_least (bl:=bl) (root:=root) (P:=fun i=>useF bl root i = true∧useF (netL bl root) (moveN bl root root) (moveN bl root i) = true) ⟨hu.top,hU.top⟩ (fun i hi k hk=>⟨hu.down i hi.1 k hk,hU.down _ hi.2 _ (by rw [netL_ndAt hB hr hi.1];exact List.mem_map_of_mem hk)⟩) i i2
 exact this.2
end
theorem reduceL_ok {n:Int} {nl:List ND} (h:NOK n nl) (hne:nl≠[]):BOK n (reduceL nl)∧Simp (reduceL nl)∧AllU (reduceL nl)∧reduceL nl≠[]∧(reduceL nl).length≤nl.length:=by
 obtain ⟨b1,b2,b3,b4,b5,b6⟩:=redF_ok h
 have h0:0 < nl.length:=List.length_pos_iff.2 hne
 have hr:=b5 (nl.length - 1) (by omega)
 refine ⟨netL_bok b1 hr,netL_simp b1 hr b2,netL_all b1 hr,netL_ne b1.kids hr,?_⟩
 have:∀ (u:Nat→Bool) (m:Nat),(netF (redF nl).1 u m).1.length≤m:=fun u m=>by
  induction m with
  | zero=>exact Nat.le_refl _
  | succ m ih =>
    rw [netF]
    by_cases hu:u m = true
    ·rw [if_pos hu]
     show (_++[_]).length≤_
     rw [List.length_append,List.length_singleton];omega
    ·rw [if_neg hu]
     show (netF (redF nl).1 u m).1.length≤_
     omega
 have h1:=this (useF (redF nl).1 ((redF nl).2.getD (nl.length - 1) 0)) ((redF nl).2.getD (nl.length - 1) 0+1)
 unfold reduceL netL
 omega
end Go.Proofs.YtckhohpbokojdaaGreatDoor.L
