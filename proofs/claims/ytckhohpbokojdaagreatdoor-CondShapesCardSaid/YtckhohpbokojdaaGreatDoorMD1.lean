import Derived.Test.YtckhohpbokojdaaGreatDoorMN39
import Derived.Test.YtckhohpbokojdaaGreatDoorMLaw18
section
set_option linter.unusedSimpArgs false
set_option linter.unusedVariables false
namespace Go.Proofs.YtckhohpbokojdaaGreatDoor
open Go Go.RowKit Go.Shelf
theorem bok_nok {n:Int} {bl:List L.ND} (h:L.BOK n bl):L.NOK n bl:=⟨h.kids,fun x hx=>by
 rcases h.form x hx with e | e | e
 ·exact .inl e
 ·exact .inr (.inl e)
 ·exact .inr (.inr ⟨e.1,e.2.1⟩)⟩
theorem red_facts {n:Int} {nl:List L.ND} (hn:0≤n∧n≤128) (h:L.NOK n nl) (hne:nl≠[]) (hl:nl.length≤65536):L.netChk n ((L.reduceL nl).map L.ofND) = 0∧L.NOK n (L.reduceL nl)∧L.reduceL nl≠[]∧(L.reduceL nl).length≤nl.length∧∀ y∈L.reduceL nl,y.inp.length≤nl.length:=by
 obtain ⟨b1,_,_,b4,b5⟩:=L.reduceL_ok h hne
 have hl0:0 < (L.reduceL nl).length:=List.length_pos_iff.2 b4
 refine ⟨L.nok_net (bok_nok b1) hn (by omega),bok_nok b1,b4,b5,fun y hy=>?_⟩
 obtain ⟨i,hi,rfl⟩:=List.getElem_of_mem hy
 have:=L.bok_inp b1 hi
 omega
theorem nok_of {n:Int} {nl:List L.ND} (hc:L.netChk n (nl.map L.ofND) = 0):L.NOK n nl∧nl≠[]∧(0≤n∧n≤128)∧nl.length≤65536:=by
 have h:=L.net_nok hc
 rw [List.map_map,show (L.toND ∘ L.ofND) = id from funext L.toND_ofND,List.map_id] at h
 obtain ⟨hn,hl,_⟩:=L.netChk_ok.1 hc
 rw [List.length_map] at hl
 exact ⟨h.1,h.2.1,hn,hl.2⟩
theorem map_ne {f:L.ND→L.ND} {nl:List L.ND} (h:nl≠[]):nl.map f≠[]:=fun e=>h (List.map_eq_nil_iff.1 e)
end Go.Proofs.YtckhohpbokojdaaGreatDoor
end
section
set_option linter.unusedSimpArgs false
set_option linter.unusedVariables false
namespace Go.Proofs.YtckhohpbokojdaaGreatDoor
open Go Go.RowKit Go.Shelf
def bvTo (f:Nat→Bool):Nat→BitVec 64
 | 0=>0
 | k+1=>if f k = true then bvTo f k ||| BitVec.twoPow 64 k else bvTo f k
theorem bvTo_bit (f:Nat→Bool) (i:Nat) (hi:i < 64):∀ k,k≤64→(bvTo f k).getLsbD i = (decide (i < k) && f i)
 | 0,_=>by simp [bvTo]
 | k+1,h=>by
   rw [bvTo]
   have ih:=bvTo_bit f i hi k (by omega)
   by_cases hf:f k = true
   ·rw [if_pos hf,BitVec.getLsbD_or,ih,BitVec.getLsbD_twoPow]
    by_cases e:i = k
    ·subst e;simp [hf,hi]
    ·by_cases e2:i < k
     ·simp [e2,show i < k+1 by omega,Ne.symm e]
     ·simp [e2,show ¬ i < k+1 by omega,Ne.symm e]
   ·rw [if_neg hf,ih]
    by_cases e:i = k
    ·subst e;simp [hf]
    ·by_cases e2:i < k
     ·simp [e2,show i < k+1 by omega]
     ·simp [e2,show ¬ i < k+1 by omega]
def asgW (W:Nat→BitVec 64) (b:Nat):L.Asg:=fun v=>(W v.toNat).getLsbD b
def XV (W:Nat→BitVec 64) (nl:List L.ND) (i:Nat):BitVec 64:=bvTo (fun b=>L.tv nl (asgW W b) i) 64
theorem XV_bit {W:Nat→BitVec 64} {nl:List L.ND} {i b:Nat} (hb:b < 64):(XV W nl i).getLsbD b = L.tv nl (asgW W b) i:=by
 unfold XV
 rw [bvTo_bit _ b hb 64 (Nat.le_refl _),decide_eq_true hb,Bool.true_and]
def litW (W:Nat→BitVec 64) (l:Int):BitVec 64:=if l < 0 then ~~~(W l.natAbs) else W l.natAbs
def andW (X:Nat→BitVec 64) (l:List Nat):BitVec 64:=l.foldl (fun w k=>w &&& X k) (BitVec.allOnes 64)
def orW (X:Nat→BitVec 64) (l:List Nat):BitVec 64:=l.foldl (fun w k=>w ||| X k) 0
def valW (W X:Nat→BitVec 64) (y:L.ND):BitVec 64:=if y.kind = 1 then BitVec.allOnes 64 else if y.kind = 2 then litW W y.lit else if y.kind = 3 then andW X y.inp else if y.kind = 4 then orW X y.inp else 0
theorem foldl_and_bit (X:Nat→BitVec 64) (b:Nat):∀ (l:List Nat) (w:BitVec 64),(l.foldl (fun w k=>w &&& X k) w).getLsbD b = (w.getLsbD b && l.all fun k=>(X k).getLsbD b)
 | [],w=>by simp
 | k :: l,w=>by rw [List.foldl_cons,foldl_and_bit X b l,BitVec.getLsbD_and,List.all_cons,Bool.and_assoc]
theorem foldl_or_bit (X:Nat→BitVec 64) (b:Nat):∀ (l:List Nat) (w:BitVec 64),(l.foldl (fun w k=>w ||| X k) w).getLsbD b = (w.getLsbD b || l.any fun k=>(X k).getLsbD b)
 | [],w=>by simp
 | k :: l,w=>by rw [List.foldl_cons,foldl_or_bit X b l,BitVec.getLsbD_or,List.any_cons,Bool.or_assoc]
theorem XV_val {n:Int} {W:Nat→BitVec 64} {nl:List L.ND} (h:L.NOK n nl) {i:Nat} (hi:i < nl.length):XV W nl i = valW W (XV W nl) nl[i]:=by
 apply BitVec.eq_of_getLsbD_eq
 intro b hb
 rw [XV_bit hb,L.tv_at h.kids (List.getElem?_eq_getElem hi)]
 unfold L.valND valW
 have hx:∀ k,(XV W nl k).getLsbD b = L.tv nl (asgW W b) k:=fun k=>XV_bit hb
 split
 ·rw [BitVec.getLsbD_allOnes,decide_eq_true hb]
 ·split
  ·unfold litW asgW
   have hne:nl[i].lit≠0:=by
    rcases h.form _ (List.getElem_mem hi) with h1 | h1 | h1
    ·omega
    ·exact h1.2.1.1
    ·omega
   simp only [Int.toNat_natCast]
   by_cases hl:nl[i].lit < 0
   ·rw [if_pos hl,decide_eq_false (by omega),BitVec.getLsbD_not]
    cases (W nl[i].lit.natAbs).getLsbD b <;> simp [hb]
   ·rw [if_neg hl,decide_eq_true (by omega)]
    cases (W nl[i].lit.natAbs).getLsbD b <;> simp
  ·split
   ·unfold andW
    rw [foldl_and_bit]
    simp only [hx,BitVec.getLsbD_allOnes,hb,decide_true,Bool.true_and]
   ·split
    ·unfold orW
     rw [foldl_or_bit]
     simp [hx]
    ·simp
def clash (X:Nat→BitVec 64):List Nat→BitVec 64→Bool
 | [],_=>false
 | k :: l,w=>decide (w &&& X k≠0) || clash X l (w ||| X k)
theorem bv_and_or {a b c:BitVec 64}:(a ||| b) &&& c = 0↔a &&& c = 0∧b &&& c = 0:=by
 have key:∀ x y:BitVec 64,x &&& y = 0↔∀ i,i < 64→¬ (x.getLsbD i = true∧y.getLsbD i = true):=fun x y=>by
  constructor
  ·intro h i hi e
   have h1:(x &&& y).getLsbD i = true:=by rw [BitVec.getLsbD_and,e.1,e.2];rfl
   rw [h] at h1
   simp at h1
  ·intro h
   apply BitVec.eq_of_getLsbD_eq
   intro i hi
   have:=h i hi
   rw [BitVec.getLsbD_and]
   cases hx:x.getLsbD i <;> cases hy:y.getLsbD i <;> simp_all
 rw [key,key,key]
 constructor
 ·intro h
  exact ⟨fun i hi e=>h i hi ⟨by rw [BitVec.getLsbD_or,e.1];rfl,e.2⟩,fun i hi e=>h i hi ⟨by rw [BitVec.getLsbD_or,e.1];simp,e.2⟩⟩
 ·rintro ⟨h1,h2⟩ i hi ⟨e1,e2⟩
  rw [BitVec.getLsbD_or,Bool.or_eq_true] at e1
  rcases e1 with e | e
  ·exact h1 i hi ⟨e,e2⟩
  ·exact h2 i hi ⟨e,e2⟩
theorem clash_iff (X:Nat→BitVec 64):∀ (l:List Nat) (w:BitVec 64),clash X l w = false↔(∀ k∈l,w &&& X k = 0)∧l.Pairwise fun p q=>X p &&& X q = 0
 | [],w=>by simp [clash]
 | k :: l,w=>by
   rw [clash,Bool.or_eq_false_iff,decide_eq_false_iff_not,clash_iff X l,List.pairwise_cons]
   simp only [ne_eq,Classical.not_not,List.mem_cons,forall_eq_or_imp]
   constructor
   ·rintro ⟨h1,h2,h3⟩
    exact ⟨⟨h1,fun j hj=>(bv_and_or.1 (h2 j hj)).1⟩,fun j hj=>(bv_and_or.1 (h2 j hj)).2,h3⟩
   ·rintro ⟨⟨h1,h2⟩,h3,h4⟩
    exact ⟨h1,fun j hj=>bv_and_or.2 ⟨h2 j hj,h3 j hj⟩,h4⟩
theorem bv_and_zero {x y:BitVec 64}:x &&& y = 0↔∀ i,i < 64→¬ (x.getLsbD i = true∧y.getLsbD i = true):=by
 constructor
 ·intro h i hi e
  have h1:(x &&& y).getLsbD i = true:=by rw [BitVec.getLsbD_and,e.1,e.2];rfl
  rw [h] at h1
  simp at h1
 ·intro h
  apply BitVec.eq_of_getLsbD_eq
  intro i hi
  have:=h i hi
  rw [BitVec.getLsbD_and]
  cases hx:x.getLsbD i <;> cases hy:y.getLsbD i <;> simp_all
def SepP (W:Nat→BitVec 64) (nl:List L.ND):Prop:=∀ i,i < nl.length→(L.ndAt nl i).kind = 4→clash (XV W nl) (L.ndAt nl i).inp 0 = false
theorem sep_det {W:Nat→BitVec 64} {nl:List L.ND}:SepP W nl↔∀ b,b < 64→L.Det (asgW W b) nl:=by
 unfold SepP L.Det
 constructor
 ·intro h b hb i hi h4
  have:=(clash_iff _ _ _).1 (h i hi h4)
  refine this.2.imp fun {p q} hpq e=>?_
  have:=bv_and_zero.1 hpq b hb
  rw [XV_bit hb,XV_bit hb] at this
  exact this e
 ·intro h i hi h4
  rw [clash_iff]
  refine ⟨fun k _=>by simp,?_⟩
  rw [List.pairwise_iff_getElem]
  intro p q hp hq hpq
  refine bv_and_zero.2 fun b hb=>?_
  rw [XV_bit hb,XV_bit hb]
  exact (List.pairwise_iff_getElem.1 (h b hb i hi h4)) p q hp hq hpq
end Go.Proofs.YtckhohpbokojdaaGreatDoor
end
