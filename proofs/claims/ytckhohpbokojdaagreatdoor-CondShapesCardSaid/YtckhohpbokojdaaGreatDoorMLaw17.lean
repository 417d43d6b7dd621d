import Derived.Test.YtckhohpbokojdaaGreatDoorMLaw11
import Derived.Test.YtckhohpbokojdaaGreatDoorMLaw16
section
set_option linter.unusedSimpArgs false
set_option linter.unusedVariables false
namespace Go.Proofs.YtckhohpbokojdaaGreatDoor.L
structure Gt where
 kind:Int
 lit:Int
 inp:List Int
end Go.Proofs.YtckhohpbokojdaaGreatDoor.L
end
section
set_option linter.unusedSimpArgs false
set_option linter.unusedVariables false
namespace Go.Proofs.YtckhohpbokojdaaGreatDoor.L
def fmK (N:Int) (x:Gt):Bool :=
 if x.kind = 0∨x.kind = 1 then decide (x.lit = 0) && decide (x.inp.length = 0)
 else if x.kind = 2 then validB N x.lit && decide (x.inp.length = 0)
 else if x.kind = 3∨x.kind = 4 then decide (x.lit = 0) else false
def fmIn (i:Nat) (x:Gt):Bool:=x.inp.all fun k=>decide (0≤k) && decide (k < i)
def fmOk (N:Int) (i:Nat) (x:Gt):Bool:=fmIn i x && fmK N x
def netScan (N:Int):Nat→List Gt→Bool
 | _,[]=>true
 | i,g :: r=>fmOk N i g && netScan N (i+1) r
def netChk (N:Int) (l:List Gt):Int:=if N < 0∨128 < N∨l.length < 1∨65536 < l.length then 1 else if netScan N 0 l = true then 0 else 1
theorem netScan_ok {N:Int}:∀ {C:List Gt} {i:Nat},netScan N i C = true↔∀ j (hj:j < C.length),fmOk N (i+j) C[j] = true
 | [],i=>⟨fun _ j hj=>absurd hj (Nat.not_lt_zero _),fun _=>rfl⟩
 | g :: r,i=>by
   rw [netScan,Bool.and_eq_true,netScan_ok]
   constructor
   ·rintro ⟨h1,h2⟩ j hj
    cases j with
    | zero=>exact h1
    | succ j=>rw [List.getElem_cons_succ,show i+(j+1) = i+1+j by omega];exact h2 j (by simpa using hj)
   ·intro h
    refine ⟨h 0 (by simp),fun j hj=>?_⟩
    have:=h (j+1) (by simpa using hj)
    rw [List.getElem_cons_succ,show i+(j+1) = i+1+j by omega] at this
    exact this
theorem netChk_ok {N:Int} {l:List Gt}:netChk N l = 0↔(0≤N∧N≤128)∧(1≤l.length∧l.length≤65536)∧∀ j (hj:j < l.length),fmOk N j l[j] = true:=by
 unfold netChk
 by_cases h:N < 0∨128 < N∨l.length < 1∨65536 < l.length
 ·rw [if_pos h];exact ⟨fun e=>(by cases e),fun e=>by omega⟩
 ·rw [if_neg h]
  by_cases h2:netScan N 0 l = true
  ·rw [if_pos h2]
   have:=netScan_ok.1 h2
   simp only [Nat.zero_add] at this
   exact ⟨fun _=>⟨by omega,by omega,this⟩,fun _=>rfl⟩
  ·rw [if_neg h2]
   refine ⟨fun e=>(by cases e),fun e=>absurd (netScan_ok.2 ?_) h2⟩
   simpa only [Nat.zero_add] using e.2.2
theorem netChk_cases (N:Int) (l:List Gt):netChk N l = 0∨netChk N l = 1:=by
 unfold netChk
 split
 ·exact .inr rfl
 ·split
  ·exact .inl rfl
  ·exact .inr rfl
def ofND (y:ND):Gt:=⟨y.kind,y.lit,y.inp.map fun k:Nat=>(k:Int)⟩
def toND (x:Gt):ND:=⟨x.kind,x.lit,x.inp.map fun k=>k.toNat⟩
theorem toND_ofND (y:ND):toND (ofND y) = y:=by
 obtain ⟨k,l,i⟩:=y
 simp [toND,ofND,Function.comp_def]
theorem ofND_toND {i:Nat} {x:Gt} (h:fmIn i x = true):ofND (toND x) = x:=by
 obtain ⟨k,l,ip⟩:=x
 unfold ofND toND
 congr 1
 rw [List.map_map]
 unfold fmIn at h
 rw [List.all_eq_true] at h
 conv=>rhs;rw [←List.map_id ip]
 refine List.map_congr_left fun z hz=>?_
 have:=h z hz
 simp only [Bool.and_eq_true,decide_eq_true_eq] at this
 show ((z.toNat:Nat):Int) = z
 omega
theorem fmOk_form {N:Int} {i:Nat} {x:Gt} (h:fmOk N i x = true):((x.kind = 0∨x.kind = 1)∧x.lit = 0∧x.inp = []∨x.kind = 2∧validB N x.lit = true∧x.inp = []∨(x.kind = 3∨x.kind = 4)∧x.lit = 0)∧∀ z∈x.inp,0≤z∧z < (i:Int):=by
 unfold fmOk fmK fmIn at h
 rw [Bool.and_eq_true] at h
 refine ⟨?_,fun z hz=>by have:=List.all_eq_true.1 h.1 z hz;simpa using this⟩
 have h2:=h.2
 split at h2
 ·rename_i e
  simp only [Bool.and_eq_true,decide_eq_true_eq] at h2
  exact .inl ⟨e,h2.1,List.length_eq_zero_iff.1 h2.2⟩
 ·split at h2
  ·rename_i e
   simp only [Bool.and_eq_true,decide_eq_true_eq] at h2
   exact .inr (.inl ⟨e,h2.1,List.length_eq_zero_iff.1 h2.2⟩)
  ·split at h2
   ·rename_i e
    exact .inr (.inr ⟨e,by simpa using h2⟩)
   ·cases h2
theorem net_nok {N:Int} {l:List Gt} (h:netChk N l = 0):NOK N (l.map toND)∧l.map toND≠[]∧(l.map toND).map ofND = l:=by
 obtain ⟨hN,hl,ha⟩:=netChk_ok.1 h
 refine ⟨⟨fun i hi k hk=>?_,fun x hx=>?_⟩,?_,?_⟩
 ·have hi':i < l.length:=by simpa using hi
  rw [List.getElem_map] at hk
  obtain ⟨z,hz,rfl⟩:=List.mem_map.1 hk
  have:=(fmOk_form (ha i hi')).2 z hz
  omega
 ·obtain ⟨g,hg,rfl⟩:=List.mem_map.1 hx
  obtain ⟨j,hj,rfl⟩:=List.getElem_of_mem hg
  rcases (fmOk_form (ha j hj)).1 with h1 | h1 | h1
  ·exact .inl ⟨h1.1,h1.2.1,by show l[j].inp.map _ = [];rw [h1.2.2];rfl⟩
  ·refine .inr (.inl ⟨h1.1,?_,by show l[j].inp.map _ = [];rw [h1.2.2];rfl⟩)
   have:=h1.2.1
   unfold validB at this
   simp only [Bool.and_eq_true,decide_eq_true_eq] at this
   exact ⟨this.1,this.2.1,this.2.2⟩
  ·exact .inr (.inr h1)
 ·intro e
  have:=congrArg List.length e
  simp at this
  rw [this] at hl;simp at hl
 ·rw [List.map_map]
  conv=>rhs;rw [←List.map_id l]
  refine List.map_congr_left fun g hg=>?_
  obtain ⟨j,hj,rfl⟩:=List.getElem_of_mem hg
  have:=ha j hj
  unfold fmOk at this
  rw [Bool.and_eq_true] at this
  exact ofND_toND this.1
theorem ofND_ok {N:Int} {i:Nat} {y:ND} (hk:∀ k∈y.inp,k < i) (hf:(y.kind = 0∨y.kind = 1)∧y.lit = 0∧y.inp = []∨y.kind = 2∧(y.lit≠0∧-N≤y.lit∧y.lit≤N)∧y.inp = []∨(y.kind = 3∨y.kind = 4)∧y.lit = 0):fmOk N i (ofND y) = true:=by
 unfold fmOk
 rw [Bool.and_eq_true]
 constructor
 ·unfold fmIn
  rw [List.all_eq_true]
  intro z hz
  obtain ⟨k,hk',rfl⟩:=List.mem_map.1 hz
  have:=hk k hk'
  simp;omega
 ·unfold fmK
  show (if y.kind = 0∨y.kind = 1 then decide (y.lit = 0) && decide ((y.inp.map fun k:Nat=>(k:Int)).length = 0) else if y.kind = 2 then validB N y.lit && decide ((y.inp.map fun k:Nat=>(k:Int)).length = 0) else if y.kind = 3∨y.kind = 4 then decide (y.lit = 0) else false) = true
  rcases hf with h | h | h
  ·rw [if_pos h.1,h.2.1,h.2.2];rfl
  ·rw [if_neg (by omega),if_pos h.1,h.2.2]
   unfold validB
   simp only [List.map_nil,List.length_nil,decide_true,Bool.and_true,Bool.and_eq_true,decide_eq_true_eq]
   exact ⟨h.2.1.1,h.2.1.2.1,h.2.1.2.2⟩
  ·rw [if_neg (by omega),if_neg (by omega),if_pos h.1,h.2];rfl
theorem nok_net {N:Int} {nl:List ND} (h:NOK N nl) (hN:0≤N∧N≤128) (h1:1≤nl.length∧nl.length≤65536):netChk N (nl.map ofND) = 0:=by
 refine netChk_ok.2 ⟨hN,by simpa using h1,fun j hj=>?_⟩
 have hj':j < nl.length:=by simpa using hj
 rw [List.getElem_map]
 exact ofND_ok (h.kids j hj') (h.form _ (List.getElem_mem hj'))
theorem bok_inp {n:Int} {bl:List ND} (h:BOK n bl) {i:Nat} (hi:i < bl.length):bl[i].inp.length≤i:=by
 have hk:=h.kids i hi
 have hp:bl[i].inp.Pairwise (· < ·):=by
  rcases h.form _ (List.getElem_mem hi) with h1 | h1 | h1
  ·rw [h1.2.2];exact .nil
  ·rw [h1.2.2];exact .nil
  ·exact h1.2.2.1
 generalize bl[i].inp = l at *
 clear h hi
 induction i generalizing l with
 | zero =>
   cases l with
   | nil=>exact Nat.le_refl _
   | cons a r=>exact absurd (hk a (List.mem_cons_self ..)) (Nat.not_lt_zero _)
 | succ i ih =>
   by_cases hm:∃ m,l = m++[i]
   ·obtain ⟨m,rfl⟩:=hm
    rw [List.pairwise_append] at hp
    have:=ih m (fun k hk'=>hp.2.2 k hk' i (by simp)) hp.1
    simp;omega
   ·have:∀ k∈l,k < i:=fun k hk'=>by
     have h1:=hk k hk'
     by_cases e:k = i
     ·exfalso
      subst e
      obtain ⟨a,b,rfl⟩:=List.append_of_mem hk'
      rw [List.pairwise_append] at hp
      have hb:b = []:=by
       cases b with
       | nil=>rfl
       | cons c d =>
         have h2:=(List.pairwise_cons.1 hp.2.1).1 c (List.mem_cons_self ..)
         have h3:=hk c (by simp)
         omega
      exact hm ⟨a,by rw [hb]⟩
     ·omega
    have:=ih l this hp
    omega
end Go.Proofs.YtckhohpbokojdaaGreatDoor.L
end
