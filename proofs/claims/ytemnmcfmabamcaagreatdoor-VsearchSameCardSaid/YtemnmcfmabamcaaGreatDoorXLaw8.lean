import Derived.Test.YtemnmcfmabamcaaGreatDoorXTab2
import Derived.Test.YtemnmcfmabamcaaGreatDoorXLaw5
set_option linter.unusedSimpArgs false
set_option linter.unusedVariables false
namespace Go.Proofs.YtemnmcfmabamcaaGreatDoor.L
def asgI (l:List Int) (i:Nat):Asg:=fun v=>(List.range l.length).any fun k=>decide (l.getD k 0 = v) && i.testBit (l.length - 1 - k)
theorem asgI_out {l:List Int} {i:Nat} {v:Int} (h:v∉l):asgI l i v = false:=by
 unfold asgI
 rw [List.any_eq_false]
 intro k hk hc
 have hkl:=List.mem_range.1 hk
 simp only [Bool.and_eq_true,decide_eq_true_eq,List.getD_eq_getElem?_getD,List.getElem?_eq_getElem hkl,Option.getD_some] at hc
 exact h (hc.1 ▸ List.getElem_mem hkl)
theorem asgI_at {l:List Int} (hs:l.Pairwise (· < ·)) {i k:Nat} (hk:k < l.length):asgI l i l[k] = i.testBit (l.length - 1 - k):=by
 rw [Bool.eq_iff_iff]
 unfold asgI
 rw [List.any_eq_true]
 constructor
 ·rintro ⟨k',hk',hc⟩
  have hkl:=List.mem_range.1 hk'
  simp only [Bool.and_eq_true,decide_eq_true_eq,List.getD_eq_getElem?_getD,List.getElem?_eq_getElem hkl,Option.getD_some] at hc
  rw [←sorted_inj hs hkl hk hc.1];exact hc.2
 ·intro hb
  exact ⟨k,List.mem_range.2 hk,by simp [List.getD_eq_getElem?_getD,List.getElem?_eq_getElem hk,hb]⟩
theorem num_ext {n i j:Nat} (hi:i < 2 ^ n) (hj:j < 2 ^ n) (h:∀ k,k < n→i.testBit (n - 1 - k) = j.testBit (n - 1 - k)):i = j:=by
 apply Nat.eq_of_testBit_eq
 intro b
 by_cases hb:b < n
 ·have:=h (n - 1 - b) (by omega)
  rwa [show n - 1 - (n - 1 - b) = b by omega] at this
 ·rw [Nat.testBit_lt_two_pow (Nat.lt_of_lt_of_le hi (Nat.pow_le_pow_right (by omega) (by omega))),Nat.testBit_lt_two_pow (Nat.lt_of_lt_of_le hj (Nat.pow_le_pow_right (by omega) (by omega)))]
theorem idxF_asgI {l:List Int} (hs:l.Pairwise (· < ·)) {i:Nat} (hi:i < 2 ^ l.length):idxF l (asgI l i) = i :=
 num_ext (idxF_lt l _) hi fun k hk=>by rw [idxF_bit l _ hk,asgI_at hs hk]
theorem asgI_idx {l:List Int} (hs:l.Pairwise (· < ·)) (x:Asg) {v:Int} (hv:v∈l):asgI l (idxF l x) v = x v:=by
 obtain ⟨k,hk,rfl⟩:=List.getElem_of_mem hv
 rw [asgI_at hs hk,idxF_bit l x hk]
theorem idxF_congr {l:List Int} {x y:Asg} (h:∀ v∈l,x v = y v):idxF l x = idxF l y :=
 num_ext (idxF_lt l _) (idxF_lt l _) fun k hk=>by rw [idxF_bit l x hk,idxF_bit l y hk,h _ (List.getElem_mem hk)]
theorem _root_.Go.Proofs.YtemnmcfmabamcaaGreatDoor.IsTab.get {l:List Int} (hs:l.Pairwise (· < ·)) {φ:Asg→Bool} {f:List Bool} (h:IsTab l φ f) {i:Nat} (hi:i < 2 ^ l.length):f.getD i false = φ (asgI l i):=by
 have:=h.says (asgI l i)
 rwa [idxF_asgI hs hi] at this
def tabO (l:List Int) (φ:Asg→Bool):List Bool:=tabN (2 ^ l.length) fun i=>φ (asgI l i)
theorem tabO_is {l:List Int} (hs:l.Pairwise (· < ·)) {φ:Asg→Bool} (hd:Dep (fun v=>v∈l) φ):IsTab l φ (tabO l φ) :=
 ⟨tabN_len _ _,fun x=>by rw [tabO,tabN_getD (idxF_lt l x)];exact hd _ _ fun v hv=>asgI_idx hs x hv⟩
theorem tabO_inj {l:List Int} (hs:l.Pairwise (· < ·)) {φ ψ:Asg→Bool} (hd:Dep (fun v=>v∈l) φ) (hd':Dep (fun v=>v∈l) ψ) (h:tabO l φ = tabO l ψ):φ = ψ:=funext fun x=>by
 rw [←(tabO_is hs hd).says x,←(tabO_is hs hd').says x,h]
def Hangs (φ:Asg→Bool) (v:Int):Prop:=Ess (fun u=>u = v) φ
theorem Hangs.dep {φ:Asg→Bool} {v:Int} (h:Hangs φ v) {S:Int→Prop} (hd:Dep S φ):S v:=by
 obtain ⟨u,rfl,hu⟩:=Ess.meets h hd
 exact hu
theorem hangs_one {S:Int→Prop} {φ:Asg→Bool} {l:List Int} (hd:Dep (fun v=>v∈l) φ) (h:Ess S φ):∃ v∈l,S v∧Hangs φ v:=by
 obtain ⟨x,y,hxy,hne⟩:=h
 have key:∀ m:List Int,∀ z:Asg,(∀ v,v∉m→z v = y v)→(∀ v,¬ S v→z v = y v)→φ z≠φ y→∃ v∈m,S v∧Hangs φ v:=by
  intro m
  induction m with
  | nil=>intro z h1 _ h3;exact (h3 (congrArg φ (funext fun v=>h1 v (by simp)))).elim
  | cons a m ih =>
    intro z h1 h2 h3
    by_cases hz:z a = y a
    ·obtain ⟨v,hv,hh⟩:=ih z (fun v hv=>if e:v = a then e ▸ hz else h1 v (by simp [e,hv])) h2 h3
     exact ⟨v,List.mem_cons_of_mem _ hv,hh⟩
    ·let z':Asg:=fun v=>if v = a then y a else z v
     have hz':∀ v,v≠a→z' v = z v:=fun v hv=>if_neg hv
     have ha:z' a = y a:=if_pos rfl
     by_cases hc:φ z = φ z'
     ·obtain ⟨v,hv,hh⟩:=ih z' (fun v hv=>if e:v = a then e ▸ ha else (hz' v e).trans (h1 v (by simp [e,hv]))) (fun v hv=>if e:v = a then e ▸ ha else (hz' v e).trans (h2 v hv)) (by rw [←hc];exact h3)
      exact ⟨v,List.mem_cons_of_mem _ hv,hh⟩
     ·refine ⟨a,List.mem_cons_self ..,Classical.byContradiction fun hn=>hz (h2 a hn),z,z',fun v hv=>(hz' v hv).symm,hc⟩
 -- x with y's values off l
 let x':Asg:=fun v=>if v∈l then x v else y v
 have e:φ x' = φ x:=hd _ _ fun v hv=>if_pos hv
 exact key l x' (fun v hv=>if_neg hv) (fun v hv=>by
  show (if v∈l then x v else y v) = y v
  split
  ·exact hxy v hv
  ·rfl) (by rw [e];exact hne)
theorem xor_bit (n i k:Nat) (hk:k < n) {j:Nat} (hj:j < n):(i ^^^ 2 ^ (n - 1 - k)).testBit (n - 1 - j) = (i.testBit (n - 1 - j) ^^ decide (j = k)):=by
 rw [Nat.testBit_xor,Nat.testBit_two_pow]
 congr 1
 rw [Bool.eq_iff_iff,decide_eq_true_iff,decide_eq_true_iff];omega
theorem xor_lt {n i k:Nat} (hk:k < n) (hi:i < 2 ^ n):i ^^^ 2 ^ (n - 1 - k) < 2 ^ n :=
 Nat.xor_lt_two_pow hi (Nat.pow_lt_pow_right (by omega) (by omega))
def depB (n k:Nat) (f:List Bool):Bool:=(List.range f.length).any fun i=>f.getD i false != f.getD (i ^^^ 2 ^ (n - 1 - k)) false
theorem depB_iff {l:List Int} (hs:l.Pairwise (· < ·)) {φ:Asg→Bool} {f:List Bool} (h:IsTab l φ f) {k:Nat} (hk:k < l.length):depB l.length k f = true↔Hangs φ l[k]:=by
 unfold depB
 rw [List.any_eq_true]
 constructor
 ·rintro ⟨i,hi,hne⟩
  have hi':i < 2 ^ l.length:=by have:=List.mem_range.1 hi;have:=h.len;omega
  rw [h.get hs hi',h.get hs (xor_lt hk hi')] at hne
  refine ⟨asgI l i,asgI l (i ^^^ 2 ^ (l.length - 1 - k)),fun v hv=>?_,by simpa using hne⟩
  by_cases hvl:v∈l
  ·obtain ⟨j,hj,rfl⟩:=List.getElem_of_mem hvl
   rw [asgI_at hs hj,asgI_at hs hj,xor_bit _ _ _ hk hj,decide_eq_false (fun e=>hv (by subst e;rfl)),Bool.xor_false]
  ·rw [asgI_out hvl,asgI_out hvl]
 ·rintro ⟨x,y,hxy,hne⟩
  have hxl:=idxF_lt l x
  have hyv:idxF l y = idxF l x ^^^ 2 ^ (l.length - 1 - k)∨idxF l y = idxF l x:=by
   by_cases hk':x l[k] = y l[k]
   ·exact .inr (idxF_congr fun v hv=>if e:v = l[k] then e ▸ hk'.symm else (hxy v e).symm)
   ·refine .inl (num_ext (idxF_lt l y) (xor_lt hk hxl) fun j hj=>?_)
    rw [idxF_bit l y hj,xor_bit _ _ _ hk hj,idxF_bit l x hj]
    by_cases e:j = k
    ·subst e
     rw [decide_eq_true rfl]
     cases hx:x l[j] <;> cases hy:y l[j] <;> simp_all
    ·rw [decide_eq_false e,Bool.xor_false]
     exact (hxy _ fun e'=>e (sorted_inj hs hj hk e')).symm
  have hx:=h.says x
  have hy:=h.says y
  rcases hyv with e | e
  ·refine ⟨idxF l x,List.mem_range.2 (by have:=h.len;omega),?_⟩
   rw [←e,hx,hy];simpa using hne
  ·rw [e,hx] at hy;exact (hne hy).elim
def depL (l:List Int) (f:List Bool):List Int:=((List.range l.length).filter fun k=>depB l.length k f).map fun k=>l.getD k 0
theorem depL_mem {l:List Int} (hs:l.Pairwise (· < ·)) {φ:Asg→Bool} {f:List Bool} (h:IsTab l φ f) (hd:Dep (fun v=>v∈l) φ) (v:Int):v∈depL l f↔Hangs φ v:=by
 unfold depL
 rw [List.mem_map]
 constructor
 ·rintro ⟨k,hk,rfl⟩
  rw [List.mem_filter] at hk
  have hkl:=List.mem_range.1 hk.1
  rw [List.getD_eq_getElem?_getD,List.getElem?_eq_getElem hkl]
  exact (depB_iff hs h hkl).1 hk.2
 ·intro hv
  have hvl:=hv.dep hd
  obtain ⟨k,hk,rfl⟩:=List.getElem_of_mem hvl
  exact ⟨k,List.mem_filter.2 ⟨List.mem_range.2 hk,(depB_iff hs h hk).2 hv⟩,by rw [List.getD_eq_getElem?_getD,List.getElem?_eq_getElem hk];rfl⟩
structure PlaceOf (t:List VN) (P:Nat) (φ:Asg→Bool):Prop where
 lt:P < t.length
 dep:Dep (Bel t P) φ
 ess:∃ v,Hangs φ v
 kids:∀ (y:VN) (l r:Nat),t[P]? = some y→leafB y = false→y.left = l→y.right = r→(∃ v,Bel t l v∧Hangs φ v)∧∃ v,Bel t r v∧Hangs φ v
theorem PlaceOf.toL {t:List VN} (hc:checkF t = 0) {P Q:Nat} {φ:Asg→Bool} (h:PlaceOf t P φ) (hq:Und t Q P) {y:VN} {l r:Nat} (hy:t[Q]? = some y) (hlf:leafB y = false) (hl:y.left = l) (hr:y.right = r) :
  (∀ v,Hangs φ v→Bel t l v)↔Und t l P:=by
 have hap:∀ v,Bel t l v→Bel t r v→False:=fun v a b=>Bel.apart hc hy hlf hl hr a b
 constructor
 ·intro ha
  rcases hq.kids hc hy hl hr with rfl | h1 | h1
  ·obtain ⟨_,v,hv,hh⟩:=h.kids y l r hy hlf hl hr
   exact (hap v (ha v hh) hv).elim
  ·exact h1
  ·obtain ⟨v,hv⟩:=h.ess
   exact (hap v (ha v hv) ((hv.dep h.dep).up h1)).elim
 ·intro hu v hv
  exact (hv.dep h.dep).up hu
theorem PlaceOf.toR {t:List VN} (hc:checkF t = 0) {P Q:Nat} {φ:Asg→Bool} (h:PlaceOf t P φ) (hq:Und t Q P) {y:VN} {l r:Nat} (hy:t[Q]? = some y) (hlf:leafB y = false) (hl:y.left = l) (hr:y.right = r) :
  (∀ v,Hangs φ v→Bel t r v)↔Und t r P:=by
 have hap:∀ v,Bel t l v→Bel t r v→False:=fun v a b=>Bel.apart hc hy hlf hl hr a b
 constructor
 ·intro ha
  rcases hq.kids hc hy hl hr with rfl | h1 | h1
  ·obtain ⟨⟨v,hv,hh⟩,_⟩:=h.kids y l r hy hlf hl hr
   exact (hap v hv (ha v hh)).elim
  ·obtain ⟨v,hv⟩:=h.ess
   exact (hap v ((hv.dep h.dep).up h1) (ha v hv)).elim
  ·exact h1
 ·intro hu v hv
  exact (hv.dep h.dep).up hu
theorem Inv.tabDep {s:St} (h:Inv s) {l:List Int} (hl:SortedBel s.tree (s.tree.length - 1) l) {a:Nat} (ha:a < s.nodes.length):Dep (fun v=>v∈l) (sem s.nodes a):=by
 rcases h.kind ha with rfl | rfl | ⟨h2,n,hn,_⟩
 ·intro x y _;rw [h.sem0,h.sem0]
 ·intro x y _;rw [h.sem1,h.sem1]
 ·obtain ⟨P,_,hP,hd⟩:=h.place h2 hn
  exact hd.mono fun v hv=>(hl.mem v).2 (hv.up (Und.root h.tree s.tree.length P hP (by omega)))
theorem Inv.placeOf {s:St} (h:Inv s) {l:List Int} (hl:SortedBel s.tree (s.tree.length - 1) l) {a:Nat} {n:SNode} (h2:2≤a) (hn:s.nodes[a]? = some n):∃ P:Nat,n.pl = P∧PlaceOf s.tree P (sem s.nodes a):=by
 have ha:=(List.getElem?_eq_some_iff.1 hn).1
 have hd:=h.tabDep hl ha
 rcases h.ok a n h2 hn with hk | hk
 ·obtain ⟨u,y,e,hu,hlf,hv⟩:=hk.leaf
  have hsem:=h.semLit hn hk
  refine ⟨u,e,(List.getElem?_eq_some_iff.1 hu).1,fun x z hxz=>?_,⟨y.var,?_⟩,fun y' _ _ hy' hlf' _ _=>?_⟩
  ·rw [hsem,hsem,hxz _ ((Bel.leaf h.tree hu hlf _).2 hv.symm)]
  ·refine ⟨fun v=>if v = y.var then true else false,fun _=>false,fun v hv'=>if_neg hv',?_⟩
   rw [hsem,hsem]
   rw [if_pos hv.symm]
   cases decide (0 < n.lit) <;> simp
  ·rw [hu] at hy';cases hy';rw [hlf] at hlf';cases hlf'
 ·obtain ⟨P,y,l',r',hP,hy,hlf,hl',hr',hp,hdis,e1,e2,hdp⟩:=dec_facts h (fun i j _ _ hi hj e=>h.canon hi hj e) (k:=a) (Nat.le_refl _) hn hk
  have hu:P < s.tree.length:=(List.getElem?_eq_some_iff.1 hy).1
  obtain ⟨v1,_,b1,c1⟩:=hangs_one hd e1
  obtain ⟨v2,_,b2,c2⟩:=hangs_one hd e2
  refine ⟨P,hP,hu,hdp,⟨v1,c1⟩,fun y' l'' r'' hy' _ el er=>?_⟩
  rw [hy] at hy';cases hy'
  obtain rfl:l'' = l':=by omega
  obtain rfl:r'' = r':=by omega
  exact ⟨⟨v1,b1,c1⟩,v2,b2,c2⟩
theorem const_hangs {φ:Asg→Bool} {b:Bool} (h:∀ x,φ x = b) (v:Int):¬ Hangs φ v:=by
 rintro ⟨x,y,_,hne⟩
 rw [h,h] at hne;exact hne rfl
end Go.Proofs.YtemnmcfmabamcaaGreatDoor.L
namespace Go.Proofs.YtemnmcfmabamcaaGreatDoor.L
theorem split_bits {n i m x:Nat} (hi:i < 2 ^ n) (hx:x < 2 ^ n) (hm:x &&& m = x):i - (i &&& m)+x < 2 ^ n∧∀ j,(i - (i &&& m)+x).testBit j = if m.testBit j = true then x.testBit j else i.testBit j:=by
 induction n generalizing i m x with
 | zero =>
   have hi0:i = 0:=by simpa using hi
   have hx0:x = 0:=by simpa using hx
   subst hi0;subst hx0
   simp
 | succ n ih =>
   have hi2:i / 2 < 2 ^ n:=by rw [Nat.pow_succ] at hi;omega
   have hx2:x / 2 < 2 ^ n:=by rw [Nat.pow_succ] at hx;omega
   have hm2:(x / 2) &&& (m / 2) = x / 2:=by
    have:=congrArg (· / 2) hm
    simpa [Nat.and_div_two] using this
   obtain ⟨g1,g2⟩:=ih (m:=m / 2) hi2 hx2 hm2
   have hand:(i &&& m) / 2 = (i / 2) &&& (m / 2):=by rw [Nat.and_div_two]
   have h0:(i &&& m) % 2 = (i % 2) * (m % 2):=by
    have e:=Nat.testBit_and i m 0
    rw [Nat.testBit_zero,Nat.testBit_zero,Nat.testBit_zero] at e
    have a1:i % 2 = 0∨i % 2 = 1:=by omega
    have a2:m % 2 = 0∨m % 2 = 1:=by omega
    have a3:(i &&& m) % 2 = 0∨(i &&& m) % 2 = 1:=by omega
    rcases a1 with a1 | a1 <;> rcases a2 with a2 | a2 <;> rcases a3 with a3 | a3 <;> simp [a1,a2,a3] at e ⊢
   have hx0:x % 2 = (x % 2) * (m % 2):=by
    have e:=Nat.testBit_and x m 0
    rw [hm,Nat.testBit_zero,Nat.testBit_zero] at e
    have a1:x % 2 = 0∨x % 2 = 1:=by omega
    have a2:m % 2 = 0∨m % 2 = 1:=by omega
    rcases a1 with a1 | a1 <;> rcases a2 with a2 | a2 <;> simp [a1,a2] at e ⊢
   have hle:i &&& m≤i:=Nat.and_le_left
   have hle2:(i / 2) &&& (m / 2)≤i / 2:=Nat.and_le_left
   generalize hA:i &&& m = A at *
   generalize hB:(i / 2) &&& (m / 2) = B at *
   have a1:i % 2 = 0∨i % 2 = 1:=by omega
   have a2:m % 2 = 0∨m % 2 = 1:=by omega
   have hhalf:(i - A+x) / 2 = i / 2 - B+x / 2:=by
    rcases a1 with a1 | a1 <;> rcases a2 with a2 | a2 <;> simp [a1,a2] at h0 hx0 <;> omega
   have hlow:(i - A+x) % 2 = if m % 2 = 1 then x % 2 else i % 2:=by
    rcases a1 with a1 | a1 <;> rcases a2 with a2 | a2 <;> simp [a1,a2] at h0 hx0 ⊢ <;> omega
   refine ⟨by rw [Nat.pow_succ];omega,fun j=>?_⟩
   cases j with
   | zero =>
     rw [Nat.testBit_zero,Nat.testBit_zero,Nat.testBit_zero,Nat.testBit_zero,hlow]
     by_cases hm1:m % 2 = 1 <;> simp [hm1]
   | succ j =>
     rw [Nat.testBit_succ,Nat.testBit_succ,Nat.testBit_succ,Nat.testBit_succ,hhalf]
     exact g2 j
structure Mask (l:List Int) (S:Int→Prop) (mk:Nat):Prop where
 lt:mk < 2 ^ l.length
 bit:∀ k (hk:k < l.length),mk.testBit (l.length - 1 - k) = true↔S l[k]
theorem Mask.eq {l:List Int} {S:Int→Prop} {mk i x:Nat} (h:Mask l S mk) (hi:i < 2 ^ l.length) (hx:x < 2 ^ l.length) (hs:x &&& mk = x) (hsort:l.Pairwise (· < ·)) :
  i &&& mk = x↔∀ v∈l,S v→asgI l i v = asgI l x v:=by
 constructor
 ·rintro rfl v hv hS
  obtain ⟨k,hk,rfl⟩:=List.getElem_of_mem hv
  rw [asgI_at hsort hk,asgI_at hsort hk,Nat.testBit_and,(h.bit k hk).2 hS,Bool.and_true]
 ·intro hh
  refine num_ext (Nat.lt_of_le_of_lt Nat.and_le_left hi) hx fun k hk=>?_
  rw [Nat.testBit_and]
  cases hb:mk.testBit (l.length - 1 - k)
  ·rw [Bool.and_false]
   have:=congrArg (fun y=>y.testBit (l.length - 1 - k)) hs
   simp only [Nat.testBit_and,hb,Bool.and_false] at this
   exact this
  ·rw [Bool.and_true]
   have:=hh l[k] (List.getElem_mem hk) ((h.bit k hk).1 hb)
   rwa [asgI_at hsort hk,asgI_at hsort hk] at this
def subTab (f:List Bool) (mk x:Nat):List Bool:=tabN f.length fun i=>f.getD (i - (i &&& mk)+x) false
def primeSet (p:List Bool) (mk x:Nat):List Bool:=tabN p.length fun i=>p.getD i false || decide (i &&& mk = x)
def elStep (f:List Bool) (mk:Nat) (out:List (List Bool × List Bool)) (x:Nat):List (List Bool × List Bool) :=
 if x &&& mk = x then
  let sub:=subTab f mk x
  let k:=out.findIdx fun e=>decide (e.2 = sub)
  (if k = out.length then out++[(tabN f.length fun _=>false,sub)] else out).modify k fun e=>(primeSet e.1 mk x,e.2)
 else out
def elsN (f:List Bool) (mk m:Nat):List (List Bool × List Bool):=(List.range m).foldl (elStep f mk) []
theorem elsN_succ (f:List Bool) (mk m:Nat):elsN f mk (m+1) = elStep f mk (elsN f mk m) m:=by
 unfold elsN;rw [List.range_succ,List.foldl_append];rfl
theorem sub_of {l:List Int} (hs:l.Pairwise (· < ·)) (hr:∀ v∈l,1≤v∧v≤128) (i:Nat):∃ m:VSet,SubNo l i m∧∀ v,asg m v = asgI l i v:=by
 let m:VSet:=ofS (((List.range l.length).filter fun k=>i.testBit (l.length - 1 - k)).map fun k=>l.getD k 0)
 have hm:∀ u,hasS m u = true↔∃ k,∃ hk:k < l.length,l[k] = u∧i.testBit (l.length - 1 - k) = true:=fun u=>by
  rw [hasS_ofS]
  constructor
  ·rintro ⟨_,hu⟩
   rw [List.mem_map] at hu
   obtain ⟨k,hk,rfl⟩:=hu
   rw [List.mem_filter] at hk
   have hkl:=List.mem_range.1 hk.1
   exact ⟨k,hkl,by rw [List.getD_eq_getElem?_getD,List.getElem?_eq_getElem hkl];rfl,hk.2⟩
  ·rintro ⟨k,hk,rfl,hb⟩
   exact ⟨hr _ (List.getElem_mem hk),List.mem_map.2 ⟨k,List.mem_filter.2 ⟨List.mem_range.2 hk,hb⟩,by rw [List.getD_eq_getElem?_getD,List.getElem?_eq_getElem hk];rfl⟩⟩
 refine ⟨m,hm,fun v=>?_⟩
 rw [Bool.eq_iff_iff,asg,hm]
 by_cases hv:v∈l
 ·obtain ⟨k,hk,rfl⟩:=List.getElem_of_mem hv
  rw [asgI_at hs hk]
  constructor
  ·rintro ⟨k',hk',e,hb⟩
   rw [←sorted_inj hs hk' hk e];exact hb
  ·intro hb;exact ⟨k,hk,rfl,hb⟩
 ·rw [asgI_out hv]
  constructor
  ·rintro ⟨k,hk,rfl,_⟩;exact (hv (List.getElem_mem hk)).elim
  ·intro h;cases h
structure LowNo (l:List Int) (mk:Nat) (ns:List SNode) (p:Nat × Nat) (i:Nat):Prop where
 lt:i < 2 ^ l.length
 sub:i &&& mk = i
 no:SubNo l i (leOf ns p.1)
 sat:sem ns p.1 (asgI l i) = true
 least:∀ j,j < i→sem ns p.1 (asgI l j) = false
theorem lowNo {l:List Int} (hs:l.Pairwise (· < ·)) (hr:∀ v∈l,1≤v∧v≤128) {S:Int→Prop} {mk:Nat} (hm:Mask l S mk) (hS:∀ v,S v→v∈l) {ns:List SNode} {p:Nat × Nat} (hmin:Min ns p.1) (hd:Dep S (sem ns p.1)):∃ i,LowNo l mk ns p i:=by
 have hin:∀ u,hasS (leOf ns p.1) u = true→S u:=fun u hu=>hmin.le_in hd hu
 obtain ⟨i,hi,hno,hl⟩:=least_first hs (φ:=sem ns p.1) (m:=leOf ns p.1) hmin.le (fun u hu=>hS u (hin u hu))
 have hasg:∀ v,asg (leOf ns p.1) v = asgI l i v:=fun v=>by
  obtain ⟨m',h1,h2⟩:=sub_of hs hr i
  rw [hno.uniq h1];exact h2 v
 refine ⟨i,hi,?_,hno,by rw [←funext hasg];exact hmin.sat,fun j hj=>?_⟩
 ·refine num_ext (Nat.lt_of_le_of_lt Nat.and_le_left hi) hi fun k hk=>?_
  rw [Nat.testBit_and]
  cases hb:i.testBit (l.length - 1 - k)
  ·rfl
  ·rw [Bool.true_and]
   exact (hm.bit k hk).2 (hin _ ((hno _).2 ⟨k,hk,rfl,hb⟩))
 ·obtain ⟨m',h1,h2⟩:=sub_of hs hr j
  rw [←funext h2];exact hl j m' hj h1
theorem LowNo.mono {l:List Int} (hs:l.Pairwise (· < ·)) {mk:Nat} {ns:List SNode} {p q:Nat × Nat} {i j:Nat} (h:LowNo l mk ns p i) (g:LowNo l mk ns q j) (hlt:lessP ns p q = true):i < j:=by
 unfold lessP at hlt
 rcases Nat.lt_trichotomy i j with h1 | h1 | h1
 ·exact h1
 ·subst h1
  rw [h.no.uniq g.no,lessS_irrefl] at hlt;cases hlt
 ·have:=g.no.less hs h.no h1 h.lt
  rw [lessS_asymm hlt] at this;cases this
end Go.Proofs.YtemnmcfmabamcaaGreatDoor.L
namespace Go.Proofs.YtemnmcfmabamcaaGreatDoor.L
def primeT (l:List Int) (mk m:Nat) (ns:List SNode) (p:Nat × Nat):List Bool:=tabN (2 ^ l.length) fun i=>decide (i &&& mk < m) && sem ns p.1 (asgI l i)
def outT (l:List Int) (mk m:Nat) (ns:List SNode) (p:Nat × Nat):List Bool × List Bool:=(primeT l mk m ns p,tabO l (sem ns p.2))
theorem primeSet_eq {l:List Int} {mk m:Nat} {ns:List SNode} {p:Nat × Nat} (h1:∀ i,i < 2 ^ l.length→i &&& mk = m→sem ns p.1 (asgI l i) = true):primeSet (primeT l mk m ns p) mk m = primeT l mk (m+1) ns p:=by
 unfold primeSet
 rw [primeT,tabN_len]
 refine tabN_congr fun i hi=>?_
 rw [tabN_getD hi]
 by_cases e:i &&& mk = m
 ·rw [h1 i hi e,decide_eq_true e,decide_eq_true (show i &&& mk < m+1 by omega)];simp
 ·rw [decide_eq_false e,Bool.or_false]
  congr 1
  rw [Bool.eq_iff_iff,decide_eq_true_iff,decide_eq_true_iff];omega
theorem primeT_same {l:List Int} {mk m:Nat} {ns:List SNode} {p:Nat × Nat} (h1:∀ i,i < 2 ^ l.length→i &&& mk = m→sem ns p.1 (asgI l i) = false):primeT l mk m ns p = primeT l mk (m+1) ns p:=by
 refine tabN_congr fun i hi=>?_
 by_cases e:i &&& mk = m
 ·rw [h1 i hi e];simp
 ·congr 1
  rw [Bool.eq_iff_iff,decide_eq_true_iff,decide_eq_true_iff];omega
theorem primeT_new {l:List Int} {mk m:Nat} {ns:List SNode} {p:Nat × Nat} (h1:∀ i,i < 2 ^ l.length→i &&& mk = m→sem ns p.1 (asgI l i) = true) (h2:∀ i,i < 2 ^ l.length→i &&& mk < m→sem ns p.1 (asgI l i) = false) :
  primeSet (tabN (2 ^ l.length) fun _=>false) mk m = primeT l mk (m+1) ns p:=by
 unfold primeSet
 rw [tabN_len]
 refine tabN_congr fun i hi=>?_
 rw [tabN_getD hi,Bool.false_or]
 rcases Nat.lt_trichotomy (i &&& mk) m with e | e | e
 ·rw [h2 i hi e,decide_eq_false (show ¬ i &&& mk = m by omega)];simp
 ·rw [h1 i hi e,decide_eq_true e,decide_eq_true (show i &&& mk < m+1 by omega)];rfl
 ·rw [decide_eq_false (show ¬ i &&& mk = m by omega),decide_eq_false (show ¬ i &&& mk < m+1 by omega)];rfl
theorem findIdx_at {α:Type} {p:α→Bool} {l:List α} {k:Nat} (hk:k < l.length) (h:p l[k] = true) (hn:∀ j (hj:j < k),p (l[j]'(by omega)) = false):l.findIdx p = k:=by
 rw [List.findIdx_eq hk]
 exact ⟨h,fun j hj=>by rw [hn j hj]⟩
theorem findIdx_none {α:Type} {p:α→Bool} {l:List α} (hn:∀ j (hj:j < l.length),p l[j] = false):l.findIdx p = l.length :=
 List.findIdx_eq_length.2 fun x hx=>by
  obtain ⟨j,hj,rfl⟩:=List.getElem_of_mem hx
  exact hn j hj
structure ElFit (t:List VN) (l:List Int) (ns:List SNode) (L R mk:Nat) (el:List (Nat × Nat)) (f:List Bool) (lw:Nat→Nat):Prop where
 sorted:l.Pairwise (· < ·)
 mask:Mask l (Bel t L) mk
 inl:∀ v,Bel t L v→v∈l
 inr:∀ v,Bel t R v→v∈l
 apart:∀ v,Bel t L v→Bel t R v→False
 parts:Parts t ns L R el
 tab:IsTab l (fun x=>el.any fun q=>sem ns q.1 x && sem ns q.2 x) f
 low:∀ q (hq:q < el.length),LowNo l mk ns el[q] (lw q)
 up:∀ q q',q < q'→q' < el.length→lw q < lw q'
 sub:∀ q (hq:q < el.length) q' (hq':q' < el.length),tabO l (sem ns el[q].2) = tabO l (sem ns el[q'].2)→q = q'
theorem ElFit.same {t:List VN} {l:List Int} {ns:List SNode} {L R mk:Nat} {el:List (Nat × Nat)} {f:List Bool} {lw:Nat→Nat} (h:ElFit t l ns L R mk el f lw) {i m:Nat} (hi:i < 2 ^ l.length) (hm:m < 2 ^ l.length) (hs:m &&& mk = m) (e:i &&& mk = m) {p:Nat × Nat} (hp:p∈el) :
  sem ns p.1 (asgI l i) = sem ns p.1 (asgI l m) :=
 h.parts.pdep p hp _ _ fun v hv=>(h.mask.eq hi hm hs h.sorted).1 e v (h.inl v hv) hv
theorem ElFit.one {t:List VN} {l:List Int} {ns:List SNode} {L R mk:Nat} {el:List (Nat × Nat)} {f:List Bool} {lw:Nat→Nat} (h:ElFit t l ns L R mk el f lw) {q q':Nat} (hq:q < el.length) (hq':q' < el.length) {x:Asg} (h1:sem ns el[q].1 x = true) (h2:sem ns el[q'].1 x = true):q = q':=by
 rcases Nat.lt_trichotomy q q' with hh | hh | hh
 ·exact ((List.pairwise_iff_getElem.1 h.parts.disj) q q' hq hq' hh x ⟨h1,h2⟩).elim
 ·exact hh
 ·exact ((List.pairwise_iff_getElem.1 h.parts.disj) q' q hq' hq hh x ⟨h2,h1⟩).elim
theorem ElFit.subEq {t:List VN} {l:List Int} {ns:List SNode} {L R mk:Nat} {el:List (Nat × Nat)} {f:List Bool} {lw:Nat→Nat} (h:ElFit t l ns L R mk el f lw) {m:Nat} (hm:m < 2 ^ l.length) (hs:m &&& mk = m) {q:Nat} (hq:q < el.length) (hx:sem ns el[q].1 (asgI l m) = true) :
  subTab f mk m = tabO l (sem ns el[q].2):=by
 unfold subTab
 rw [h.tab.len]
 refine tabN_congr fun i hi=>?_
 obtain ⟨g1,g2⟩:=split_bits hi hm hs
 rw [h.tab.get h.sorted g1]
 have hin:∀ v,Bel t L v→asgI l (i - (i &&& mk)+m) v = asgI l m v:=fun v hv=>by
  obtain ⟨k,hk,rfl⟩:=List.getElem_of_mem (h.inl v hv)
  rw [asgI_at h.sorted hk,asgI_at h.sorted hk,g2,if_pos ((h.mask.bit k hk).2 hv)]
 have hout:∀ v,Bel t R v→asgI l (i - (i &&& mk)+m) v = asgI l i v:=fun v hv=>by
  obtain ⟨k,hk,rfl⟩:=List.getElem_of_mem (h.inr v hv)
  rw [asgI_at h.sorted hk,asgI_at h.sorted hk,g2,if_neg (fun hb=>h.apart _ ((h.mask.bit k hk).1 hb) hv)]
 have hmem:=List.getElem_mem hq
 rw [h.parts.at hmem (by rw [h.parts.pdep _ hmem _ _ hin];exact hx)]
 exact h.parts.sdep _ hmem _ _ hout
theorem els_inv {t:List VN} {l:List Int} {ns:List SNode} {L R mk:Nat} {el:List (Nat × Nat)} {f:List Bool} {lw:Nat→Nat} (h:ElFit t l ns L R mk el f lw):∀ m,m≤2 ^ l.length →
  ∃ j,j≤el.length∧elsN f mk m = (el.take j).map (outT l mk m ns)∧∀ q,q < el.length→(q < j↔lw q < m)
 | 0,_=>⟨0,by omega,by simp [elsN],fun q _=>by omega⟩
 | m+1,hm1=>by
   obtain ⟨j,hj,he,hlw⟩:=els_inv h m (by omega)
   have hm:m < 2 ^ l.length:=by omega
   rw [elsN_succ,he]
   have hidem:∀ i,(i &&& mk) &&& mk = i &&& mk:=fun i=>by rw [Nat.and_assoc,Nat.and_self]
   by_cases hs:m &&& mk = m
   ·-- the element whose prime holds there
    obtain ⟨p,hp,hx⟩:=h.parts.cover (asgI l m)
    obtain ⟨q,hq,rfl⟩:=List.getElem_of_mem hp
    have hsub:=h.subEq hm hs hq hx
    have hle:lw q≤m:=by
     apply Classical.byContradiction
     intro hn
     have:=(h.low q hq).least m (by omega)
     rw [hx] at this;cases this
    have hst:∀ i,i < 2 ^ l.length→i &&& mk = m→sem ns el[q].1 (asgI l i) = true:=fun i hi e=>by rw [h.same hi hm hs e (List.getElem_mem hq)];exact hx
    have hno:∀ q' (hq':q' < el.length),q'≠q→∀ i,i < 2 ^ l.length→i &&& mk = m→sem ns el[q'].1 (asgI l i) = false:=fun q' hq' hne i hi e=>by
     cases hb:sem ns el[q'].1 (asgI l i)
     ·rfl
     ·exact (hne (h.one hq' hq hb (hst i hi e))).elim
    unfold elStep
    rw [if_pos hs,hsub]
    simp only [List.length_map,List.length_take,Nat.min_eq_left hj]
    by_cases hqj:q < j
    ·have hfi:((el.take j).map (outT l mk m ns)).findIdx (fun e=>decide (e.2 = tabO l (sem ns el[q].2))) = q:=by
      refine findIdx_at (by simp;omega) (by simp [outT]) fun k hk=>?_
      simp only [List.getElem_map,List.getElem_take,outT,decide_eq_false_iff_not]
      intro e
      have:=h.sub k (by omega) q hq e
      omega
     rw [hfi,if_neg (by omega)]
     refine ⟨j,hj,?_,fun q' hq'=>?_⟩
     ·refine List.ext_getElem? fun k=>?_
      rw [List.getElem?_modify,List.getElem?_map,List.getElem?_map,List.getElem?_take]
      by_cases hk:k < j
      ·rw [if_pos hk,List.getElem?_eq_getElem (by omega)]
       simp only [Option.map_eq_map,Option.map_some,Option.some.injEq]
       by_cases hkq:q = k
       ·subst hkq
        rw [if_pos rfl]
        simp only [outT,Prod.mk.injEq,and_true]
        exact primeSet_eq hst
       ·rw [if_neg hkq]
        simp only [outT,id,Prod.mk.injEq,and_true]
        exact primeT_same (hno k (by omega) (fun e=>hkq e.symm))
      ·rw [if_neg hk];rfl
     ·rw [hlw q' hq']
      constructor
      ·omega
      ·intro hl
       apply Classical.byContradiction
       intro hn
       have e:lw q' = m:=by omega
       have hsat:=(h.low q' hq').sat
       rw [e] at hsat
       have:=h.one hq' hq hsat hx
       subst this
       have:=(hlw _ hq').1 hqj
       omega
    ·have hqm:lw q = m:=by have:=(not_congr (hlw q hq)).1 hqj;omega
     obtain rfl:q = j:=by
      rcases Nat.lt_or_ge j q with hh | hh
      ·have:=h.up j q hh hq
       have:=(hlw j (by omega)).2 (by omega)
       omega
      ·omega
     have hfi:((el.take q).map (outT l mk m ns)).findIdx (fun e=>decide (e.2 = tabO l (sem ns el[q].2))) = q:=by
      have:=findIdx_none (l:=(el.take q).map (outT l mk m ns)) (p:=fun e=>decide (e.2 = tabO l (sem ns el[q].2))) fun k hk=>by
       simp only [List.length_map,List.length_take] at hk
       simp only [List.getElem_map,List.getElem_take,outT,decide_eq_false_iff_not]
       intro e
       have:=h.sub k (by omega) q hq e
       omega
      rw [this];simp;omega
     rw [hfi,if_pos rfl]
     refine ⟨q+1,hq,?_,fun q' hq'=>?_⟩
     ·refine List.ext_getElem? fun k=>?_
      rw [List.getElem?_modify,List.getElem?_map,List.getElem?_take]
      rcases Nat.lt_trichotomy k q with hk | hk | hk
      ·rw [if_pos (by omega),List.getElem?_append_left (by simp;omega),List.getElem?_map,List.getElem?_take,if_pos hk,List.getElem?_eq_getElem (by omega)]
       simp only [Option.map_eq_map,Option.map_some,Option.some.injEq]
       rw [if_neg (by omega)]
       simp only [outT,id,Prod.mk.injEq,and_true]
       exact primeT_same (hno k (by omega) (by omega))
      ·subst hk
       rw [if_pos (by omega),List.getElem?_append_right (by simp;omega),List.getElem?_eq_getElem hq]
       simp only [if_true,List.length_map,List.length_take,Nat.min_eq_left hj,Nat.sub_self,List.getElem?_cons_zero,Option.map_eq_map,Option.map_some,Option.some.injEq,h.tab.len]
       simp only [outT,Prod.mk.injEq,and_true]
       refine primeT_new hst fun i hi hlt=>?_
       have hil:i &&& mk < 2 ^ l.length:=by omega
       rw [h.same hi hil (hidem i) rfl (List.getElem_mem hq)]
       exact (h.low k hq).least _ (by omega)
      ·rw [if_neg (by omega),List.getElem?_eq_none (by simp;omega)];rfl
     ·constructor
      ·intro hl
       rcases Nat.lt_or_ge q' q with hh | hh
       ·have:=(hlw q' hq').1 hh;omega
       ·obtain rfl:q' = q:=by omega
        omega
      ·intro hl
       apply Classical.byContradiction
       intro hn
       have:=h.up q q' (by omega) hq'
       omega
   ·unfold elStep
    rw [if_neg hs]
    refine ⟨j,hj,?_,fun q hq=>?_⟩
    ·refine List.map_congr_left fun p _=>?_
     simp only [outT,Prod.mk.injEq,and_true]
     refine tabN_congr fun i hi=>?_
     congr 1
     rw [Bool.eq_iff_iff,decide_eq_true_iff,decide_eq_true_iff]
     have:i &&& mk≠m:=fun e=>hs (by rw [←e];exact hidem i)
     omega
    ·rw [hlw q hq]
     have:lw q≠m:=fun e=>hs (by rw [←e];exact (h.low q hq).sub)
     omega
theorem els_law {t:List VN} {l:List Int} {ns:List SNode} {L R mk:Nat} {el:List (Nat × Nat)} {f:List Bool} {lw:Nat→Nat} (h:ElFit t l ns L R mk el f lw):elsN f mk (2 ^ l.length) = el.map fun p=>(tabO l (sem ns p.1),tabO l (sem ns p.2)):=by
 obtain ⟨j,hj,he,hlw⟩:=els_inv h _ (Nat.le_refl _)
 have:j = el.length:=by
  apply Classical.byContradiction
  intro hn
  have:=(hlw j (by omega)).2 (h.low j (by omega)).lt
  omega
 subst this
 rw [he,List.take_length]
 refine List.map_congr_left fun p _=>?_
 simp only [outT,Prod.mk.injEq,and_true]
 refine tabN_congr fun i hi=>?_
 rw [decide_eq_true (Nat.lt_of_le_of_lt Nat.and_le_left hi),Bool.true_and]
theorem Inv.elFit {s:St} (h:Inv s) {l:List Int} (hl:SortedBel s.tree (s.tree.length - 1) l) {a:Nat} {n:SNode} (hn:s.nodes[a]? = some n) (hk:DecOK s.tree s.nodes a n) {f:List Bool} (hf:IsTab l (sem s.nodes a) f) :
  ∃ (P:Nat) (y:VN) (L R:Nat),n.pl = P∧s.tree[P]? = some y∧leafB y = false∧y.left = L∧y.right = R∧∀ mk,Mask l (Bel s.tree L) mk→∃ lw,ElFit s.tree l s.nodes L R mk n.el f lw:=by
 obtain ⟨P,y,L,R,hP,hy,hlf,eL,eR,hp,hdis,_,_,_⟩:=dec_facts h (fun i j _ _ hi hj e=>h.canon hi hj e) (k:=a) (Nat.le_refl _) hn hk
 have hu:P < s.tree.length:=(List.getElem?_eq_some_iff.1 hy).1
 obtain ⟨uL,uR⟩:=Und.kid h.tree hy hlf eL eR
 have hroot:=Und.root h.tree s.tree.length P hu (by omega)
 have hap:∀ v,Bel s.tree L v→Bel s.tree R v→False:=fun v a b=>Bel.apart h.tree hy hlf eL eR a b
 have inL:∀ v,Bel s.tree L v→v∈l:=fun v hv=>(hl.mem v).2 (hv.up (hroot.trans uL))
 have inR:∀ v,Bel s.tree R v→v∈l:=fun v hv=>(hl.mem v).2 (hv.up (hroot.trans uR))
 have hrange:∀ v∈l,1≤v∧v≤128:=fun v hv=>((hl.mem v).1 hv).range
 have hsem:sem s.nodes a = fun x=>n.el.any fun p=>sem s.nodes p.1 x && sem s.nodes p.2 x:=funext fun x=>h.semDec hn hk x
 have ha:=(List.getElem?_eq_some_iff.1 hn).1
 refine ⟨P,y,L,R,hP,hy,hlf,eL,eR,fun mk hm=>?_⟩
 have hlow:∀ q (hq:q < n.el.length),∃ i,LowNo l mk s.nodes n.el[q] i:=fun q hq=>by
  have hmem:=List.getElem_mem hq
  have hkid:=hk.kids _ hmem
  refine lowNo hl.sorted hrange hm inL (h.min _ ?_ (by omega)) (hp.pdep _ hmem)
  apply Classical.byContradiction
  intro hn0
  obtain ⟨x,hx⟩:=hp.pne _ hmem
  rw [show n.el[q].1 = 0 by omega,h.sem0] at hx;cases hx
 have hlow':∀ q,∃ i,∀ (hq:q < n.el.length),LowNo l mk s.nodes n.el[q] i:=fun q=>by
  by_cases hq:q < n.el.length
  ·obtain ⟨i,hi⟩:=hlow q hq;exact ⟨i,fun _=>hi⟩
  ·exact ⟨0,fun h=>(hq h).elim⟩
 let lw:Nat→Nat:=fun q=>Classical.choose (hlow' q)
 have hlw:∀ q (hq:q < n.el.length),LowNo l mk s.nodes n.el[q] (lw q):=fun q hq=>Classical.choose_spec (hlow' q) hq
 refine ⟨lw,⟨hl.sorted,hm,inL,inR,hap,hp,⟨hf.len,fun x=>by rw [hf.says,hsem]⟩,hlw,fun q q' hqq hq'=>?_,fun q hq q' hq' e=>?_⟩⟩
 ·exact (hlw q (by omega)).mono hl.sorted (hlw q' hq') ((List.pairwise_iff_getElem.1 hk.sorted) q q' (by omega) hq' hqq)
 ·have e':=tabO_inj hl.sorted ((hp.sdep _ (List.getElem_mem hq)).mono inR) ((hp.sdep _ (List.getElem_mem hq')).mono inR) e
  rcases Nat.lt_trichotomy q q' with hh | hh | hh
  ·refine ((List.pairwise_iff_getElem.1 hp.nd) q q' hq hq' hh ?_).elim
   have h1:=hk.kids _ (List.getElem_mem hq)
   have h2:=hk.kids _ (List.getElem_mem hq')
   exact h.canon (by omega) (by omega) e'
  ·exact hh
  ·refine ((List.pairwise_iff_getElem.1 hp.nd) q' q hq' hq hh ?_).elim
   have h1:=hk.kids _ (List.getElem_mem hq)
   have h2:=hk.kids _ (List.getElem_mem hq')
   exact h.canon (by omega) (by omega) e'.symm
end Go.Proofs.YtemnmcfmabamcaaGreatDoor.L
namespace Go.Proofs.YtemnmcfmabamcaaGreatDoor.L
theorem Inv.tab_eq {s:St} (h:Inv s) {l:List Int} (hl:SortedBel s.tree (s.tree.length - 1) l) {a b:Nat} (ha:a < s.nodes.length) (hb:b < s.nodes.length):tabO l (sem s.nodes a) = tabO l (sem s.nodes b)↔a = b :=
 ⟨fun e=>h.canon ha hb (tabO_inj hl.sorted (h.tabDep hl ha) (h.tabDep hl hb) e),fun e=>by rw [e]⟩
end Go.Proofs.YtemnmcfmabamcaaGreatDoor.L
