import Derived.Test.YtemnmcfmabamcaaGreatDoorYTab2
import Derived.Test.YtemnmcfmabamcaaGreatDoorYLaw5
set_option linter.unusedSimpArgs false
set_option linter.unusedVariables false
set_option maxRecDepth 100000
namespace Go.Proofs.YtemnmcfmabamcaaGreatDoor.L
def asgI(l:List Int)(i:Nat):Asg:=fun v=>(List.range l.length).any fun k=>decide (l.getD k 0=v) && i.testBit (l.length - 1 - k)
theorem ZgM{l:List Int}{i:Nat}{v:Int}(h:v∉l):asgI l i v=false:=by
 unfold asgI;rw[List.any_eq_false];intro k hk hc;have dq:=List.mem_range.1 hk;simp only[ZrK,ZrN,ZrG,Zry dq,Option.getD_some]at hc;exact h (hc.1 ▸ ZrM dq)
theorem ZbA{l:List Int}(hs:l.Pairwise (· < ·)){i k:Nat}(hk:k<l.length):asgI l i l[k]=i.testBit (l.length - 1 - k):=by
 rw[Bool.eq_iff_iff];unfold asgI;rw[List.any_eq_true]
 constructor
 ·rintro⟨k',eF,hc⟩
  have dq:=List.mem_range.1 eF;simp only[ZrK,ZrN,ZrG,Zry dq,Option.getD_some]at hc;rw[←Zdx hs dq hk hc.1];exact hc.2
 ·intro hb
  exact⟨k,List.mem_range.2 hk,by simp[ZrG,Zry hk,hb]⟩
theorem ZfI{n i j:Nat}(hi:i<2 ^ n)(hj:j<2 ^ n)(h:∀k,k<n→i.testBit (n - 1 - k)=j.testBit (n - 1 - k)):i=j:=by
 apply Nat.eq_of_testBit_eq
 intro b
 by_cases hb:b<n
 ·have:=h (n - 1 - b) (by omega)
  rwa [show n - 1 - (n - 1 - b)=b by omega]at this
 ·rw[Nat.testBit_lt_two_pow (ZrD hi (Nat.pow_le_pow_right (by omega) (by omega))),Nat.testBit_lt_two_pow (ZrD hj (Nat.pow_le_pow_right (by omega) (by omega)))]
theorem idxF_asgI{l:List Int}(hs:l.Pairwise (· < ·)){i:Nat}(hi:i<2 ^ l.length):ZeK l (asgI l i)=i :=
 ZfI (ZcE l _) hi fun k hk=>by rw[ZbF l _ hk,ZbA hs hk]
theorem ZnE{l:List Int}(hs:l.Pairwise (· < ·))(x:Asg){v:Int}(hv:v∈l):asgI l (ZeK l x) v=x v:=by
 obtain⟨k,hk,rfl⟩:=List.getElem_of_mem hv;rw[ZbA hs hk,ZbF l x hk]
theorem Zkz{l:List Int}{x y:Asg}(h:∀v∈l,x v=y v):ZeK l x=ZeK l y :=
 ZfI (ZcE l _) (ZcE l _) fun k hk=>by rw[ZbF l x hk,ZbF l y hk,h _ (ZrM hk)]
theorem _root_.Go.Proofs.YtemnmcfmabamcaaGreatDoor.IsTab.get{l:List Int}(hs:l.Pairwise (· < ·)){φ:Asg→Bool}{f:List Bool}(h:IsTab l φ f){i:Nat}(hi:i<2 ^ l.length):f.getD i false=φ (asgI l i):=by
 have:=h.says (asgI l i)
 rwa [idxF_asgI hs hi]at this
def tabO(l:List Int)(φ:Asg→Bool):List Bool:=ZcV (2 ^ l.length) fun i=>φ (asgI l i)
theorem tabO_is{l:List Int}(hs:l.Pairwise (· < ·)){φ:Asg→Bool}(hd:Dep (fun v=>v∈l) φ):IsTab l φ (tabO l φ) :=
 ⟨Za0 _ _,fun x=>by rw[tabO,ZfY (ZcE l x)];exact hd _ _ fun v hv=>ZnE hs x hv⟩
theorem Zj5{l:List Int}(hs:l.Pairwise (· < ·)){φ ψ:Asg→Bool}(hd:Dep (fun v=>v∈l) φ)(iL:Dep (fun v=>v∈l) ψ)(h:tabO l φ=tabO l ψ):φ=ψ:=funext fun x=>by
 rw[←(tabO_is hs hd).says x,←(tabO_is hs iL).says x,h]
def Hangs(φ:Asg→Bool)(v:Int):Prop:=Ess (fun u=>u=v) φ
theorem Hangs.dep{φ:Asg→Bool}{v:Int}(h:Hangs φ v){S:Int→Prop}(hd:Dep S φ):S v:=by
 obtain⟨u,rfl,hu⟩:=Ess.meets h hd;exact hu
theorem ZhP{S:Int→Prop}{φ:Asg→Bool}{l:List Int}(hd:Dep (fun v=>v∈l) φ)(h:Ess S φ):∃v∈l,S v∧Hangs φ v:=by
 obtain⟨x,y,gW,aJ⟩:=h
 have key:∀m:List Int,∀z:Asg,(∀v,v∉m→z v=y v)→(∀v,¬ S v→z v=y v)→φ z≠φ y→∃v∈m,S v∧Hangs φ v:=by
  intro m
  induction m with
  | nil=>intro z h1 _ h3;exact(h3 (congrArg φ (funext fun v=>h1 v (by simp)))).elim
  | cons a m ih =>
    intro z h1 h2 h3
    by_cases hz:z a=y a
    ·obtain⟨v,hv,hh⟩:=ih z (fun v hv=>if e:v=a then e ▸ hz else h1 v (by simp[e,hv])) h2 h3
     exact⟨v,ZrA _ hv,hh⟩
    ·let z':Asg:=fun v=>if v=a then y a else z v
     have qG:∀v,v≠a→z' v=z v:=fun v hv=>if_neg hv
     have ha:z' a=y a:=if_pos rfl
     by_cases hc:φ z=φ z'
     ·obtain⟨v,hv,hh⟩:=ih z' (fun v hv=>if e:v=a then e ▸ ha else (qG v e).trans (h1 v (by simp[e,hv]))) (fun v hv=>if e:v=a then e ▸ ha else (qG v e).trans (h2 v hv)) (by rw[←hc];exact h3)
      exact⟨v,ZrA _ hv,hh⟩
     ·refine⟨a,ZrL ..,ZrO fun hn=>hz (h2 a hn),z,z',fun v hv=>(qG v hv).symm,hc⟩
 -- x with y's values off l
 let x':Asg:=fun v=>if v∈l then x v else y v
 have e:φ x'=φ x:=hd _ _ fun v hv=>if_pos hv
 exact key l x' (fun v hv=>if_neg hv) (fun v hv=>by
  show (if v∈l then x v else y v)=y v
  split
  ·exact gW v hv
  ·rfl) (by rw[e];exact aJ)
theorem Znp(n i k:Nat)(hk:k<n){j:Nat}(hj:j<n):(i ^^^ 2 ^ (n - 1 - k)).testBit (n - 1 - j)=(i.testBit (n - 1 - j) ^^ decide (j=k)):=by
 rw[Nat.testBit_xor,Nat.testBit_two_pow]
 congr 1
 rw[Bool.eq_iff_iff,decide_eq_true_iff,decide_eq_true_iff];omega
theorem xor_lt{n i k:Nat}(hk:k<n)(hi:i<2 ^ n):i ^^^ 2 ^ (n - 1 - k)<2 ^ n :=
 Nat.xor_lt_two_pow hi (Nat.pow_lt_pow_right (by omega) (by omega))
def depB(n k:Nat)(f:List Bool):Bool:=(List.range f.length).any fun i=>f.getD i false !=f.getD (i ^^^ 2 ^ (n - 1 - k)) false
theorem ZjF{l:List Int}(hs:l.Pairwise (· < ·)){φ:Asg→Bool}{f:List Bool}(h:IsTab l φ f){k:Nat}(hk:k<l.length):depB l.length k f=true↔Hangs φ l[k]:=by
 unfold depB;rw[List.any_eq_true]
 constructor
 ·rintro⟨i,hi,aJ⟩
  have pw:i<2 ^ l.length:=by have:=List.mem_range.1 hi;have:=h.len;omega
  rw[h.get hs pw,h.get hs (xor_lt hk pw)]at aJ;refine⟨asgI l i,asgI l (i ^^^ 2 ^ (l.length - 1 - k)),fun v hv=>?_,by simpa using aJ⟩
  by_cases j6:v∈l
  ·obtain⟨j,hj,rfl⟩:=List.getElem_of_mem j6
   rw[ZbA hs hj,ZbA hs hj,Znp _ _ _ hk hj,ZrH (fun e=>hv (by subst e;rfl)),Bool.xor_false]
  ·rw[ZgM j6,ZgM j6]
 ·rintro⟨x,y,gW,aJ⟩
  have jS:=ZcE l x
  have hyv:ZeK l y=ZeK l x ^^^ 2 ^ (l.length - 1 - k)∨ZeK l y=ZeK l x:=by
   by_cases eF:x l[k]=y l[k]
   ·exact .inr (Zkz fun v hv=>if e:v=l[k] then e ▸ eF.symm else (gW v e).symm)
   ·refine .inl (ZfI (ZcE l y) (xor_lt hk jS) fun j hj=>?_)
    rw[ZbF l y hj,Znp _ _ _ hk hj,ZbF l x hj]
    by_cases e:j=k
    ·subst e
     rw[ZrI rfl]
     cases hx:x l[j] <;> cases hy:y l[j] <;> simp_all
    ·rw[ZrH e,Bool.xor_false]
     exact(gW _ fun e'=>e (Zdx hs hj hk e')).symm
  have hx:=h.says x;have hy:=h.says y;rcases hyv with e|e
  ·refine⟨ZeK l x,List.mem_range.2 (by have:=h.len;omega),?_⟩
   rw[←e,hx,hy];simpa using aJ
  ·rw[e,hx]at hy;exact(aJ hy).elim
def depL(l:List Int)(f:List Bool):List Int:=((List.range l.length).filter fun k=>depB l.length k f).map fun k=>l.getD k 0
theorem depL_mem{l:List Int}(hs:l.Pairwise (· < ·)){φ:Asg→Bool}{f:List Bool}(h:IsTab l φ f)(hd:Dep (fun v=>v∈l) φ)(v:Int):v∈depL l f↔Hangs φ v:=by
 unfold depL;rw[List.mem_map]
 constructor
 ·rintro⟨k,hk,rfl⟩
  rw[List.mem_filter]at hk;have dq:=List.mem_range.1 hk.1;rw[ZrG,Zry dq];exact(ZjF hs h dq).1 hk.2
 ·intro hv
  have j6:=hv.dep hd;obtain⟨k,hk,rfl⟩:=List.getElem_of_mem j6;exact⟨k,List.mem_filter.2 ⟨List.mem_range.2 hk,(ZjF hs h hk).2 hv⟩,by rw[ZrG,Zry hk];rfl⟩
structure PlaceOf (t:List VN) (P:Nat) (φ:Asg→Bool):Prop where
 lt:P<t.length
 dep:Dep (Bel t P) φ
 ess:∃v,Hangs φ v
 kids:∀(y:VN) (l r:Nat),t[P]? =some y→Zai y=false→y.left=l→y.right=r→(∃v,Bel t l v∧Hangs φ v)∧∃v,Bel t r v∧Hangs φ v
theorem PlaceOf.toL{t:List VN}(hc:Zae t=0){P Q:Nat}{φ:Asg→Bool}(h:PlaceOf t P φ)(hq:Und t Q P){y:VN}{l r:Nat}(hy:t[Q]? =some y)(aI:Zai y=false)(hl:y.left=l)(hr:y.right=r) :
  (∀v,Hangs φ v→Bel t l v)↔Und t l P:=by
 have eT:∀v,Bel t l v→Bel t r v→False:=fun v a b=>Bel.apart hc hy aI hl hr a b
 constructor
 ·intro ha
  rcases hq.kids hc hy hl hr with rfl|h1|h1
  ·obtain⟨_,v,hv,hh⟩:=h.kids y l r hy aI hl hr
   exact(eT v (ha v hh) hv).elim
  ·exact h1
  ·obtain⟨v,hv⟩:=h.ess
   exact(eT v (ha v hv) ((hv.dep h.dep).up h1)).elim
 ·intro hu v hv
  exact(hv.dep h.dep).up hu
theorem PlaceOf.toR{t:List VN}(hc:Zae t=0){P Q:Nat}{φ:Asg→Bool}(h:PlaceOf t P φ)(hq:Und t Q P){y:VN}{l r:Nat}(hy:t[Q]? =some y)(aI:Zai y=false)(hl:y.left=l)(hr:y.right=r) :
  (∀v,Hangs φ v→Bel t r v)↔Und t r P:=by
 have eT:∀v,Bel t l v→Bel t r v→False:=fun v a b=>Bel.apart hc hy aI hl hr a b
 constructor
 ·intro ha
  rcases hq.kids hc hy hl hr with rfl|h1|h1
  ·obtain⟨⟨v,hv,hh⟩,_⟩:=h.kids y l r hy aI hl hr
   exact(eT v hv (ha v hh)).elim
  ·obtain⟨v,hv⟩:=h.ess
   exact(eT v ((hv.dep h.dep).up h1) (ha v hv)).elim
  ·exact h1
 ·intro hu v hv
  exact(hv.dep h.dep).up hu
theorem Inv.tabDep{s:St}(h:Inv s){l:List Int}(hl:SortedBel s.tree (s.tree.length - 1) l){a:Nat}(ha:a<s.nodes.length):Dep (fun v=>v∈l) (sem s.nodes a):=by
 rcases h.kind ha with rfl|rfl|⟨h2,n,hn,_⟩
 ·intro x y _;rw[h.sem0,h.sem0]
 ·intro x y _;rw[h.sem1,h.sem1]
 ·obtain⟨P,_,hP,hd⟩:=h.place h2 hn
  exact hd.mono fun v hv=>(hl.mem v).2 (hv.up (Und.root h.tree s.tree.length P hP (by omega)))
theorem Inv.placeOf{s:St}(h:Inv s){l:List Int}(hl:SortedBel s.tree (s.tree.length - 1) l){a:Nat}{n:Zac}(h2:2≤a)(hn:s.nodes[a]? =some n):∃P:Nat,n.pl=P∧PlaceOf s.tree P (sem s.nodes a):=by
 have ha:=(Zrw hn).1;have hd:=h.tabDep hl ha;rcases h.ok a n h2 hn with hk|hk
 ·obtain⟨u,y,e,hu,aI,hv⟩:=hk.leaf
  have eg:=h.semLit hn hk;refine⟨u,e,(Zrw hu).1,fun x z wt=>?_,⟨y.var,?_⟩,fun y' _ _ lL nJ _ _=>?_⟩
  ·rw[eg,eg,wt _ ((Bel.leaf h.tree hu aI _).2 hv.symm)]
  ·refine⟨fun v=>if v=y.var then true else false,fun _=>false,fun v nX=>if_neg nX,?_⟩
   rw[eg,eg];rw[if_pos hv.symm]
   cases decide (0<n.lit) <;> simp
  ·rw[hu]at lL;cases lL;rw[aI]at nJ;cases nJ
 ·obtain⟨P,y,l',r',hP,hy,aI,eK,rV,hp,jJ,e1,e2,uV⟩:=Zb1 h (fun i j _ _ hi hj e=>h.canon hi hj e) (k:=a) (ZrQ _) hn hk
  have hu:P<s.tree.length:=(Zrw hy).1;obtain⟨v1,_,b1,c1⟩:=ZhP hd e1;obtain⟨v2,_,b2,c2⟩:=ZhP hd e2;refine⟨P,hP,hu,uV,⟨v1,c1⟩,fun y' l'' r'' lL _ el er=>?_⟩;rw[hy]at lL;cases lL;obtain rfl:l''=l':=by omega
  obtain rfl:r''=r':=by omega
  exact⟨⟨v1,b1,c1⟩,v2,b2,c2⟩
theorem const_hangs{φ:Asg→Bool}{b:Bool}(h:∀x,φ x=b)(v:Int):¬ Hangs φ v:=by
 rintro⟨x,y,_,aJ⟩;rw[h,h]at aJ;exact aJ rfl
end Go.Proofs.YtemnmcfmabamcaaGreatDoor.L
namespace Go.Proofs.YtemnmcfmabamcaaGreatDoor.L
theorem split_bits{n i m x:Nat}(hi:i<2 ^ n)(hx:x<2 ^ n)(hm:x &&& m=x):i - (i &&& m)+x<2 ^ n∧∀j,(i - (i &&& m)+x).testBit j=if m.testBit j=true then x.testBit j else i.testBit j:=by
 induction n generalizing i m x with
 | zero =>
   have bz:i=0:=by simpa using hi
   have aW:x=0:=by simpa using hx
   subst bz;subst aW;simp
 | succ n ih =>
   have jx:i / 2<2 ^ n:=by rw[Nat.pow_succ]at hi;omega
   have aO:x / 2<2 ^ n:=by rw[Nat.pow_succ]at hx;omega
   have eY:(x / 2) &&& (m / 2)=x / 2:=by
    have:=congrArg (· / 2) hm;simpa [Nat.and_div_two] using this
   obtain⟨g1,g2⟩:=ih (m:=m / 2) jx aO eY;have yJ:(i &&& m) / 2=(i / 2) &&& (m / 2):=by rw[Nat.and_div_two]
   have h0:(i &&& m) % 2=(i % 2)*(m % 2):=by
    have e:=Nat.testBit_and i m 0;rw[Nat.testBit_zero,Nat.testBit_zero,Nat.testBit_zero]at e;have a1:i % 2=0∨i % 2=1:=by omega
    have a2:m % 2=0∨m % 2=1:=by omega
    have a3:(i &&& m) % 2=0∨(i &&& m) % 2=1:=by omega
    rcases a1 with a1|a1 <;> rcases a2 with a2|a2 <;> rcases a3 with a3|a3 <;> simp[a1,a2,a3]at e ⊢
   have aW:x % 2=(x % 2)*(m % 2):=by
    have e:=Nat.testBit_and x m 0;rw[hm,Nat.testBit_zero,Nat.testBit_zero]at e;have a1:x % 2=0∨x % 2=1:=by omega
    have a2:m % 2=0∨m % 2=1:=by omega
    rcases a1 with a1|a1 <;> rcases a2 with a2|a2 <;> simp[a1,a2]at e ⊢
   have fE:i &&& m≤i:=Nat.and_le_left;have ug:(i / 2) &&& (m / 2)≤i / 2:=Nat.and_le_left;generalize hA:i &&& m=A at *;generalize hB:(i / 2) &&& (m / 2)=B at *;have a1:i % 2=0∨i % 2=1:=by omega
   have a2:m % 2=0∨m % 2=1:=by omega
   have yk:(i - A+x) / 2=i / 2 - B+x / 2:=by
    rcases a1 with a1|a1 <;> rcases a2 with a2|a2 <;> simp[a1,a2]at h0 aW <;> omega
   have lj:(i - A+x) % 2=if m % 2=1 then x % 2 else i % 2:=by
    rcases a1 with a1|a1 <;> rcases a2 with a2|a2 <;> simp[a1,a2]at h0 aW ⊢ <;> omega
   refine⟨by rw[Nat.pow_succ];omega,fun j=>?_⟩
   cases j with
   | zero =>
     rw[Nat.testBit_zero,Nat.testBit_zero,Nat.testBit_zero,Nat.testBit_zero,lj]
     by_cases ie:m % 2=1 <;> simp[ie]
   | succ j =>
     rw[Nat.testBit_succ,Nat.testBit_succ,Nat.testBit_succ,Nat.testBit_succ,yk];exact g2 j
structure Mask (l:List Int) (S:Int→Prop) (mk:Nat):Prop where
 lt:mk<2 ^ l.length
 bit:∀k (hk:k<l.length),mk.testBit (l.length - 1 - k)=true↔S l[k]
theorem Mask.eq{l:List Int}{S:Int→Prop}{mk i x:Nat}(h:Mask l S mk)(hi:i<2 ^ l.length)(hx:x<2 ^ l.length)(hs:x &&& mk=x)(cW:l.Pairwise (· < ·)) :
  i &&& mk=x↔∀v∈l,S v→asgI l i v=asgI l x v:=by
 constructor
 ·rintro rfl v hv hS
  obtain⟨k,hk,rfl⟩:=List.getElem_of_mem hv;rw[ZbA cW hk,ZbA cW hk,Nat.testBit_and,(h.bit k hk).2 hS,Bool.and_true]
 ·intro hh
  refine ZfI (Nat.lt_of_le_of_lt Nat.and_le_left hi) hx fun k hk=>?_
  rw[Nat.testBit_and]
  cases hb:mk.testBit (l.length - 1 - k)
  ·rw[Bool.and_false]
   have:=congrArg (fun y=>y.testBit (l.length - 1 - k)) hs;simp only[Nat.testBit_and,hb,Bool.and_false]at this;exact this
  ·rw[Bool.and_true]
   have:=hh l[k] (ZrM hk) ((h.bit k hk).1 hb)
   rwa [ZbA cW hk,ZbA cW hk]at this
def subTab(f:List Bool)(mk x:Nat):List Bool:=ZcV f.length fun i=>f.getD (i - (i &&& mk)+x) false
def primeSet(p:List Bool)(mk x:Nat):List Bool:=ZcV p.length fun i=>p.getD i false || decide (i &&& mk=x)
def elStep(f:List Bool)(mk:Nat)(out:List (List Bool × List Bool))(x:Nat):List (List Bool × List Bool) :=
 if x &&& mk=x then
  let sub:=subTab f mk x
  let k:=out.findIdx fun e=>decide (e.2=sub)
  (if k=out.length then out++[(ZcV f.length fun _=>false,sub)] else out).modify k fun e=>(primeSet e.1 mk x,e.2)
 else out
def elsN(f:List Bool)(mk m:Nat):List (List Bool × List Bool):=(List.range m).foldl (elStep f mk) []
theorem elsN_succ(f:List Bool)(mk m:Nat):elsN f mk (m+1)=elStep f mk (elsN f mk m) m:=by
 unfold elsN;rw[List.range_succ,List.foldl_append];rfl
theorem ZoZ{l:List Int}(hs:l.Pairwise (· < ·))(hr:∀v∈l,1≤v∧v≤128)(i:Nat):∃m:Zax,Zej l i m∧∀v,asg m v=asgI l i v:=by
 let m:Zax:=ofS (((List.range l.length).filter fun k=>i.testBit (l.length - 1 - k)).map fun k=>l.getD k 0)
 have hm:∀u,ZaZ m u=true↔∃k,∃hk:k<l.length,l[k]=u∧i.testBit (l.length - 1 - k)=true:=fun u=>by
  rw[hasS_ofS]
  constructor
  ·rintro⟨_,hu⟩
   rw[List.mem_map]at hu;obtain⟨k,hk,rfl⟩:=hu;rw[List.mem_filter]at hk;have dq:=List.mem_range.1 hk.1;exact⟨k,dq,by rw[ZrG,Zry dq];rfl,hk.2⟩
  ·rintro⟨k,hk,rfl,hb⟩
   exact⟨hr _ (ZrM hk),List.mem_map.2 ⟨k,List.mem_filter.2 ⟨List.mem_range.2 hk,hb⟩,by rw[ZrG,Zry hk];rfl⟩⟩
 refine⟨m,hm,fun v=>?_⟩;rw[Bool.eq_iff_iff,asg,hm]
 by_cases hv:v∈l
 ·obtain⟨k,hk,rfl⟩:=List.getElem_of_mem hv
  rw[ZbA hs hk]
  constructor
  ·rintro⟨k',eF,e,hb⟩
   rw[←Zdx hs eF hk e];exact hb
  ·intro hb;exact⟨k,hk,rfl,hb⟩
 ·rw[ZgM hv]
  constructor
  ·rintro⟨k,hk,rfl,_⟩;exact(hv (ZrM hk)).elim
  ·intro h;cases h
structure Zhv (l:List Int) (mk:Nat) (ns:List Zac) (p:Nat × Nat) (i:Nat):Prop where
 lt:i<2 ^ l.length
 sub:i &&& mk=i
 no:Zej l i (ZaG ns p.1)
 sat:sem ns p.1 (asgI l i)=true
 least:∀j,j<i→sem ns p.1 (asgI l j)=false
theorem Zrd{l:List Int}(hs:l.Pairwise (· < ·))(hr:∀v∈l,1≤v∧v≤128){S:Int→Prop}{mk:Nat}(hm:Mask l S mk)(hS:∀v,S v→v∈l){ns:List Zac}{p:Nat × Nat}(dr:Min ns p.1)(hd:Dep S (sem ns p.1)):∃i,Zhv l mk ns p i:=by
 have bC:∀u,ZaZ (ZaG ns p.1) u=true→S u:=fun u hu=>dr.le_in hd hu
 obtain⟨i,hi,cz,hl⟩:=ZiL hs (φ:=sem ns p.1) (m:=ZaG ns p.1) dr.le (fun u hu=>hS u (bC u hu))
 have hasg:∀v,asg (ZaG ns p.1) v=asgI l i v:=fun v=>by
  obtain⟨m',h1,h2⟩:=ZoZ hs hr i;rw[cz.uniq h1];exact h2 v
 refine⟨i,hi,?_,cz,by rw[←funext hasg];exact dr.sat,fun j hj=>?_⟩
 ·refine ZfI (Nat.lt_of_le_of_lt Nat.and_le_left hi) hi fun k hk=>?_
  rw[Nat.testBit_and]
  cases hb:i.testBit (l.length - 1 - k)
  ·rfl
  ·rw[Bool.true_and]
   exact(hm.bit k hk).2 (bC _ ((cz _).2 ⟨k,hk,rfl,hb⟩))
 ·obtain⟨m',h1,h2⟩:=ZoZ hs hr j
  rw[←funext h2];exact hl j m' hj h1
theorem Zhv.mono{l:List Int}(hs:l.Pairwise (· < ·)){mk:Nat}{ns:List Zac}{p q:Nat × Nat}{i j:Nat}(h:Zhv l mk ns p i)(g:Zhv l mk ns q j)(aD:Za9 ns p q=true):i<j:=by
 unfold Za9 at aD;rcases Nat.lt_trichotomy i j with h1|h1|h1
 ·exact h1
 ·subst h1
  rw[h.no.uniq g.no,Zbe]at aD;cases aD
 ·have:=g.no.less hs h.no h1 h.lt
  rw[ZbC aD]at this;cases this
end Go.Proofs.YtemnmcfmabamcaaGreatDoor.L
namespace Go.Proofs.YtemnmcfmabamcaaGreatDoor.L
def ZfL (l:List Int)(mk m:Nat)(ns:List Zac)(p:Nat × Nat):List Bool:=ZcV (2 ^ l.length) fun i=>decide (i &&& mk<m) && sem ns p.1 (asgI l i)
def ZkQ (l:List Int)(mk m:Nat)(ns:List Zac)(p:Nat × Nat):List Bool × List Bool:=(ZfL l mk m ns p,tabO l (sem ns p.2))
theorem Zi0{l:List Int}{mk m:Nat}{ns:List Zac}{p:Nat × Nat}(h1:∀i,i<2 ^ l.length→i &&& mk=m→sem ns p.1 (asgI l i)=true):primeSet (ZfL l mk m ns p) mk m=ZfL l mk (m+1) ns p:=by
 unfold primeSet;rw[ZfL,Za0];refine Zbk fun i hi=>?_
 rw[ZfY hi]
 by_cases e:i &&& mk=m
 ·rw[h1 i hi e,ZrI e,ZrI (show i &&& mk<m+1 by omega)];simp
 ·rw[ZrH e,Bool.or_false]
  congr 1
  rw[Bool.eq_iff_iff,decide_eq_true_iff,decide_eq_true_iff];omega
theorem ZfM{l:List Int}{mk m:Nat}{ns:List Zac}{p:Nat × Nat}(h1:∀i,i<2 ^ l.length→i &&& mk=m→sem ns p.1 (asgI l i)=false):ZfL l mk m ns p=ZfL l mk (m+1) ns p:=by
 refine Zbk fun i hi=>?_
 by_cases e:i &&& mk=m
 ·rw[h1 i hi e];simp
 ·congr 1
  rw[Bool.eq_iff_iff,decide_eq_true_iff,decide_eq_true_iff];omega
theorem ZkV{l:List Int}{mk m:Nat}{ns:List Zac}{p:Nat × Nat}(h1:∀i,i<2 ^ l.length→i &&& mk=m→sem ns p.1 (asgI l i)=true)(h2:∀i,i<2 ^ l.length→i &&& mk<m→sem ns p.1 (asgI l i)=false) :
  primeSet (ZcV (2 ^ l.length) fun _=>false) mk m=ZfL l mk (m+1) ns p:=by
 unfold primeSet;rw[Za0];refine Zbk fun i hi=>?_
 rw[ZfY hi,Bool.false_or];rcases Nat.lt_trichotomy (i &&& mk) m with e|e|e
 ·rw[h2 i hi e,ZrH (show ¬ i &&& mk=m by omega)];simp
 ·rw[h1 i hi e,ZrI e,ZrI (show i &&& mk<m+1 by omega)];rfl
 ·rw[ZrH (show ¬ i &&& mk=m by omega),ZrH (show ¬ i &&& mk<m+1 by omega)];rfl
theorem findIdx_at{α:Type}{p:α→Bool}{l:List α}{k:Nat}(hk:k<l.length)(h:p l[k]=true)(hn:∀j (hj:j<k),p (l[j]'(by omega))=false):l.findIdx p=k:=by
 rw[List.findIdx_eq hk];exact⟨h,fun j hj=>by rw[hn j hj]⟩
theorem findIdx_none{α:Type}{p:α→Bool}{l:List α}(hn:∀j (hj:j<l.length),p l[j]=false):l.findIdx p=l.length :=
 List.findIdx_eq_length.2 fun x hx=>by
  obtain⟨j,hj,rfl⟩:=List.getElem_of_mem hx;exact hn j hj
structure ZgF (t:List VN) (l:List Int) (ns:List Zac) (L R mk:Nat) (el:List (Nat × Nat)) (f:List Bool) (lw:Nat→Nat):Prop where
 sorted:l.Pairwise (· < ·)
 mask:Mask l (Bel t L) mk
 inl:∀v,Bel t L v→v∈l
 inr:∀v,Bel t R v→v∈l
 apart:∀v,Bel t L v→Bel t R v→False
 parts:ZaA t ns L R el
 tab:IsTab l (fun x=>el.any fun q=>sem ns q.1 x && sem ns q.2 x) f
 low:∀q (hq:q<el.length),Zhv l mk ns el[q] (lw q)
 up:∀q q',q<q'→q'<el.length→lw q<lw q'
 sub:∀q (hq:q<el.length) q' (bG:q'<el.length),tabO l (sem ns el[q].2)=tabO l (sem ns el[q'].2)→q=q'
theorem ZgF.same{t:List VN}{l:List Int}{ns:List Zac}{L R mk:Nat}{el:List (Nat × Nat)}{f:List Bool}{lw:Nat→Nat}(h:ZgF t l ns L R mk el f lw){i m:Nat}(hi:i<2 ^ l.length)(hm:m<2 ^ l.length)(hs:m &&& mk=m)(e:i &&& mk=m){p:Nat × Nat}(hp:p∈el) :
  sem ns p.1 (asgI l i)=sem ns p.1 (asgI l m) :=
 h.parts.pdep p hp _ _ fun v hv=>(h.mask.eq hi hm hs h.sorted).1 e v (h.inl v hv) hv
theorem ZgF.one{t:List VN}{l:List Int}{ns:List Zac}{L R mk:Nat}{el:List (Nat × Nat)}{f:List Bool}{lw:Nat→Nat}(h:ZgF t l ns L R mk el f lw){q q':Nat}(hq:q<el.length)(bG:q'<el.length){x:Asg}(h1:sem ns el[q].1 x=true)(h2:sem ns el[q'].1 x=true):q=q':=by
 rcases Nat.lt_trichotomy q q' with hh|hh|hh
 ·exact((List.pairwise_iff_getElem.1 h.parts.disj) q q' hq bG hh x ⟨h1,h2⟩).elim
 ·exact hh
 ·exact((List.pairwise_iff_getElem.1 h.parts.disj) q' q bG hq hh x ⟨h2,h1⟩).elim
theorem ZgF.subEq{t:List VN}{l:List Int}{ns:List Zac}{L R mk:Nat}{el:List (Nat × Nat)}{f:List Bool}{lw:Nat→Nat}(h:ZgF t l ns L R mk el f lw){m:Nat}(hm:m<2 ^ l.length)(hs:m &&& mk=m){q:Nat}(hq:q<el.length)(hx:sem ns el[q].1 (asgI l m)=true) :
  subTab f mk m=tabO l (sem ns el[q].2):=by
 unfold subTab;rw[h.tab.len];refine Zbk fun i hi=>?_
 obtain⟨g1,g2⟩:=split_bits hi hm hs;rw[h.tab.get h.sorted g1]
 have bC:∀v,Bel t L v→asgI l (i - (i &&& mk)+m) v=asgI l m v:=fun v hv=>by
  obtain⟨k,hk,rfl⟩:=List.getElem_of_mem (h.inl v hv);rw[ZbA h.sorted hk,ZbA h.sorted hk,g2,if_pos ((h.mask.bit k hk).2 hv)]
 have pE:∀v,Bel t R v→asgI l (i - (i &&& mk)+m) v=asgI l i v:=fun v hv=>by
  obtain⟨k,hk,rfl⟩:=List.getElem_of_mem (h.inr v hv);rw[ZbA h.sorted hk,ZbA h.sorted hk,g2,if_neg (fun hb=>h.apart _ ((h.mask.bit k hk).1 hb) hv)]
 have ag:=ZrM hq;rw[h.parts.at ag (by rw[h.parts.pdep _ ag _ _ bC];exact hx)];exact h.parts.sdep _ ag _ _ pE
theorem ZlM{t:List VN}{l:List Int}{ns:List Zac}{L R mk:Nat}{el:List (Nat × Nat)}{f:List Bool}{lw:Nat→Nat}(h:ZgF t l ns L R mk el f lw):∀m,m≤2 ^ l.length →
  ∃j,j≤el.length∧elsN f mk m=(el.take j).map (ZkQ l mk m ns)∧∀q,q<el.length→(q<j↔lw q<m)
 | 0,_=>⟨0,by omega,by simp[elsN],fun q _=>by omega⟩
 | m+1,ie=>by
   obtain⟨j,hj,he,lD⟩:=ZlM h m (by omega);have hm:m<2 ^ l.length:=by omega
   rw[elsN_succ,he];have sZ:∀i,(i &&& mk) &&& mk=i &&& mk:=fun i=>by rw[Nat.and_assoc,Nat.and_self]
   by_cases hs:m &&& mk=m
   ·-- the element whose prime sx there
    obtain⟨p,hp,hx⟩:=h.parts.cover (asgI l m);obtain⟨q,hq,rfl⟩:=List.getElem_of_mem hp;have fA:=h.subEq hm hs hq hx
    have fE:lw q≤m:=by
     apply ZrO
     intro hn;have:=(h.low q hq).least m (by omega);rw[hx]at this;cases this
    have aM:∀i,i<2 ^ l.length→i &&& mk=m→sem ns el[q].1 (asgI l i)=true:=fun i hi e=>by rw[h.same hi hm hs e (ZrM hq)];exact hx
    have cz:∀q' (bG:q'<el.length),q'≠q→∀i,i<2 ^ l.length→i &&& mk=m→sem ns el[q'].1 (asgI l i)=false:=fun q' bG aJ i hi e=>by
     cases hb:sem ns el[q'].1 (asgI l i)
     ·rfl
     ·exact(aJ (h.one bG hq hb (aM i hi e))).elim
    unfold elStep;rw[if_pos hs,fA];simp only[List.length_map,List.length_take,Nat.min_eq_left hj]
    by_cases hqj:q<j
    ·have hfi:((el.take j).map (ZkQ l mk m ns)).findIdx (fun e=>decide (e.2=tabO l (sem ns el[q].2)))=q:=by
      refine findIdx_at (by simp;omega) (by simp[ZkQ]) fun k hk=>?_
      simp only[List.getElem_map,List.getElem_take,ZkQ,decide_eq_false_iff_not];intro e;have:=h.sub k (by omega) q hq e;omega
     rw[hfi,if_neg (by omega)];refine⟨j,hj,?_,fun q' bG=>?_⟩
     ·refine List.ext_getElem? fun k=>?_
      rw[List.getElem?_modify,List.getElem?_map,List.getElem?_map,List.getElem?_take]
      by_cases hk:k<j
      ·rw[if_pos hk,Zry (by omega)]
       simp only[Option.map_eq_map,Option.map_some,ZrJ]
       by_cases hkq:q=k
       ·subst hkq
        rw[if_pos rfl];simp only[ZkQ,Prod.mk.injEq,and_true];exact Zi0 aM
       ·rw[if_neg hkq]
        simp only[ZkQ,id,Prod.mk.injEq,and_true];exact ZfM (cz k (by omega) (fun e=>hkq e.symm))
      ·rw[if_neg hk];rfl
     ·rw[lD q' bG]
      constructor
      ·omega
      ·intro hl
       apply ZrO
       intro hn;have e:lw q'=m:=by omega
       have zj:=(h.low q' bG).sat;rw[e]at zj;have:=h.one bG hq zj hx;subst this;have:=(lD _ bG).1 hqj;omega
    ·have zb:lw q=m:=by have:=(not_congr (lD q hq)).1 hqj;omega
     obtain rfl:q=j:=by
      rcases Nat.lt_or_ge j q with hh|hh
      ·have:=h.up j q hh hq
       have:=(lD j (by omega)).2 (by omega);omega
      ·omega
     have hfi:((el.take q).map (ZkQ l mk m ns)).findIdx (fun e=>decide (e.2=tabO l (sem ns el[q].2)))=q:=by
      have:=findIdx_none (l:=(el.take q).map (ZkQ l mk m ns)) (p:=fun e=>decide (e.2=tabO l (sem ns el[q].2))) fun k hk=>by
       simp only[List.length_map,List.length_take]at hk;simp only[List.getElem_map,List.getElem_take,ZkQ,decide_eq_false_iff_not];intro e;have:=h.sub k (by omega) q hq e;omega
      rw[this];simp;omega
     rw[hfi,if_pos rfl];refine⟨q+1,hq,?_,fun q' bG=>?_⟩
     ·refine List.ext_getElem? fun k=>?_
      rw[List.getElem?_modify,List.getElem?_map,List.getElem?_take];rcases Nat.lt_trichotomy k q with hk|hk|hk
      ·rw[if_pos (by omega),List.getElem?_append_left (by simp;omega),List.getElem?_map,List.getElem?_take,if_pos hk,Zry (by omega)]
       simp only[Option.map_eq_map,Option.map_some,ZrJ];rw[if_neg (by omega)];simp only[ZkQ,id,Prod.mk.injEq,and_true];exact ZfM (cz k (by omega) (by omega))
      ·subst hk
       rw[if_pos (by omega),List.getElem?_append_right (by simp;omega),Zry hq];simp only[if_true,List.length_map,List.length_take,Nat.min_eq_left hj,Nat.sub_self,List.getElem?_cons_zero,Option.map_eq_map,Option.map_some,ZrJ,h.tab.len];simp only[ZkQ,Prod.mk.injEq,and_true];refine ZkV aM fun i hi aD=>?_
       have ex:i &&& mk<2 ^ l.length:=by omega
       rw[h.same hi ex (sZ i) rfl (ZrM hq)];exact(h.low k hq).least _ (by omega)
      ·rw[if_neg (by omega),List.getElem?_eq_none (by simp;omega)];rfl
     ·constructor
      ·intro hl
       rcases Nat.lt_or_ge q' q with hh|hh
       ·have:=(lD q' bG).1 hh;omega
       ·obtain rfl:q'=q:=by omega
        omega
      ·intro hl
       apply ZrO
       intro hn;have:=h.up q q' (by omega) bG;omega
   ·unfold elStep
    rw[if_neg hs];refine⟨j,hj,?_,fun q hq=>?_⟩
    ·refine List.map_congr_left fun p _=>?_
     simp only[ZkQ,Prod.mk.injEq,and_true];refine Zbk fun i hi=>?_
     congr 1
     rw[Bool.eq_iff_iff,decide_eq_true_iff,decide_eq_true_iff];have:i &&& mk≠m:=fun e=>hs (by rw[←e];exact sZ i)
     omega
    ·rw[lD q hq]
     have:lw q≠m:=fun e=>hs (by rw[←e];exact(h.low q hq).sub)
     omega
theorem els_law{t:List VN}{l:List Int}{ns:List Zac}{L R mk:Nat}{el:List (Nat × Nat)}{f:List Bool}{lw:Nat→Nat}(h:ZgF t l ns L R mk el f lw):elsN f mk (2 ^ l.length)=el.map fun p=>(tabO l (sem ns p.1),tabO l (sem ns p.2)):=by
 obtain⟨j,hj,he,lD⟩:=ZlM h _ (ZrQ _)
 have:j=el.length:=by
  apply ZrO
  intro hn;have:=(lD j (by omega)).2 (h.low j (by omega)).lt;omega
 subst this;rw[he,List.take_length];refine List.map_congr_left fun p _=>?_
 simp only[ZkQ,Prod.mk.injEq,and_true];refine Zbk fun i hi=>?_
 rw[ZrI (Nat.lt_of_le_of_lt Nat.and_le_left hi),Bool.true_and]
theorem Inv.elFit{s:St}(h:Inv s){l:List Int}(hl:SortedBel s.tree (s.tree.length - 1) l){a:Nat}{n:Zac}(hn:s.nodes[a]? =some n)(hk:Zb9 s.tree s.nodes a n){f:List Bool}(hf:IsTab l (sem s.nodes a) f) :
  ∃(P:Nat) (y:VN) (L R:Nat),n.pl=P∧s.tree[P]? =some y∧Zai y=false∧y.left=L∧y.right=R∧∀mk,Mask l (Bel s.tree L) mk→∃lw,ZgF s.tree l s.nodes L R mk n.el f lw:=by
 obtain⟨P,y,L,R,hP,hy,aI,eL,eR,hp,jJ,_,_,_⟩:=Zb1 h (fun i j _ _ hi hj e=>h.canon hi hj e) (k:=a) (ZrQ _) hn hk;have hu:P<s.tree.length:=(Zrw hy).1;obtain⟨uL,uR⟩:=Und.kid h.tree hy aI eL eR;have fF:=Und.root h.tree s.tree.length P hu (by omega);have eT:∀v,Bel s.tree L v→Bel s.tree R v→False:=fun v a b=>Bel.apart h.tree hy aI eL eR a b
 have inL:∀v,Bel s.tree L v→v∈l:=fun v hv=>(hl.mem v).2 (hv.up (fF.trans uL))
 have inR:∀v,Bel s.tree R v→v∈l:=fun v hv=>(hl.mem v).2 (hv.up (fF.trans uR))
 have pJ:∀v∈l,1≤v∧v≤128:=fun v hv=>((hl.mem v).1 hv).range
 have eg:sem s.nodes a=fun x=>n.el.any fun p=>sem s.nodes p.1 x && sem s.nodes p.2 x:=funext fun x=>h.semDec hn hk x
 have ha:=(Zrw hn).1;refine⟨P,y,L,R,hP,hy,aI,eL,eR,fun mk hm=>?_⟩
 have lj:∀q (hq:q<n.el.length),∃i,Zhv l mk s.nodes n.el[q] i:=fun q hq=>by
  have ag:=ZrM hq;have nH:=hk.kids _ ag;refine Zrd hl.sorted pJ hm inL (h.min _ ?_ (by omega)) (hp.pdep _ ag)
  apply ZrO
  intro nM;obtain⟨x,hx⟩:=hp.pne _ ag;rw[show n.el[q].1=0 by omega,h.sem0]at hx;cases hx
 have sg:∀q,∃i,∀(hq:q<n.el.length),Zhv l mk s.nodes n.el[q] i:=fun q=>by
  by_cases hq:q<n.el.length
  ·obtain⟨i,hi⟩:=lj q hq;exact⟨i,fun _=>hi⟩
  ·exact⟨0,fun h=>(hq h).elim⟩
 let lw:Nat→Nat:=fun q=>Classical.choose (sg q)
 have lD:∀q (hq:q<n.el.length),Zhv l mk s.nodes n.el[q] (lw q):=fun q hq=>Classical.choose_spec (sg q) hq
 refine⟨lw,⟨hl.sorted,hm,inL,inR,eT,hp,⟨hf.len,fun x=>by rw[hf.says,eg]⟩,lD,fun q q' hqq bG=>?_,fun q hq q' bG e=>?_⟩⟩
 ·exact(lD q (by omega)).mono hl.sorted (lD q' bG) ((List.pairwise_iff_getElem.1 hk.sorted) q q' (by omega) bG hqq)
 ·have e':=Zj5 hl.sorted ((hp.sdep _ (ZrM hq)).mono inR) ((hp.sdep _ (ZrM bG)).mono inR) e
  rcases Nat.lt_trichotomy q q' with hh|hh|hh
  ·refine((List.pairwise_iff_getElem.1 hp.nd) q q' hq bG hh ?_).elim
   have h1:=hk.kids _ (ZrM hq);have h2:=hk.kids _ (ZrM bG);exact h.canon (by omega) (by omega) e'
  ·exact hh
  ·refine((List.pairwise_iff_getElem.1 hp.nd) q' q bG hq hh ?_).elim
   have h1:=hk.kids _ (ZrM hq);have h2:=hk.kids _ (ZrM bG);exact h.canon (by omega) (by omega) e'.symm
end Go.Proofs.YtemnmcfmabamcaaGreatDoor.L
namespace Go.Proofs.YtemnmcfmabamcaaGreatDoor.L
theorem Inv.tab_eq{s:St}(h:Inv s){l:List Int}(hl:SortedBel s.tree (s.tree.length - 1) l){a b:Nat}(ha:a<s.nodes.length)(hb:b<s.nodes.length):tabO l (sem s.nodes a)=tabO l (sem s.nodes b)↔a=b :=
 ⟨fun e=>h.canon ha hb (Zj5 hl.sorted (h.tabDep hl ha) (h.tabDep hl hb) e),fun e=>by rw[e]⟩
def Zft (el:List (Nat × Nat)):List Nat:=el.flatMap fun p=>[p.1,p.2]
theorem ZlT(el:List (Nat × Nat)):(Zft el).length=2*el.length:=by
 induction el with
 | nil=>rfl
 | cons p r ih=>simp only[Zft,List.flatMap_cons,ZrB,ZrP,List.length_nil]at ih ⊢;omega
theorem flat2_get:∀(el:List (Nat × Nat)) (k:Nat) (hk:k / 2<el.length),(Zft el)[k]? =some (if k % 2=1 then el[k / 2].2 else el[k / 2].1)
 | [],k,hk=>by simp at hk
 | p :: r,0,_=>rfl
 | p :: r,1,_=>rfl
 | p :: r,k+2,hk=>by
   have h2:(k+2) / 2=k / 2+1:=by omega
   have ih:=flat2_get r k (by simp at hk;omega);have e:(Zft (p :: r))[k+2]? =(Zft r)[k]?:=by simp[Zft]
   rw[e];rw[ih];have h3:(k+2) % 2=k % 2:=by omega
   simp only[h2,h3,List.getElem_cons_succ]
theorem Zlr(all:List Nat):∀el:List (Nat × Nat),addP all el=(Zft el).foldl withL all:=by
 intro el
 induction el generalizing all with
 | nil=>rfl
 | cons p r ih=>rw[addP,ih];simp[Zft]
def addW(all:List Nat)(el:List (Nat × Nat))(k:Nat):List Nat:=((Zft el).take k).foldl withL all
theorem addW_succ(all:List Nat)(el:List (Nat × Nat)){k x:Nat}(h:(Zft el)[k]? =some x):addW all el (k+1)=withL (addW all el k) x:=by
 unfold addW;rw[List.take_add_one,h];simp
theorem addW_end(all:List Nat)(el:List (Nat × Nat)):addW all el (2*el.length)=addP all el:=by
 unfold addW;rw[←ZlT,List.take_length,Zlr]
theorem addW_mem(all:List Nat)(el:List (Nat × Nat))(k:Nat){x:Nat}(h:x∈addW all el k):x∈all∨∃p∈el,x=p.1∨x=p.2:=by
 have key:∀(m:List Nat) (all:List Nat),x∈m.foldl withL all→x∈all∨x∈m:=by
  intro m
  induction m with
  | nil=>intro all h;exact .inl h
  | cons a r ih =>
    intro all h;rcases ih (withL all a) h with h1|h1
    ·rcases (Zdg all a x).1 h1 with h2|h2
     ·exact .inl h2
     ·exact .inr (by rw[h2];exact ZrL ..)
    ·exact .inr (ZrA _ h1)
 rcases key _ _ h with h1|h1
 ·exact .inl h1
 ·have:=List.mem_of_mem_take h1
  rw[Zft,List.mem_flatMap]at this;obtain⟨p,hp,hx⟩:=this;refine .inr ⟨p,hp,?_⟩;simpa using hx
theorem addW_pre(all:List Nat)(el:List (Nat × Nat))(k:Nat):∃r,addW all el k=all++r:=by
 have key:∀(m:List Nat) (all:List Nat),∃r,m.foldl withL all=all++r:=by
  intro m
  induction m with
  | nil=>intro all;exact⟨[],by simp⟩
  | cons a r ih =>
    intro all;obtain⟨r1,e1⟩:=Zf4 all a;obtain⟨r2,e2⟩:=ih (withL all a);exact⟨r1++r2,by rw[List.foldl_cons,e2,e1];simp⟩
 exact key _ _
theorem addW_nodup{all:List Nat}(h:all.Nodup)(el:List (Nat × Nat))(k:Nat):(addW all el k).Nodup:=by
 have key:∀(m:List Nat) (all:List Nat),all.Nodup→(m.foldl withL all).Nodup:=by
  intro m
  induction m with
  | nil=>intro all h;exact h
  | cons a r ih=>intro all h;exact ih _ (ZdQ a h)
 exact key _ _ h
end Go.Proofs.YtemnmcfmabamcaaGreatDoor.L
