import Derived.Test.YtmnjakejhbpkoaaGreatDoorVLaw3
set_option linter.unusedSimpArgs false
set_option linter.unusedVariables false
set_option maxRecDepth 100000
namespace Go.Proofs.YtmnjakejhbpkoaaGreatDoor.L
def upd (x:Asg)(v:Int)(b:Bool):Asg:=fun u=>if u=v then b else x u
def giv (φ:Asg→Bool)(v:Int)(b:Bool):Asg→Bool:=fun x=>φ (upd x v b)
theorem giv_dep{S:Int→Prop}{φ:Asg→Bool}{v:Int}{b:Bool}(h:Dep S φ):Dep S (giv φ v b):=fun x y dH=>h _ _ fun u hu=>by
 unfold upd;split
 ·rfl
 ·exact dH u hu
theorem giv_none{S:Int→Prop}{φ:Asg→Bool}{v:Int}{b:Bool}(h:Dep S φ)(hv:¬ S v)(x:Asg):giv φ v b x=φ x:=h _ _ fun u hu=>by
 unfold upd;rw[if_neg];rintro rfl;exact hv hu
theorem ZgA(x:Asg){v u:Int}(b c:Bool)(h:v≠u):upd (upd x v b) u c=upd (upd x u c) v b:=by
 funext z;unfold upd;split <;> split <;> simp_all
theorem Zeq(φ:Asg→Bool){v u:Int}(b c:Bool)(h:v≠u):giv (giv φ v b) u c=giv (giv φ u c) v b:=by
 funext x;unfold giv;rw[ZgA _ _ _ (Ne.symm h)]
def co (n:Nat):Nat:=3*cn n+ca n
def cg (n:Nat):Nat:=if n≤4 then 0 else if n=5 then 112 else 3920
theorem cg_cost{nl nr e:Nat}(h1:1≤nl)(h2:1≤nr)(h6:nl+nr≤6)(a1:e≤2 ^ nl)(a2:e≤2 ^ (2 ^ nr)):e*(cg nl+cg nr+(ca (nl+nr)+co (nl+nr)))≤cg (nl+nr):=by
 have hl:nl≤5:=by omega
 have hr:nr≤5:=by omega
 have:nl=1∨nl=2∨nl=3∨nl=4∨nl=5:=by omega
 have:nr=1∨nr=2∨nr=3∨nr=4∨nr=5:=by omega
 rcases ‹nl=1∨_› with rfl|rfl|rfl|rfl|rfl <;> rcases ‹nr=1∨_› with rfl|rfl|rfl|rfl|rfl <;> simp[cg,ca,co,cn]at * <;> omega
end Go.Proofs.YtmnjakejhbpkoaaGreatDoor.L
namespace Go.Proofs.YtmnjakejhbpkoaaGreatDoor.L
def cnt:List Int→(Asg→Bool)→Nat
 | [],φ=>if φ (fun _=>false)=true then 1 else 0
 | v :: l,φ=>cnt l (giv φ v false)+cnt l (giv φ v true)
theorem Zdj{φ ψ:Asg→Bool}(h:∀x,φ x=ψ x)(l:List Int):cnt l φ=cnt l ψ:=by
 rw[show φ=ψ from funext h]
theorem cnt_perm{l m:List Int}(h:l.Perm m):∀φ,cnt l φ=cnt m φ:=by
 induction h with
 | nil=>intro φ;rfl
 | cons v _ ih=>intro φ;rw[cnt,cnt,ih,ih]
 | swap v u l =>
   intro φ;rcases Decidable.em (u=v) with rfl|aH
   ·rfl
   ·rw[cnt,cnt,cnt,cnt,cnt,cnt,Zeq φ false false aH,Zeq φ false true aH,Zeq φ true false aH,Zeq φ true true aH]
    omega
 | trans _ _ tW tX=>intro φ;rw[tW,tX]
theorem cnt_false:∀(l:List Int),cnt l (fun _=>false)=0
 | []=>rfl
 | v :: l=>by
   rw[cnt];have h:∀b,giv (fun _=>false) v b=fun _=>false:=fun b=>rfl
   rw[h,h,cnt_false l]
theorem cnt_true:∀(l:List Int),cnt l (fun _=>true)=2 ^ l.length
 | []=>rfl
 | v :: l=>by
   rw[cnt];have h:∀b,giv (fun _=>true) v b=fun _=>true:=fun b=>rfl
   rw[h,h,cnt_true l,ZpC,Nat.pow_succ];omega
theorem cnt_le:∀(l:List Int) (φ:Asg→Bool),cnt l φ≤2 ^ l.length
 | [],φ=>by rw[cnt];split <;> simp
 | v :: l,φ=>by
   rw[cnt,ZpC,Nat.pow_succ];have:=cnt_le l (giv φ v false);have:=cnt_le l (giv φ v true);omega
theorem Zkr:∀(l:List Int) (φ ψ:Asg→Bool),(∀x,¬ (φ x=true∧ψ x=true))→cnt l (fun x=>φ x || ψ x)=cnt l φ+cnt l ψ
 | [],φ,ψ,h=>by
   rw[cnt,cnt,cnt];have:=h (fun _=>false)
   cases h1:φ (fun _=>false) <;> cases h2:ψ (fun _=>false) <;> simp_all
 | v :: l,φ,ψ,h=>by
   rw[cnt,cnt,cnt];have e:∀b,giv (fun x=>φ x || ψ x) v b=fun x=>giv φ v b x || giv ψ v b x:=fun b=>rfl
   rw[e,e,Zkr l (giv φ v false) (giv ψ v false) (fun x=>h _),Zkr l (giv φ v true) (giv ψ v true) (fun x=>h _)];omega
theorem Zf4{S:Int→Prop}:∀(l m:List Int) (φ ψ:Asg→Bool),Dep (·∈l) φ→Dep S ψ→(∀v∈l,¬ S v)→cnt (l++m) (fun x=>φ x && ψ x)=cnt l φ*cnt m ψ
 | [],m,φ,ψ,hp,hq,hd=>by
   have hc:∀x,φ x=φ fun _=>false:=fun x=>hp _ _ fun v hv=>by cases hv
   rw[cnt,List.nil_append]
   cases h:φ (fun _=>false)
   ·rw[if_neg (by simp),Nat.zero_mul,←cnt_false m]
    exact Zdj (fun x=>by rw[hc x,h];rfl) m
   ·rw[if_pos rfl,Nat.one_mul]
    exact Zdj (fun x=>by rw[hc x,h];rfl) m
 | v :: l,m,φ,ψ,hp,hq,hd=>by
   rw[List.cons_append,cnt,cnt,Nat.add_mul]
   have e:∀b,giv (fun x=>φ x && ψ x) v b=fun x=>giv φ v b x && ψ x:=fun b=>by
    funext x
    show (giv φ v b x && giv ψ v b x)=_
    rw[giv_none hq (hd v (Zpy ..)) x]
   have cI:∀b,Dep (·∈l) (giv φ v b):=fun b x y dH=>hp _ _ fun u hu=>by
    unfold upd
    split
    ·rfl
    ·rename_i aH
     exact dH u ((List.mem_cons.1 hu).resolve_left aH)
   rw[e,e,Zf4 l m _ ψ (cI false) hq (fun v hv=>hd v (Zpn _ hv)),Zf4 l m _ ψ (cI true) hq (fun v hv=>hd v (Zpn _ hv))]
theorem Zix{S:Int→Prop}(l m:List Int)(ψ:Asg→Bool)(hq:Dep S ψ)(hd:∀v∈l,¬ S v):cnt (l++m) ψ=2 ^ l.length*cnt m ψ:=by
 rw[←cnt_true l,←Zf4 l m (fun _=>true) ψ (fun x y _=>rfl) hq hd];exact Zdj (fun x=>by simp) _
theorem Znm(v:Int)(b:Bool):cnt [v] (fun x=>x v ==b)=1:=by
 rw[cnt,cnt,cnt];unfold giv upd;simp only[if_true]
 cases b <;> simp
theorem Zkq(l:List Int){α:Type}(f:α→Asg→Bool):∀(el:List α),el.Pairwise (fun p q=>∀x,¬ (f p x=true∧f q x=true))→cnt l (fun x=>el.any fun p=>f p x)=(el.map fun p=>cnt l (f p)).sum
 | [],_=>cnt_false l
 | p :: el,h=>by
   rw[List.pairwise_cons]at h
   rw[List.map_cons,List.sum_cons,←Zkq l f el h.2,←Zkr l (f p) (fun x=>el.any fun q=>f q x) (fun x hx=>by
    obtain⟨q,hq,bZ⟩:=List.any_eq_true.1 hx.2;exact h.1 q hq x ⟨hx.1,bZ⟩)]
   exact Zdj (fun x=>by rw[List.any_cons]) l
def nth:List Int→Nat→Asg
 | [],_=>fun _=>false
 | v :: l,k=>upd (nth l (k / 2)) v (k % 2 ==1)
theorem cnt_range:∀(l:List Int) (φ:Asg→Bool),l.Nodup→((List.range (2 ^ l.length)).filter fun k=>φ (nth l k)).length=cnt l φ
 | [],φ,_=>by
   rw[cnt]
   show ((List.range 1).filter fun k=>φ (fun _=>false)).length=_
   simp only[List.range_one,List.filter_cons,List.filter_nil]
   split <;> simp
 | v :: l,φ,hn=>by
   rw[cnt,←cnt_range l _ (List.nodup_cons.1 hn).2,←cnt_range l _ (List.nodup_cons.1 hn).2,ZpC,Nat.pow_succ];generalize 2 ^ l.length=n
   induction n with
   | zero=>rfl
   | succ n ih =>
     rw[show (n+1)*2=n*2+1+1 from by omega,List.range_succ,List.range_succ,List.range_succ];simp only[List.filter_append,Zpo,List.filter_cons,List.filter_nil]
     have e0:nth (v :: l) (n*2)=upd (nth l n) v false:=by
      rw[nth,show n*2 / 2=n from by omega,show n*2 % 2=0 from by omega];rfl
     have e1:nth (v :: l) (n*2+1)=upd (nth l n) v true:=by
      rw[nth,show (n*2+1) / 2=n from by omega,show (n*2+1) % 2=1 from by omega];rfl
     rw[e0,e1];unfold giv at ih ⊢
     split <;> split <;> simp at * <;> omega
end Go.Proofs.YtmnjakejhbpkoaaGreatDoor.L
namespace Go.Proofs.YtmnjakejhbpkoaaGreatDoor.L
def cl (n:Nat):Nat:=if n≤4 then 0 else if n=5 then 2 else 62
theorem Znk{a b:Nat}(h:a≤b):cl a≤cl b:=by unfold cl;split <;> split <;> (try split) <;> (try split) <;> omega
theorem ZeC{nl nr e1 e2 n:Nat}(h1:1≤nl)(h2:1≤nr)(h6:nl+nr≤6)(a1:e1≤2 ^ nl)(a2:e1≤2 ^ (2 ^ nr))(b1:e2≤2 ^ nl)(b2:e2≤2 ^ (2 ^ nr))(hn:n≤e1*e2)(hs:e1≤2∨e2≤2) :
  cn (nl+nr)+(cn nl+cn nl)+e1*(e2*(ca nl+ca nr))+(n*(3*cn nl+ca nl)+if 5≤nl+nr then 1 else 0)≤cl (nl+nr):=by
 by_cases hl5:nl=5
 ·have iE:nr=1:=by omega
  subst hl5;subst iE;have iX:e1≤4:=a2;have jv:e2≤4:=b2
  have hm:e1*e2≤8:=by
   rcases hs with hs|hs
   ·exact Zpp (Nat.mul_le_mul hs jv) (by omega)
   ·exact Zpp (Nat.mul_le_mul iX hs) (by omega)
  have:e1*(e2*(ca 5+ca 1))=e1*e2*2:=by rw[Nat.mul_assoc];rfl
  rw[this,show cn (5+1)=3 from rfl,show cn 5=1 from rfl,show ca 5=2 from rfl,show cl (5+1)=62 from rfl,if_pos (by omega)];omega
 ·have c1:cn nl=0:=by unfold cn;rw[if_pos (by omega)]
  have c2:ca nl=0:=by unfold ca;rw[if_pos (by omega)]
  rw[c1,c2]
  by_cases eT:nr=5
  ·have fJ:nl=1:=by omega
   subst eT;subst fJ;have hm:e1*e2≤2*2:=Nat.mul_le_mul a1 b1;have:e1*(e2*(0+ca 5))=e1*e2*2:=by rw[Nat.mul_assoc];rfl
   rw[this,show cn (1+5)=3 from rfl,show cl (1+5)=62 from rfl,if_pos (by omega)];omega
  ·have c3:ca nr=0:=by unfold ca;rw[if_pos (by omega)]
   rw[c3];simp only[Nat.add_zero,Nat.mul_zero,Nat.zero_add];unfold cn cl
   split <;> split <;> (try split) <;> omega
def Leafy(t:List VN)(φ:Asg→Bool):Prop:=∃u y,t[u]? =some y∧Zaj y=true∧Dep (Bel t u) φ
theorem ZiE{s:St}(h:Inv s)(hc:Zad s.tree=0){M:Nat}{y:VN}(hy:s.tree[M]? =some y)(aI:Zaj y=false){i:Nat}(h2:2≤i){n:Zaf}(hn:s.nodes[i]? =some n){P:Nat}(e:n.pl=P)(hl:Leafy s.tree (sem s.nodes i)):(P:Int)≠(M:Int):=by
 obtain⟨u,z,h3,h4,h5⟩:=hl;obtain⟨P',e1,_,e3⟩:=h.at_und h2 hn h5;have:=e3.leaf hc h3 h4;intro e4;have:u=M:=by omega
 subst this;rw[hy]at h3;cases h3;rw[aI]at h4;cases h4
theorem ZfV{g:St→Nat→Option (Nat × St)}{s s':St}{a P:Nat}{el:List (Nat × Nat)}(h:ZbX g s a P=some (el,s'))(hp:Zdr s a≠(P:Int)):el.length≤2:=by
 unfold ZbX at h;unfold Zdr at hp
 split at h
 ·cases h
 ·rename_i n hn
  rw[hn]at hp;rw[if_neg hp]at h
  split at h
  ·cases h
  ·split at h
   ·cases h
   ·split at h
    ·split at h
     ·cases h
     ·cases h;exact ZpD _
    ·cases h;exact Nat.le_succ _
theorem Zlo{s s':St}(h:Step s s'){a:Nat}(ha:a<s.nodes.length):Zdr s' a=Zdr s a:=by
 obtain⟨m,hm⟩:=h.ext;unfold Zdr;rw[hm,List.getElem?_append_left ha]
theorem ZgH{t:List VN}(hc:Zad t=0)(aY:t.length≤11){P:Nat}{y:VN}{l r:Nat}(hy:t[P]? =some y)(aI:Zaj y=false)(hl:y.left=l)(hr:y.right=r){nf:St→Nat→Option (Nat × St)}{af:St→Nat→Nat→Option (Nat × St)}
  (iS:ZnW t l (cn (nv t l)) nf) (eQ:Zir t l (ca (nv t l)) af) (wO:Zir t r (ca (nv t r)) af) {s:St}(ht:s.tree=t) {a b c0:Nat}(hR:Room s c0) (gk:c0+cn (nv t P)=cl (nv t P)) (eS:Zdr s a≠(P:Int)∨Zdr s b≠(P:Int)) (gY:2≤a) (aP:2≤b) (ha:a<s.nodes.length) (hb:b<s.nodes.length)
  (cU:Dep (Bel t P) (sem s.nodes a)) (cQ:Dep (Bel t P) (sem s.nodes b)) (hm:Zej s (Zdr s a) (Zdr s b)=some P) :
  Did s c0 (fun x=>sem s.nodes a x && sem s.nodes b x) (ZeA nf af s a b):=by
 have hi:=hR.inv;have hP:P<t.length:=(Zpj hy).1;obtain⟨l',r',b1,b2,b3,b4,b5,b6,b7⟩:=inner_ok hc hy aI;obtain rfl:l'=l:=by omega
 obtain rfl:r'=r:=by omega
 have iT:=nv_inner hc hy aI hl hr;have ju:=nv_pos hc l' (by omega);have kS:=nv_pos hc r' (by omega);have nP:=nv_le hc hP;unfold ZeA;rw[hm];simp only
 have aw:cn (nv t l')+cn (nv t l')≤c0:=by
  have:=ZeC (e1:=0) (e2:=0) (n:=0) ju kS (by omega) (Nat.zero_le _) (Nat.zero_le _) (Nat.zero_le _) (Nat.zero_le _) (Nat.zero_le _) (.inl (Nat.zero_le _));rw[←iT]at this;omega
 obtain⟨right,s1,h1,h2,h3,h4,h5,h6⟩:=Zck hc hy aI hl hr iS ht (hR.less (by omega)) aP hb cQ;rw[h1];simp only;have gQ:=h2.sem hi ha;obtain⟨left,s2,g1,g2,g3,g4,g5,g6⟩:=Zck hc hy aI hl hr iS (h2.tree.trans ht) (hR.next h2 h3 (m:=cn (nv t l')) (by omega)) gY (by have:=h2.len;omega) (by rw[gQ];exact cU);rw[g1];simp only;have bg:=h2.trans g2;have gJ:left.length≤2∨right.length≤2:=eS.elim (fun hp=>.inl (ZfV g1 (by rw[Zlo h2 ha];exact hp))) (fun hp=>.inr (ZfV h1 hp));have nz:=h4.step h2.inv g2;rw[gQ]at g4;have ie:=ZeC (e1:=left.length) (e2:=right.length) (n:=left.length*right.length) ju kS (by omega) g5 g6 h5 h6 (ZpD _) gJ;rw[←iT]at ie;obtain⟨new,s3,k1,k2,k3,k4,k5,k6,k7⟩:=ZfZ eQ wO right left s2 [] (bg.tree.trans ht) (hR.next bg (c:=cn (nv t l')+cn (nv t l')) (by omega) (by omega)) g4.pairs nz.pairs;rw[k1];simp only;rw[List.nil_append];have iY:=bg.trans k2;have lv:=ZiW k2 g4 nz k5 k6 k7;have ig:=ZeC (e1:=left.length) (e2:=right.length) (n:=new.length) ju kS (by omega) g5 g6 h5 h6 k4 gJ;rw[←iT]at ig
 have aL:new.length≤1048576:=by
  have e1:left.length≤2 ^ 6:=Zpp g5 (Nat.pow_le_pow_right (by omega) (by omega));have e2:right.length≤2 ^ 6:=Zpp h5 (Nat.pow_le_pow_right (by omega) (by omega));have e3:=Nat.mul_le_mul e1 e2;have e4:(2:Nat) ^ 6*2 ^ 6=4096:=rfl;omega
 obtain⟨c,s4,m1,m2,m3,m4,m5⟩:=Zg4 hy aI hl hr (or_spec iS eQ) (iY.tree.trans ht) (hR.next iY (c:=cn (nv t l')+cn (nv t l')+left.length*(right.length*(ca (nv t l')+ca (nv t r')))) (by omega) (by omega)) lv aL;rw[m1];simp only;have jY:=iY.trans m2;have xL:=jY.len;have sa:=jY.sem hi ha;have sb:=jY.sem hi hb;refine⟨c,Znc s4 a b c,rfl,⟨jY.inv.ands_add (by omega) (by omega) m3 (fun x=>by rw[m4,sa,sb]),jY.tree,jY.ext⟩,m3,m4,?_⟩
 show big s4≤_
 omega
theorem Zd0{t:List VN}(hc:Zad t=0)(aY:t.length≤11){v:Nat}(hv:v<t.length){f:Nat}(hf:v+2≤f)(ih:∀m,m<v→m<t.length→Zir t m (ca (nv t m)) (ZhD f))
  {s:St}(ht:s.tree=t) (hR:Room s (cl (nv t v))) {a b:Nat}(bA:a≤b) (hb:b<s.nodes.length) (cU:Dep (Bel t v) (sem s.nodes a)) (cQ:Dep (Bel t v) (sem s.nodes b)) (eS:Leafy t (sem s.nodes a)∨Leafy t (sem s.nodes b)) :
  Did s (cl (nv t v)) (fun x=>sem s.nodes a x && sem s.nodes b x) (ZdZ (Zlb f) (ZhD f) s a b):=by
 have hi:=hR.inv;have ha:a<s.nodes.length:=by omega
 unfold ZdZ
 by_cases h0:a=0∨a=b
 ·rw[if_pos h0]
  refine⟨a,s,rfl,Step.refl hi,ha,fun x=>?_,by omega⟩;rcases h0 with rfl|rfl
  ·show sem s.nodes 0 x=(sem s.nodes 0 x && sem s.nodes b x)
   rw[hi.sem0];rfl
  ·show sem s.nodes a x=(sem s.nodes a x && sem s.nodes a x)
   rw[Bool.and_self]
 rw[if_neg h0]
 by_cases h1:a=1
 ·rw[if_pos h1]
  subst h1;exact⟨b,s,rfl,Step.refl hi,hb,fun x=>by show sem s.nodes b x=(sem s.nodes 1 x && sem s.nodes b x);rw[hi.sem1,Bool.true_and],by omega⟩
 rw[if_neg h1];have gY:2≤a:=by omega
 have aP:2≤b:=by omega
 have bY:s.nodes[a]? =some s.nodes[a]:=Zpl ha;have fD:s.nodes[b]? =some s.nodes[b]:=Zpl hb;subst ht;obtain⟨Pa,ea,la,ua⟩:=hi.at_und gY bY cU;obtain⟨Pb,eb,lb,ub⟩:=hi.at_und aP fD cQ;obtain⟨m1,m2,m3⟩:=Ze1 hc la lb;have mY:=m3 v ua ub;generalize vZ:ZcG s.tree Pa Pb=M at m1 m2 m3 mY;have hM:M<s.tree.length:=mY.lt hv;have hMv:=mY.le hc;have pG:=mY.nv_le hc
 have si:Dep (Bel s.tree M) (sem s.nodes a):=by
  obtain⟨P',f1,_,f3⟩:=hi.place gY bY;have:P'=Pa:=by omega
  subst this;exact f3.mono fun x hx=>hx.up m1
 have dF:Dep (Bel s.tree M) (sem s.nodes b):=by
  obtain⟨P',f1,_,f3⟩:=hi.place aP fD;have:P'=Pb:=by omega
  subst this;exact f3.mono fun x hx=>hx.up m2
 have wY:cn (nv s.tree M)≤cl (nv s.tree M):=by unfold cn cl;split <;> (try split) <;> omega
 have mO:=Znk pG;obtain⟨na,s1,g1,g2,g3,g4,g5⟩:=not_spec hc aY M hM f (by omega) s a rfl (hR.less (by omega)) ha si;rw[g1];simp only;have cw:=g2.inv;have fJ:=g2.len;have sa:=g2.sem hi ha;have sb:=g2.sem hi hb
 by_cases aH:na=b
 ·rw[if_pos aH]
  refine⟨0,s1,rfl,g2,by omega,fun x=>?_,by omega⟩;rw[cw.sem0];have h7:=g4 x;rw[aH,sb]at h7
  show false=(sem s.nodes a x && sem s.nodes b x)
  rw[h7]
  show false=(sem s.nodes a x && !sem s.nodes a x)
  cases sem s.nodes a x <;> rfl
 rw[if_neg aH]
 cases hands:asc s1.ands (a,b) with
 | some c =>
   obtain⟨_,_,k3,k4⟩:=cw.ands a b c hands;exact⟨c,s1,rfl,g2,k3,fun x=>by rw[k4,sa,sb],by omega⟩
 | none =>
   simp only;have hy:s.tree[M]? =some s.tree[M]:=Zpl hM;generalize s.tree[M]=y at hy
   cases aI:Zaj y
   ·obtain⟨l,r,b1,b2,b3,b4,b5,_⟩:=inner_ok hc hy aI
    have aU:Room s1 (cl (nv s.tree M) - cn (nv s.tree M)):=(hR.less mO).next g2 g5 (by omega)
    have kt:∀ {i:Nat},i<s.nodes.length→s1.nodes[i]? =s.nodes[i]?:=fun kO=>by
     obtain⟨m,hm⟩:=g2.ext;rw[hm,List.getElem?_append_left kO]
    have pla:Zdr s1 a=(Pa:Int):=by unfold Zdr;rw[kt ha,bY];exact ea
    have plb:Zdr s1 b=(Pb:Int):=by unfold Zdr;rw[kt hb,fD];exact eb
    have fC:Zej s1 (Zdr s1 a) (Zdr s1 b)=some M:=by
     rw[pla,plb,Zbo (by rw[g2.tree];exact hc) (by rw[g2.tree];exact la) (by rw[g2.tree];exact lb),g2.tree,vZ]
    have iS:=not_spec hc aY l (by omega) f (by omega);have bv:Zdr s1 a≠(M:Int)∨Zdr s1 b≠(M:Int):=eS.elim (fun hp=>.inl (by rw[pla];exact ZiE hi hc hy aI gY bY ea hp)) (fun hp=>.inr (by rw[plb];exact ZiE hi hc hy aI aP fD eb hp));obtain⟨c,s',k1,k2,k3,k4,k5⟩:=ZgH hc aY hy aI b1 b2 iS (ih l (by omega) (by omega)) (ih r (by omega) (by omega)) g2.tree aU (by omega) bv gY aP (by omega) (by omega) (by rw[sa];exact si) (by rw[sb];exact dF) fC;exact⟨c,s',k1,g2.trans k2,k3,fun x=>by rw[k4,sa,sb],by omega⟩
   ·-- both lie at one leaf: then they are equal,or each other's negation
    exfalso
    have qa:=m1.leaf hc hy aI;have qb:=m2.leaf hc hy aI
    have lit:∀i,2≤i→(fl:i<s.nodes.length)→(s.nodes[i]).pl=(M:Int)→Zde s.tree s.nodes[i]:=fun i h2 fl bv=>by
     rcases hi.ok i _ h2 (Zpl fl) with hl|hk
     ·exact hl
     ·obtain⟨P',y',_,_,e1,e2,e3,_⟩:=hk.parts
      have:P'=M:=by omega
      subst this;rw[hy]at e2;cases e2;rw[aI]at e3;cases e3
    have pq:=lit a gY ha (by omega);have pt:=lit b aP hb (by omega);obtain⟨u1,z1,c1,c2,c3,c4⟩:=pq.leaf;obtain⟨u2,z2,d1,d2,d3,d4⟩:=pt.leaf;have:u1=u2:=by omega
    subst this;rw[c2]at d2;cases d2;have fI:(s.nodes[a]).lit.natAbs=(s.nodes[b]).lit.natAbs:=by omega
    by_cases lK:decide (0<(s.nodes[a]).lit)=decide (0<(s.nodes[b]).lit)
    ·exact h0 (.inr (hi.canon ha hb (funext fun x=>by rw[hi.semLit bY pq,hi.semLit fD pt,fI,lK])))
    ·refine aH (cw.canon g3 (by omega) (funext fun x=>?_))
     rw[g4,sb]
     show (!sem s.nodes a x)=_
     rw[hi.semLit bY pq,hi.semLit fD pt,fI]
     revert lK
     cases decide (0<(s.nodes[a]).lit) <;> cases decide (0<(s.nodes[b]).lit) <;> cases x ((s.nodes[b]).lit.natAbs:Int) <;> simp
theorem Zkd{t:List VN}(hc:Zad t=0)(aY:t.length≤11){v:Nat}(hv:v<t.length){f:Nat}(hf:v+3≤f){s:St}{a b:Nat}(ht:s.tree=t)(hR:Room s (cl (nv t v)))(ha:a<s.nodes.length)(hb:b<s.nodes.length)
  (cU:Dep (Bel t v) (sem s.nodes a)) (cQ:Dep (Bel t v) (sem s.nodes b)) (eS:Leafy t (sem s.nodes a)∨Leafy t (sem s.nodes b)):Did s (cl (nv t v)) (fun x=>sem s.nodes a x && sem s.nodes b x) (ZhD f s a b):=by
 obtain⟨f,rfl⟩:∃g,f=g+1:=⟨f - 1,by omega⟩;rw[ZhD];have tV:∀m,m<v→m<t.length→Zir t m (ca (nv t m)) (ZhD f):=fun m h1 h2=>and_spec hc aY m h2 f (by omega)
 split
 ·have:=Zd0 hc aY hv (f:=f) (by omega) tV ht hR (a:=b) (b:=a) (by omega) ha cQ cU eS.symm
  rw[show (fun x=>sem s.nodes a x && sem s.nodes b x)=fun x=>sem s.nodes b x && sem s.nodes a x from funext fun x=>Bool.and_comm ..];exact this
 ·exact Zd0 hc aY hv (f:=f) (by omega) tV ht hR (by omega) hb cU cQ eS
theorem ZkY{t:List VN}{φ:Asg→Bool}(h:Leafy t φ):Leafy t (fun x=>!φ x):=by
 obtain⟨u,y,h1,h2,h3⟩:=h;exact⟨u,y,h1,h2,fun p q et=>by show (!φ p)=(!φ q);rw[h3 p q et]⟩
theorem orL_spec{t:List VN}(hc:Zad t=0)(aY:t.length≤11){v:Nat}(hv:v<t.length){f:Nat}(hf:v+3≤f){s:St}{a b:Nat}(ht:s.tree=t)(hR:Room s (3*cn (nv t v)+cl (nv t v)))(eQ:a<s.nodes.length)(iP:b<s.nodes.length)
  (cU:Dep (Bel t v) (sem s.nodes a)) (cQ:Dep (Bel t v) (sem s.nodes b)) (eS:Leafy t (sem s.nodes b)):Did s (3*cn (nv t v)+cl (nv t v)) (fun x=>sem s.nodes a x || sem s.nodes b x) (orF (Zlb f) (ZhD f) s a b):=by
 have hn:=not_spec hc aY v hv f (by omega);have hi:=hR.inv;obtain⟨x,s1,h1,h2,h3,h4,h5⟩:=hn s a ht (hR.less (by omega)) eQ cU;have aS:=h2.sem hi iP;obtain⟨y,s2,g1,g2,g3,g4,g5⟩:=hn s1 b (h2.tree.trans ht) (hR.next h2 h5 (m:=cn (nv t v)) (by omega)) (by have:=h2.len;omega) (by rw[aS];exact cQ);have aF:=g2.sem h2.inv h3;have bg:=h2.trans g2;have hx:∀z,sem s2.nodes x z= !sem s.nodes a z:=fun z=>by rw[aF];exact h4 z
 have hy:∀z,sem s2.nodes y z= !sem s.nodes b z:=fun z=>by rw[g4];show (!_)=_;rw[aS]
 obtain⟨w,s3,k1,k2,k3,k4,k5⟩:=Zkd hc aY hv hf (a:=x) (b:=y) (bg.tree.trans ht) (hR.next bg (c:=2*cn (nv t v)) (m:=cl (nv t v)) (by omega) (by omega)) (by have:=g2.len;omega) g3
  (fun p q et=>by rw[hx,hx,cU p q et]) (fun p q et=>by rw[hy,hy,cQ p q et]) (.inr (by rw[show sem s2.nodes y=fun z=>!sem s.nodes b z from funext hy];exact ZkY eS))
 have hw:∀z,sem s3.nodes w z=(!sem s.nodes a z && !sem s.nodes b z):=fun z=>by rw[k4];show (sem s2.nodes x z && sem s2.nodes y z)=_;rw[hx,hy]
 have iY:=bg.trans k2
 obtain⟨e,s4,m1,m2,m3,m4,m5⟩:=hn s3 w (iY.tree.trans ht) (hR.next iY (c:=2*cn (nv t v)+cl (nv t v)) (m:=cn (nv t v)) (by omega) (by omega)) k3
  (fun p q et=>by rw[hw,hw,cU p q et,cQ p q et])
 refine⟨e,s4,?_,iY.trans m2,m3,fun z=>?_,by omega⟩
 ·unfold orF
  rw[h1];simp only;rw[g1];simp only;rw[k1];simp only;exact m1
 ·rw[m4]
  show (!sem s3.nodes w z)=(sem s.nodes a z || sem s.nodes b z)
  rw[hw]
  cases sem s.nodes a z <;> cases sem s.nodes b z <;> rfl
end Go.Proofs.YtmnjakejhbpkoaaGreatDoor.L
namespace Go.Proofs.YtmnjakejhbpkoaaGreatDoor.L
theorem Und.kid_of{t:List VN}(h:Zad t=0){u:Nat}(hu:u+1<t.length):∃(y:VN) (l r:Nat),t[pa t u]? =some y∧Zaj y=false∧y.left=l∧y.right=r∧(l=u∨r=u):=by
 obtain⟨y,h1,h2,h3⟩:=Zev h hu;obtain⟨l,r,e1,e2,_⟩:=inner_ok h h1 h2;exact⟨y,l,r,h1,h2,e1,e2,by omega⟩
theorem cnt_up{t:List VN}(h:Zad t=0){v u:Nat}(hv:v<t.length)(hu:Und t v u){φ:Asg→Bool}:∀(_:Dep (Bel t u) φ),nv t u≤nv t v∧cnt (vl t v) φ=2 ^ (nv t v - nv t u)*cnt (vl t u) φ:=by
 induction hu with
 | refl=>intro _;exact⟨ZpD _,by rw[Nat.sub_self,Nat.pow_zero,Nat.one_mul]⟩
 | @step u h1 h2 ih =>
   intro hd;obtain⟨y,l,r,g1,g2,g3,g4,g5⟩:=Und.kid_of h h1;have iT:=nv_inner h g1 g2 g3 g4;have bh:=ZcY h g1 g2 g3 g4;have hk:=Bel.kids h g1 g2 g3 g4;obtain⟨i1,i2⟩:=ih (hd.mono fun x hx=>(hk x).2 (g5.elim (fun e=>.inl (e ▸ hx)) fun e=>.inr (e ▸ hx)));have bv:pa t u<t.length:=(Zpj g1).1;obtain⟨l',r',e1,e2,b1,b2,_⟩:=inner_ok h g1 g2;have el:l'=l:=by omega
   have er:r'=r:=by omega
   subst el;subst er;have dO:∀x,x∈vl t l'→¬ Bel t r' x:=fun x hx bn=>Bel.apart h g1 g2 g3 g4 ((Zb4 h l' (by omega) x).1 hx) bn
   have wN:∀x,x∈vl t r'→¬ Bel t l' x:=fun x hx bn=>Bel.apart h g1 g2 g3 g4 bn ((Zb4 h r' (by omega) x).1 hx)
   rcases g5 with rfl|rfl
   ·have e:cnt (vl t (pa t l')) φ=2 ^ nv t r'*cnt (vl t l') φ:=by
     rw[bh,cnt_perm List.perm_append_comm,Zix _ _ φ hd wN];rfl
    refine⟨by omega,?_⟩;rw[i2,e,←Nat.mul_assoc,←Nat.pow_add,show nv t v - nv t (pa t l')+nv t r'=nv t v - nv t l' by omega]
   ·have e:cnt (vl t (pa t r')) φ=2 ^ nv t l'*cnt (vl t r') φ:=by
     rw[bh,Zix _ _ φ hd dO];rfl
    refine⟨by omega,?_⟩;rw[i2,e,←Nat.mul_assoc,←Nat.pow_add,show nv t v - nv t (pa t r')+nv t l'=nv t v - nv t r' by omega]
def sumC(t:List VN)(ns:List Zaf)(l r:Nat)(el:List (Nat × Nat)):Nat:=(el.map fun p=>cnt (vl t l) (sem ns p.1)*cnt (vl t r) (sem ns p.2)).sum
theorem cnt_parts{t:List VN}(h:Zad t=0){P:Nat}{y:VN}{l r:Nat}(hy:t[P]? =some y)(aI:Zaj y=false)(hl:y.left=l)(hr:y.right=r){ns:List Zaf}{el:List (Nat × Nat)}(hp:∀p∈el,Dep (Bel t l) (sem ns p.1))(hs:∀p∈el,Dep (Bel t r) (sem ns p.2))
  (hd:el.Pairwise fun p q=>∀x,¬ (sem ns p.1 x=true∧sem ns q.1 x=true)):cnt (vl t P) (fun x=>el.any fun p=>sem ns p.1 x && sem ns p.2 x)=sumC t ns l r el:=by
 obtain⟨l',r',e1,e2,b1,b2,_⟩:=inner_ok h hy aI;have tl:P<t.length:=(Zpj hy).1;have iN:l'=l:=by omega
 have er:r'=r:=by omega
 subst iN;subst er;rw[ZcY h hy aI hl hr,Zkq _ (fun p x=>sem ns p.1 x && sem ns p.2 x) el (hd.imp fun {a b} bA x hx=>bA x ⟨(Zpx _ _ ▸ hx.1).1,(Zpx _ _ ▸ hx.2).1⟩)];unfold sumC
 congr 1
 refine List.map_congr_left fun p ep=>?_
 exact Zf4 (S:=Bel t r') _ _ _ _ (fun x y dH=>hp p ep x y fun v hv=>dH v ((Zb4 h l' (by omega) v).2 hv)) (hs p ep) (fun v hv fo=>Bel.apart h hy aI hl hr ((Zb4 h l' (by omega) v).1 hv) fo)
theorem sumC_le{t:List VN}(ns:List Zaf)(l r:Nat):∀(a b:List (Nat × Nat)),sumC t ns l r a≤sumC t ns l r (a++b)
 | a,b=>by unfold sumC;rw[List.map_append,List.sum_append];omega
theorem sumC_snoc{t:List VN}(ns:List Zaf)(l r:Nat)(a:List (Nat × Nat))(p:Nat × Nat):sumC t ns l r (a++[p])=sumC t ns l r a+cnt (vl t l) (sem ns p.1)*cnt (vl t r) (sem ns p.2):=by
 unfold sumC;rw[List.map_append,List.sum_append];simp
theorem cnt_leaf{t:List VN}{P:Nat}{y:VN}(hy:t[P]? =some y)(aI:Zaj y=true)(b:Bool):cnt (vl t P) (fun x=>x y.var ==b)=1:=by
 rw[ZdY hy aI];exact Znm _ _
theorem sorted_perm{t:List VN}(hc:Zad t=0){v:Nat}(hv:v<t.length){l:List Int}(h:SortedBel t v l):l.Perm (vl t v):=by
 rw[List.perm_ext_iff_of_nodup (sorted_nodup h.sorted) (Zi7 hc v hv)];intro x;rw[h.mem,Zb4 hc v hv]
end Go.Proofs.YtmnjakejhbpkoaaGreatDoor.L
namespace Go.Proofs.YtmnjakejhbpkoaaGreatDoor.L
def setK(l:List Int)(k:Nat):Nat→Zak
 | 0=>0
 | n+1=>if k.testBit n=true then ZaA (setK l k n) (l.getD n 0) else setK l k n
theorem hasS_zero(v:Int):Zau 0 v=false:=by
 unfold Zau;rw[show (0:Zak).getLsbD (v - 1).toNat=false from BitVec.getLsbD_zero,Bool.and_false]
theorem hasS_with(s:Zak)(u v:Int):Zau (ZaA s u) v=(Zau s v || (decide (u=v) && decide (1≤v) && decide (v≤128))):=by
 unfold ZaA
 split
 ·rename_i h
  unfold Zau;rw[BitVec.getLsbD_or,BitVec.getLsbD_twoPow]
  by_cases h1:1≤v
  ·by_cases h2:v≤128
   ·by_cases e:u=v
    ·subst e
     simp only[Zpv h1,Zpv h2,Bool.true_and,decide_true,Bool.and_true];rw[Zpv (show (u - 1).toNat<128 by omega)]
    ·have:¬ (u - 1).toNat=(v - 1).toNat:=by omega
     rw[Zpu this,Zpu e];simp
   ·simp[h2]
  ·simp[h1]
 ·rename_i h
  by_cases e:u=v
  ·subst e
   by_cases h1:1≤u
   ·have:¬ u≤128:=fun h2=>h ⟨h1,h2⟩
    simp[this]
   ·simp[h1]
  ·simp[e]
theorem Zle:∀(l:List Int) (k:Nat) (v:Int),v∉l→nth l k v=false
 | [],_,_,_=>rfl
 | u :: l,k,v,h=>by
   have aH:v≠u:=by rintro rfl;exact h (Zpy ..)
   rw[nth,upd,if_neg aH];exact Zle l _ v fun hv=>h (Zpn _ hv)
theorem Zld:∀(l:List Int) (k i:Nat) (hi:i<l.length),l.Nodup→nth l k l[i]=k.testBit i
 | [],_,_,hi,_=>absurd hi (Nat.not_lt_zero _)
 | u :: l,k,0,_,_=>by
   rw[nth,upd,List.getElem_cons_zero,if_pos rfl,Nat.testBit_zero]
   cases h:decide (k % 2=1) <;> simp_all
 | u :: l,k,i+1,hi,hn=>by
   have kO:i<l.length:=by simpa using hi
   have hu:l[i]≠u:=fun e=>(List.nodup_cons.1 hn).1 (e ▸ Zpz kO)
   rw[nth,upd,List.getElem_cons_succ,if_neg hu,Zld l (k / 2) i kO (List.nodup_cons.1 hn).2,Nat.testBit_succ]
theorem ZgS{l:List Int}{k:Nat}{v:Int}:∀ {n:Nat},n≤l.length→(Zau (setK l k n) v=true↔∃i,∃hi:i<l.length,i<n∧l[i]=v∧k.testBit i=true∧1≤v∧v≤128)
 | 0,_=>by
   rw[setK,hasS_zero];exact⟨fun h=>(by cases h),fun ⟨i,_,h,_⟩=>absurd h (Nat.not_lt_zero _)⟩
 | n+1,hn=>by
   have hl:n<l.length:=by omega
   have e:l.getD n 0=l[n]:=by rw[Zpt,Zpl hl];rfl
   have ih:=ZgS (l:=l) (k:=k) (v:=v) (n:=n) (by omega);rw[setK]
   by_cases hb:k.testBit n=true
   ·rw[if_pos hb,hasS_with,e,Bool.or_eq_true,ih]
    simp only[Zpx,ZpA]
    constructor
    ·rintro(⟨i,hi,h1,h2⟩|⟨⟨h1,h2⟩,h3⟩)
     ·exact⟨i,hi,by omega,h2⟩
     ·exact⟨n,hl,by omega,h1,hb,h2,h3⟩
    ·rintro⟨i,hi,h1,h2,h3,h4,h5⟩
     by_cases ei:i=n
     ·subst ei;exact .inr ⟨⟨h2,h4⟩,h5⟩
     ·exact .inl ⟨i,hi,by omega,h2,h3,h4,h5⟩
   ·rw[if_neg hb,ih]
    constructor
    ·rintro⟨i,hi,h1,h2⟩;exact⟨i,hi,by omega,h2⟩
    ·rintro⟨i,hi,h1,h2,h3,h4⟩
     have:i≠n:=fun e=>hb (e ▸ h3)
     exact⟨i,hi,by omega,h2,h3,h4⟩
theorem asg_setK{l:List Int}(hn:l.Nodup)(hr:∀v∈l,1≤v∧v≤128)(k:Nat):asg (setK l k l.length)=nth l k:=by
 funext v
 unfold asg;rw[Bool.eq_iff_iff,ZgS (ZpD _)]
 constructor
 ·rintro⟨i,hi,_,rfl,h3,_⟩
  rw[Zld l k i hi hn];exact h3
 ·intro h
  by_cases hv:v∈l
  ·obtain⟨i,hi,rfl⟩:=List.getElem_of_mem hv
   rw[Zld l k i hi hn]at h;exact⟨i,hi,hi,rfl,h,(hr _ hv).1,(hr _ hv).2⟩
  ·rw[Zle l k v hv]at h;cases h
end Go.Proofs.YtmnjakejhbpkoaaGreatDoor.L
namespace Go.Proofs.YtmnjakejhbpkoaaGreatDoor.L
def validB(n l:Int):Bool:=decide (l≠0) && (decide (-n≤l) && decide (l≤n))
def clChk(n:Int)(c:List Int):Int:=if 128<c.length then 2 else if c.all (validB n)=true then 0 else 1
def scanChk(n:Int):List (List Int)→Int
 | []=>0
 | c :: r=>if clChk n c=0 then scanChk n r else clChk n c
def thChk(n:Int)(T:List (List Int)):Int:=if n<0∨128<n then 6 else if 4096<T.length then 2 else scanChk n T
theorem clChk_ok{n:Int}{c:List Int}:clChk n c=0↔c.length≤128∧∀l∈c,validB n l=true:=by
 unfold clChk
 by_cases h:128<c.length
 ·rw[if_pos h];simp;omega
 ·rw[if_neg h]
  by_cases h2:c.all (validB n)=true
  ·rw[if_pos h2];exact⟨fun _=>⟨by omega,List.all_eq_true.1 h2⟩,fun _=>rfl⟩
  ·rw[if_neg h2];exact⟨fun e=>(by cases e),fun e=>absurd (List.all_eq_true.2 e.2) h2⟩
theorem scanChk_ok{n:Int}:∀ {T:List (List Int)},scanChk n T=0↔∀c∈T,c.length≤128∧∀l∈c,validB n l=true
 | []=>⟨fun _ c hc=>(by cases hc),fun _=>rfl⟩
 | c :: r=>by
   rw[scanChk]
   by_cases h:clChk n c=0
   ·rw[if_pos h,scanChk_ok,List.forall_mem_cons]
    exact⟨fun hr=>⟨clChk_ok.1 h,hr⟩,fun hr=>hr.2⟩
   ·rw[if_neg h]
    exact⟨fun e=>absurd e h,fun e=>absurd (clChk_ok.2 (e c (Zpy ..))) h⟩
theorem thChk_ok{n:Int}{T:List (List Int)}:thChk n T=0↔(0≤n∧n≤128)∧T.length≤4096∧∀c∈T,c.length≤128∧∀l∈c,validB n l=true:=by
 unfold thChk
 by_cases h:n<0∨128<n
 ·rw[if_pos h];exact⟨fun e=>(by cases e),fun e=>by omega⟩
 ·rw[if_neg h]
  by_cases h2:4096<T.length
  ·rw[if_pos h2];exact⟨fun e=>(by cases e),fun e=>by omega⟩
  ·rw[if_neg h2,scanChk_ok]
   exact⟨fun e=>⟨by omega,by omega,e⟩,fun e=>e.2.2⟩
theorem validB_range{n l:Int}(hn:n≤128)(h:validB n l=true):1≤(l.natAbs:Int)∧(l.natAbs:Int)≤n∧(l.natAbs:Int)≤128:=by
 unfold validB at h;simp only[Zpx,ZpA]at h;omega
def clVars(s:Zak)(c:List Int):Zak:=c.foldl (fun s l=>ZaA s (l.natAbs:Int)) s
def thVars(T:List (List Int)):Zak:=T.foldl clVars 0
theorem ZeR(v:Int):∀(c:List Int) (s:Zak),Zau (clVars s c) v=true↔Zau s v=true∨∃l∈c,(l.natAbs:Int)=v∧1≤v∧v≤128
 | [],s=>⟨fun h=>.inl h,fun h=>h.elim id (fun ⟨_,h,_⟩=>by cases h)⟩
 | l :: c,s=>by
   have:=ZeR v c (ZaA s (l.natAbs:Int))
   show Zau (clVars (ZaA s (l.natAbs:Int)) c) v=true↔_
   rw[this,hasS_with,Bool.or_eq_true];simp only[Zpx,ZpA,List.mem_cons]
   constructor
   ·rintro((h|⟨⟨h1,h2⟩,h3⟩)|⟨m,hm,h⟩)
    ·exact .inl h
    ·exact .inr ⟨l,.inl rfl,h1,h2,h3⟩
    ·exact .inr ⟨m,.inr hm,h⟩
   ·rintro(h|⟨m,rfl|hm,h⟩)
    ·exact .inl (.inl h)
    ·exact .inl (.inr ⟨⟨h.1,h.2.1⟩,h.2.2⟩)
    ·exact .inr ⟨m,hm,h⟩
theorem ZgR(v:Int):∀(T:List (List Int)) (s:Zak),Zau (T.foldl clVars s) v=true↔Zau s v=true∨∃c∈T,∃l∈c,(l.natAbs:Int)=v∧1≤v∧v≤128
 | [],s=>⟨fun h=>.inl h,fun h=>h.elim id (fun ⟨_,h,_⟩=>by cases h)⟩
 | c :: r,s=>by
   rw[List.foldl_cons,ZgR v r (clVars s c),ZeR];simp only[List.mem_cons]
   constructor
   ·rintro((h|⟨l,hl,h⟩)|⟨d,hd,h⟩)
    ·exact .inl h
    ·exact .inr ⟨c,.inl rfl,l,hl,h⟩
    ·exact .inr ⟨d,.inr hd,h⟩
   ·rintro(h|⟨d,rfl|hd,h⟩)
    ·exact .inl (.inl h)
    ·exact .inl (.inr h)
    ·exact .inr ⟨d,hd,h⟩
theorem hasS_thVars(T:List (List Int))(v:Int):Zau (thVars T) v=true↔∃c∈T,∃l∈c,(l.natAbs:Int)=v∧1≤v∧v≤128:=by
 unfold thVars;rw[ZgR,hasS_zero];exact⟨fun h=>h.elim (fun h=>by cases h) id,.inr⟩
def liφ (l:Int):Asg→Bool:=fun x=>x (l.natAbs:Int) ==decide (0<l)
def clφ (c:List Int):Asg→Bool:=fun x=>c.any fun l=>liφ l x
def thφ (T:List (List Int)):Asg→Bool:=fun x=>T.all fun c=>clφ c x
theorem clφ_snoc(c:List Int)(l:Int)(x:Asg):clφ (c++[l]) x=(clφ c x || liφ l x):=by simp[clφ]
theorem thφ_snoc(T:List (List Int))(c:List Int)(x:Asg):thφ (T++[c]) x=(thφ T x && clφ c x):=by simp[thφ]
end Go.Proofs.YtmnjakejhbpkoaaGreatDoor.L
