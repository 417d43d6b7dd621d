import Derived.Test.YtmnjakejhbpkoaaGreatDoorVLaw1
import Derived.Test.YtmnjakejhbpkoaaGreatDoorVText
import Derived.Test.YtmnjakejhbpkoaaGreatDoorVRef3
set_option linter.unusedSimpArgs false
set_option linter.unusedVariables false
set_option maxRecDepth 100000
namespace Go.Proofs.YtmnjakejhbpkoaaGreatDoor.L
theorem Zmm:((List.range 257).all fun k=>decide (0<(Lib.itoa ((k:Int) - 128)).length) && decide ((Lib.itoa ((k:Int) - 128)).length≤4))=true:=by kernel_rfl
theorem ZjB(v:Int)(h:-128≤v∧v≤128):0<(Lib.itoa v).length∧(Lib.itoa v).length≤4:=by
 have:=List.all_eq_true.1 Zmm (v+128).toNat (List.mem_range.2 (by omega));rw[show (((v+128).toNat:Nat):Int) - 128=v by omega]at this;simpa using this
end Go.Proofs.YtmnjakejhbpkoaaGreatDoor.L
namespace Go.Proofs.YtmnjakejhbpkoaaGreatDoor.L
def Zdn (g:Nat→List UInt8):List (Nat × Nat)→List UInt8
 | []=>[]
 | p :: r=>(g p.1++[32]++g p.2)++(r.flatMap fun q=>[59,32]++(g q.1++[32]++g q.2))
def txF:Nat→List Zaf→Nat→List UInt8
 | 0,_,_=>[]
 | f+1,ns,a=>match ns[a]? with
   | none=>[]
   | some n=>if n.el=[] then (if n.lit≠0 then Lib.itoa n.lit else if a=1 then [84] else [70]) else [40]++Zdn (txF f ns) n.el++[41]
def tx (ns:List Zaf)(a:Nat):List UInt8:=txF (a+1) ns a
theorem Zc6{g h:Nat→List UInt8}:∀ {l:List (Nat × Nat)},(∀p∈l,g p.1=h p.1∧g p.2=h p.2)→Zdn g l=Zdn h l
 | [],_=>rfl
 | p :: r,hh=>by
   have h0:=hh p (Zpy ..);rw[Zdn,Zdn,h0.1,h0.2]
   congr 1
   have:∀(k:List (Nat × Nat)),(∀p∈k,g p.1=h p.1∧g p.2=h p.2)→(k.flatMap fun q=>[59,32]++(g q.1++[32]++g q.2))=k.flatMap fun q=>[59,32]++(h q.1++[32]++h q.2):=by
    intro k
    induction k with
    | nil=>intro _;rfl
    | cons q k ih =>
      intro hk;have h1:=hk q (Zpy ..);rw[List.flatMap_cons,List.flatMap_cons,ih fun p hp=>hk p (Zpn _ hp),h1.1,h1.2]
   exact this r fun p hp=>hh p (Zpn _ hp)
theorem Zi4{ns:List Zaf}(hk:Kids ns):∀(a f g:Nat),a<f→a<g→txF f ns a=txF g ns a:=by
 intro a
 induction a using Nat.strongRecOn with
 | ind a ih =>
   intro f g hf hg;obtain⟨f,rfl⟩:∃f',f=f'+1:=⟨f - 1,by omega⟩;obtain⟨g,rfl⟩:∃g',g=g'+1:=⟨g - 1,by omega⟩;rw[txF,txF]
   cases hn:ns[a]? with
   | none=>rfl
   | some n =>
     simp only
     split
     ·rfl
     ·rw[Zc6 fun p hp=>?_]
      obtain⟨h1,h2⟩:=hk a n hn p hp;exact⟨ih p.1 h1 f g (by omega) (by omega),ih p.2 h2 f g (by omega) (by omega)⟩
theorem Zbh{ns:List Zaf}(hk:Kids ns){a:Nat}{n:Zaf}(hn:ns[a]? =some n):tx ns a=if n.el=[] then (if n.lit≠0 then Lib.itoa n.lit else if a=1 then [84] else [70]) else [40]++Zdn (tx ns) n.el++[41]:=by
 rw[tx,txF,hn];simp only
 split
 ·rfl
 ·rw[Zc6 fun p hp=>?_]
  obtain⟨h1,h2⟩:=hk a n hn p hp;exact⟨Zi4 hk p.1 a (p.1+1) h1 (by omega),Zi4 hk p.2 a (p.2+1) h2 (by omega)⟩
def tB (n:Nat):Nat:=if n≤1 then 4 else if n=2 then 24 else if n=3 then 126 else if n=4 then 1066 else if n=5 then 17170 else 549666
theorem Zi3{nl nr:Nat}(h1:1≤nl)(h2:1≤nr)(h6:nl+nr≤6):2 ^ nl*(tB nl+tB nr+3)+2≤tB (nl+nr):=by
 have hl:nl=1∨nl=2∨nl=3∨nl=4∨nl=5:=by omega
 rcases hl with rfl|rfl|rfl|rfl|rfl <;> (have hr:nr=1∨nr=2∨nr=3∨nr=4∨nr=5:=by omega) <;> rcases hr with rfl|rfl|rfl|rfl|rfl <;> first|omega|decide
theorem Zij{a b:Nat}(h:a≤b):tB a≤tB b:=by
 unfold tB
 repeat' split
 all_goals omega
theorem ZgU(g:Nat→List UInt8)(b c:Nat):∀(l:List (Nat × Nat)),(∀p∈l,(g p.1).length≤b∧(g p.2).length≤c)→(Zdn g l).length≤l.length*(b+c+3)
 | [],_=>Nat.zero_le _
 | p :: r,hh=>by
   have h0:=hh p (Zpy ..)
   have:∀(k:List (Nat × Nat)),(∀p∈k,(g p.1).length≤b∧(g p.2).length≤c)→(k.flatMap fun q=>[59,32]++(g q.1++[32]++g q.2)).length≤k.length*(b+c+3):=by
    intro k
    induction k with
    | nil=>intro _;exact Nat.zero_le _
    | cons q k ih =>
      intro hk;have h1:=hk q (Zpy ..);have h2:=ih fun p hp=>hk p (Zpn _ hp)
      rw[List.flatMap_cons,Zpo,ZpC,Nat.succ_mul];simp only[Zpo,ZpC,List.length_nil];omega
   have h2:=this r fun p hp=>hh p (Zpn _ hp)
   rw[Zdn,Zpo,ZpC,Nat.succ_mul];simp only[Zpo,ZpC,List.length_nil];omega
theorem Zm0{s:St}(h:Inv s)(aY:s.tree.length≤11):∀(a:Nat),a<s.nodes.length→∀v,v<s.tree.length→Dep (Bel s.tree v) (sem s.nodes a)→0<(tx s.nodes a).length∧(tx s.nodes a).length≤tB (nv s.tree v):=by
 intro a
 induction a using Nat.strongRecOn with
 | ind a ih =>
   intro ha v hv hd;have hn:=Zpl ha;have np:=nv_pos h.tree v hv;have dX:4≤tB (nv s.tree v):=Zpp (by decide:4≤tB 1) (Zij np);have hk:=h.kids;rcases h.kind ha with rfl|rfl|⟨h2,n,bt,hl|iw⟩
   ·rw[Zbh hk h.zero];simp[constN];omega
   ·rw[Zbh hk h.one];simp[constN];omega
   ·rw[Zbh hk bt,if_pos hl.el,if_pos hl.lit]
    obtain⟨u,y,h1,h2,h3,h4⟩:=hl.leaf;simp only[Zaj,Zpx,ZpA]at h3;have:=ZjB n.lit (by omega);omega
   ·obtain⟨Q,q1,q2,q3⟩:=h.at_und h2 bt hd
    obtain⟨P,y,l,r,e1,e2,e3,e4,e5,e6,_⟩:=h.facts bt iw;have qF:Q=P:=by omega
    subst qF;obtain⟨l',r',b1,b2,b3,b4,b5,_⟩:=inner_ok h.tree e2 e3;obtain rfl:l'=l:=by omega
    obtain rfl:r'=r:=by omega
    have iT:=nv_inner h.tree e2 e3 e4 e5;have ju:=nv_pos h.tree l' (by omega);have kS:=nv_pos h.tree r' (by omega);have n6:=nv_le h.tree q2;have gz:=e6.len_l h.tree (by omega);have aH:n.el≠[]:=fun e=>by have:=e6.two;rw[e]at this;simp at this
    rw[Zbh hk bt,if_neg aH]
    have hj:=ZgU (tx s.nodes) (tB (nv s.tree l')) (tB (nv s.tree r')) n.el (fun p hp=>by
     have:=iw.kids p hp;exact⟨(ih p.1 (by omega) (by omega) l' (by omega) (e6.pdep p hp)).2,(ih p.2 (by omega) (by omega) r' (by omega) (e6.sdep p hp)).2⟩)
    have hs:=Zi3 ju kS (by omega);have hm:=Nat.mul_le_mul_right (tB (nv s.tree l')+tB (nv s.tree r')+3) gz;have sW:=Zij (q3.nv_le h.tree);rw[iT]at sW;simp only[Zpo,ZpC,List.length_nil]
    constructor
    ·omega
    ·omega
def Zef (ns:List Zaf)(m:List (Nat × List UInt8)):Prop:=∀a t,asc m a=some t→t=tx ns a
theorem Zku(m:List (Nat × List UInt8))(l:List (Nat × Nat)):ZoI m l=Zdn (ZbF m) l:=by cases l <;> rfl
theorem Zef.ascTx{ns:List Zaf}{m:List (Nat × List UInt8)}(h:Zef ns m){a:Nat}{t:List UInt8}(ha:asc m a=some t):ZbF m a=tx ns a:=by
 unfold ZbF;rw[ha];exact h a t ha
def Zjb (m m':List (Nat × List UInt8)):Prop:=∀a t,asc m a=some t→asc m' a=some t
theorem Zi8{ns:List Zaf}{g:Nat→List (Nat × List UInt8)→Option (List (Nat × List UInt8))}{b c:Nat}(hb:b≤1048576)(hc:c≤1048576):∀(l:List (Nat × Nat)) (m:List (Nat × List UInt8)) (z:Nat),
  (∀p∈l,∀m,Zef ns m→∃m',g p.1 m=some m'∧Zef ns m'∧Zjb m m'∧∃t,asc m' p.1=some t)→(∀p∈l,∀m,Zef ns m→∃m',g p.2 m=some m'∧Zef ns m'∧Zjb m m'∧∃t,asc m' p.2=some t) →
  (∀p∈l,(tx ns p.1).length≤b∧(tx ns p.2).length≤c)→Zef ns m →
  ∃m' z',wrL g l m z=some (m',z')∧Zef ns m'∧Zjb m m'∧z'≤z+l.length*(b+c+3)∧∀p∈l,(∃t,asc m' p.1=some t)∧∃t,asc m' p.2=some t
 | [],m,z,_,_,_,hm=>⟨m,z,rfl,hm,fun _ _ h=>h,by simp,fun _ h=>by cases h⟩
 | p :: r,m,z,h1,h2,h3,hm=>by
   obtain⟨m1,a1,a2,a3,t1,a4⟩:=h1 p (Zpy ..) m hm;obtain⟨m2,b1,b2,b3,t2,b4⟩:=h2 p (Zpy ..) m1 a2;have l3:=h3 p (Zpy ..);have e1:=b2.ascTx (b3 _ _ a4);have e2:=b2.ascTx b4;obtain⟨m',z',c1,c2,c3,c4,c5⟩:=Zi8 hb hc r m2 (z+((tx ns p.1).length+(tx ns p.2).length+3)) (fun q hq=>h1 q (Zpn _ hq)) (fun q hq=>h2 q (Zpn _ hq)) (fun q hq=>h3 q (Zpn _ hq)) b2;refine⟨m',z',?_,c2,fun a t h=>c3 _ _ (b3 _ _ (a3 _ _ h)),?_,fun q hq=>?_⟩
   ·rw[wrL,a1];simp only
    rw[b1];simp only;rw[e1,e2,if_pos ⟨by omega,by omega⟩];exact c1
   ·rw[ZpC,Nat.succ_mul];omega
   ·rcases List.mem_cons.1 hq with rfl|hq
    ·exact⟨⟨t1,c3 _ _ (b3 _ _ a4)⟩,t2,c3 _ _ b4⟩
    ·exact c5 q hq
theorem Zio{s:St}(h:Inv s)(aY:s.tree.length≤11):∀(a:Nat),a<s.nodes.length→∀v,v<s.tree.length→Dep (Bel s.tree v) (sem s.nodes a)→∀f,v+2≤f→∀m,Zef s.nodes m →
  ∃m',Zfn f s.nodes a m=some m'∧Zef s.nodes m'∧Zjb m m'∧∃t,asc m' a=some t:=by
 intro a
 induction a using Nat.strongRecOn with
 | ind a ih =>
   intro ha v hv hd f hf m hm;obtain⟨f,rfl⟩:∃g,f=g+1:=⟨f - 1,by omega⟩;rw[Zfn]
   cases kP:asc m a with
   | some t=>exact⟨m,rfl,hm,fun _ _ h=>h,t,kP⟩
   | none =>
     simp only;have hk:=h.kids;have hn:=Zpl ha;rw[hn];simp only;generalize s.nodes[a]=n at hn
     have dY:∀(m1:List (Nat × List UInt8)) (t:List UInt8),Zef s.nodes m1→Zjb m m1→t=tx s.nodes a→Zef s.nodes ((a,t) :: m1)∧Zjb m ((a,t) :: m1)∧∃t',asc ((a,t) :: m1) a=some t':=fun m1 t h1 h2 ht=>by
      refine⟨fun b u hb=>?_,fun b u hb=>?_,t,by rw[ZaS];exact if_pos rfl⟩
      ·rw[ZaS]at hb
       split at hb
       ·rename_i e
        cases hb
        rw[show b=a from e];exact ht
       ·exact h1 b u hb
      ·rw[ZaS,if_neg (fun e:b=a=>by rw[e,kP]at hb;cases hb)]
       exact h2 b u hb
     by_cases cG:n.el=[]
     ·rw[if_pos cG]
      obtain⟨g1,g2,g3⟩:=dY m (if n.lit≠0 then Lib.itoa n.lit else if a=1 then [84] else [70]) hm (fun _ _ h=>h) (by rw[Zbh hk hn,if_pos cG]);exact⟨_,rfl,g1,g2,g3⟩
     ·rw[if_neg cG]
      have h2:2≤a:=by
       apply ZpB
       intro aE;have:a=0∨a=1:=by omega
       rcases this with rfl|rfl
       ·rw[h.zero]at hn;cases hn;exact cG rfl
       ·rw[h.one]at hn;cases hn;exact cG rfl
      rcases h.ok a n h2 hn with hl|iw
      ·exact absurd hl.el cG
      obtain⟨Q,q1,q2,q3⟩:=h.at_und h2 hn hd;obtain⟨P,y,l,r,e1,e2,e3,e4,e5,e6,_⟩:=h.facts hn iw;have qF:Q=P:=by omega
      subst qF;obtain⟨l',r',b1,b2,b3,b4,b5,_⟩:=inner_ok h.tree e2 e3;obtain rfl:l'=l:=by omega
      obtain rfl:r'=r:=by omega
      have hQv:=q3.le h.tree;have iT:=nv_inner h.tree e2 e3 e4 e5;have ju:=nv_pos h.tree l' (by omega);have kS:=nv_pos h.tree r' (by omega);have n6:=nv_le h.tree q2;have gz:=e6.len_l h.tree (by omega);have hs:=Zi3 ju kS (by omega);have hB:tB (nv s.tree l'+nv s.tree r')≤549666:=Zij (b:=6) (by omega);have jA:=Nat.mul_le_mul_right (tB (nv s.tree l')+tB (nv s.tree r')+3) gz;have dX:=Nat.mul_le_mul_right (tB (nv s.tree l')+tB (nv s.tree r')+3) (Zgp (nv s.tree l'));rw[Nat.one_mul]at dX
      have gy:∀p∈n.el,(0<(tx s.nodes p.1).length∧(tx s.nodes p.1).length≤tB (nv s.tree l'))∧(0<(tx s.nodes p.2).length∧(tx s.nodes p.2).length≤tB (nv s.tree r')):=fun p hp=>by
       have:=iw.kids p hp;exact⟨Zm0 h aY p.1 (by omega) l' (by omega) (e6.pdep p hp),Zm0 h aY p.2 (by omega) r' (by omega) (e6.sdep p hp)⟩
      obtain⟨m1,z,g1,g2,g3,g4,g5⟩:=Zi8 (ns:=s.nodes) (g:=Zfn f s.nodes) (b:=tB (nv s.tree l')) (c:=tB (nv s.tree r')) (by omega) (by omega) n.el m 0
       (fun p hp m hm=>by have:=iw.kids p hp;exact ih p.1 (by omega) (by omega) l' (by omega) (e6.pdep p hp) f (by omega) m hm)
       (fun p hp m hm=>by have:=iw.kids p hp;exact ih p.2 (by omega) (by omega) r' (by omega) (e6.sdep p hp) f (by omega) m hm)
       (fun p hp=>⟨(gy p hp).1.2,(gy p hp).2.2⟩) hm
      rw[g1];simp only
      have o0:∀p∈n.el,ZbF m1 p.1=tx s.nodes p.1∧ZbF m1 p.2=tx s.nodes p.2:=fun p hp=>by
       obtain⟨⟨t1,k1⟩,t2,k2⟩:=g5 p hp;exact⟨g2.ascTx k1,g2.ascTx k2⟩
      have nY:Zbi m1 n.el=[40]++Zdn (tx s.nodes) n.el:=by rw[Zbi,Zku,Zc6 o0]
      have hj:=ZgU (tx s.nodes) (tB (nv s.tree l')) (tB (nv s.tree r')) n.el (fun p hp=>⟨(gy p hp).1.2,(gy p hp).2.2⟩)
      have km:z≤1048576∧(Zbi m1 n.el).length≤4194304∧(∀p∈n.el,(0<(ZbF m1 p.1).length∧(ZbF m1 p.1).length≤1048576)∧(0<(ZbF m1 p.2).length∧(ZbF m1 p.2).length≤1048576)):=by
       refine⟨by omega,?_,fun p hp=>?_⟩
       ·rw[nY]
        simp only[Zpo,ZpC,List.length_nil];omega
       ·rw[(o0 p hp).1,(o0 p hp).2]
        have:=gy p hp;omega
      rw[if_pos km];obtain⟨k1,k2,k3⟩:=dY m1 (Zbi m1 n.el++[41]) g2 g3 (by rw[Zbh hk hn,if_neg cG,nY]);exact⟨_,rfl,k1,k2,k3⟩
theorem textF_spec{s:St}(h:Inv s)(aY:s.tree.length≤11){a:Nat}(ha:a<s.nodes.length){v:Nat}(hv:v<s.tree.length)(hd:Dep (Bel s.tree v) (sem s.nodes a)){f:Nat}(hf:v+2≤f):ZmF f s.nodes a=some (tx s.nodes a):=by
 obtain⟨m',h1,h2,_,t,h3⟩:=Zio h aY a ha v hv hd f hf [] (fun _ _ h=>by cases h);unfold ZmF;rw[h1];simp only;rw[h2.ascTx h3]
theorem Zee{α β:Type}{k1:α→Zak}{k2:β→Zak}{R:α→β→Prop}(hR:∀a b,R a b→k1 a=k2 b):∀(l:List α) (m:List β),l.Pairwise (fun a b=>ZaM (k1 a) (k1 b)=true)→m.Pairwise (fun a b=>ZaM (k2 a) (k2 b)=true) →
  (∀a∈l,∃b∈m,R a b)→(∀b∈m,∃a∈l,R a b)→Zek R l m
 | [],[],_,_,_,_=>.nil
 | [],b :: m,_,_,_,h=>by obtain⟨a,ha,_⟩:=h b (Zpy ..);cases ha
 | a :: l,[],_,_,h,_=>by obtain⟨b,hb,_⟩:=h a (Zpy ..);cases hb
 | a :: l,b :: m,hl,hm,h1,h2=>by
   rw[List.pairwise_cons]at hl hm
   have bA:k1 a=k2 b:=by
    obtain⟨b',dx,r1⟩:=h1 a (Zpy ..);obtain⟨a',j8,r2⟩:=h2 b (Zpy ..);have e1:=hR _ _ r1;have e2:=hR _ _ r2;rcases List.mem_cons.1 dx with rfl|dx
    ·exact e1
    ·rcases List.mem_cons.1 j8 with rfl|j8
     ·exact e2
     ·have c1:=hm.1 b' dx
      have c2:=hl.1 a' j8;rw[e2,e1]at c2;rw[Zcg c1]at c2;cases c2
   have h0:R a b:=by
    obtain⟨b',dx,r1⟩:=h1 a (Zpy ..);rcases List.mem_cons.1 dx with rfl|dx
    ·exact r1
    ·have c1:=hm.1 b' dx
     rw[←bA,hR _ _ r1,Zbw]at c1;cases c1
   refine .cons h0 (Zee hR l m hl.2 hm.2 (fun a' j8=>?_) fun b' dx=>?_)
   ·obtain⟨b',dx,r1⟩:=h1 a' (Zpn _ j8)
    rcases List.mem_cons.1 dx with rfl|dx
    ·have c1:=hl.1 a' j8
     rw[hR _ _ r1,bA,Zbw]at c1;cases c1
    ·exact⟨b',dx,r1⟩
   ·obtain⟨a',j8,r1⟩:=h2 b' (Zpn _ dx)
    rcases List.mem_cons.1 j8 with rfl|j8
    ·have c1:=hm.1 b' dx
     rw[←hR _ _ r1,bA,Zbw]at c1;cases c1
    ·exact⟨a',j8,r1⟩
theorem ZjC{g h:Nat→List UInt8}:∀ {l m:List (Nat × Nat)},Zek (fun p q=>g p.1=h q.1∧g p.2=h q.2) l m→Zdn g l=Zdn h m
 | _,_,.nil=>rfl
 | p :: r,q :: k,.cons h0 hr=>by
   rw[Zdn,Zdn,h0.1,h0.2]
   congr 1
   have:∀(k n:List (Nat × Nat)),Zek (fun p q=>g p.1=h q.1∧g p.2=h q.2) k n→(k.flatMap fun q=>[59,32]++(g q.1++[32]++g q.2))=n.flatMap fun q=>[59,32]++(h q.1++[32]++h q.2):=by
    intro k n hh
    induction hh with
    | nil=>rfl
    | cons h1 _ ih=>rw[List.flatMap_cons,List.flatMap_cons,ih,h1.1,h1.2]
   exact this r k hr
inductive Zn4 (s s':St) (a b:Nat):Prop
 | zero:a=0→b=0→Zn4 s s' a b
 | one:a=1→b=1→Zn4 s s' a b
 | lit (n m:Zaf):2≤a→2≤b→s.nodes[a]? =some n→s'.nodes[b]? =some m→Zde s.tree n→Zde s'.tree m→n.lit=m.lit→n.pl=m.pl→Zn4 s s' a b
 | dec (n m:Zaf):2≤a→2≤b→s.nodes[a]? =some n→s'.nodes[b]? =some m→Zcr s.tree s.nodes a n→Zcr s'.tree s'.nodes b m→n.pl=m.pl →
    Zek (fun p q=>sem s.nodes p.1=sem s'.nodes q.1∧sem s.nodes p.2=sem s'.nodes q.2) n.el m.el→Zn4 s s' a b
theorem Zny{n1 n2:List Zaf}{i j:Nat}(h1:Min n1 i)(h2:Min n2 j)(e:sem n1 i=sem n2 j):ZaK n1 i=ZaK n2 j :=
 (h1.le _ (by rw[e];exact h2.sat)).antisymm (h2.le _ (by rw[←e];exact h1.sat))
theorem Inv.same{s s':St}(h:Inv s)(h':Inv s')(ht:s'.tree=s.tree){a b:Nat}(ha:a<s.nodes.length)(hb:b<s'.nodes.length)(e:sem s.nodes a=sem s'.nodes b):Zn4 s s' a b:=by
 have litc:∀ {s:St}(h:Inv s) {i:Nat}{n:Zaf},s.nodes[i]? =some n→Zde s.tree n→∀c:Bool,¬ ∀x,sem s.nodes i x=c:=fun h i n hn hl c hc=>by
  obtain⟨z1,z2,hz⟩:=const_not (fun x=>h.semLit hn hl x);exact hz (by rw[hc,hc])
 have decc:∀ {s:St}(h:Inv s) {i:Nat}{n:Zaf},s.nodes[i]? =some n→Zcr s.tree s.nodes i n→∀c:Bool,¬ ∀x,sem s.nodes i x=c:=fun h i n hn hl c hc=>by
  obtain⟨_,_,_,_,_,_,_,_,_,_,_,e1,_⟩:=h.facts hn hl;obtain⟨z1,z2,hz⟩:=e1.const_not;exact hz (by rw[hc,hc])
 have ld:∀ {s s':St}(h:Inv s) (h':Inv s') (_:s'.tree=s.tree) {i j:Nat}{n m:Zaf},s.nodes[i]? =some n→s'.nodes[j]? =some m→Zde s.tree n→Zcr s'.tree s'.nodes j m→sem s.nodes i=sem s'.nodes j→False:=fun {s s'} h h' ht {i j n m} hn hm hl hd e=>by
  obtain⟨P,y,l,r,_,hy,aI,fp,iW,_,_,e1,e2,_⟩:=h'.facts hm hd;obtain⟨u,z,hu,hz,jV,kR⟩:=hl.leaf
  have ij:Dep (Bel s'.tree u) (sem s'.nodes j):=by
   rw[←e,ht];intro x x' hx;rw[h.semLit hn hl,h.semLit hn hl,hx _ ((Bel.leaf h.tree hz jV _).2 kR.symm)]
  rw[←ht]at hz;have:=(ZbP h'.tree hy aI fp iW e1 e2 ij).leaf h'.tree hz jV;rw[this,hz]at hy
  cases hy
  rw[jV]at aI;cases aI
 rcases h.kind ha with rfl|rfl|⟨h2,n,hn,hk⟩
 ·exact .zero rfl (h'.const0 hb fun x=>by rw[←e];exact h.sem0 x)
 ·exact .one rfl (h'.const1 hb fun x=>by rw[←e];exact h.sem1 x)
 ·rcases h'.kind hb with rfl|rfl|⟨jx,m,hm,iw⟩
  ·exact .zero (h.const0 ha fun x=>by rw[e];exact h'.sem0 x) rfl
  ·exact .one (h.const1 ha fun x=>by rw[e];exact h'.sem1 x) rfl
  ·rcases hk with hl|hd
   ·rcases iw with eR|e9
    ·have ks:∀x:Asg,(x (n.lit.natAbs:Int) ==decide (0<n.lit))=(x (m.lit.natAbs:Int) ==decide (0<m.lit)):=fun x=>by
      rw[←h.semLit hn hl,←h'.semLit hm eR,e]
     have lK:decide (0<n.lit)=decide (0<m.lit):=by
      have:=ks (fun _=>true);simpa using this
     have hv:n.lit.natAbs=m.lit.natAbs:=by
      apply ZpB
      intro aH;have:=ks (fun v=>decide (v=(n.lit.natAbs:Int)));rw[lK]at this;have h2:¬ ((m.lit.natAbs:Int)=(n.lit.natAbs:Int)):=by omega
      simp only[decide_true,h2,decide_false]at this
      cases hb:decide (0<m.lit) <;> rw[hb]at this <;> simp at this
     have dU:n.lit=m.lit:=by
      have a1:=hl.lit;have a2:=eR.lit;have:(0<n.lit)↔(0<m.lit):=by simpa using lK
      omega
     obtain⟨u,z,hu,hz,jV,kR⟩:=hl.leaf;obtain⟨u',z',lw,ui,pk,po⟩:=eR.leaf;rw[ht]at ui;have:=leaf_var h.tree hz ui jV pk (by rw[kR,po,hv]);exact .lit n m h2 jx hn hm hl eR dU (by rw[hu,lw,this])
    ·exact(ld h h' ht hn hm hl e9 e).elim
   ·rcases iw with eR|e9
    ·exact(ld h' h ht.symm hm hn eR hd e.symm).elim
    ·obtain⟨P,y,l,r,hP,hy,aI,fp,iW,hp,gm,e1,e2,ij⟩:=h.facts hn hd
     obtain⟨P',y',l',r',ve,ly,oy,ph,pi,cI,gp,iX,jv,jO⟩:=h'.facts hm e9;rw[ht]at ly cI iX jv jO;have u1:=ZbP h.tree hy aI fp iW e1 e2 (by rw[e];exact jO);have u2:=ZbP h.tree ly oy ph pi iX jv (by rw[←e];exact ij);have oO:P=P':=by have:=u1.le h.tree;have:=u2.le h.tree;omega
     subst oO;rw[hy]at ly
     cases ly
     obtain rfl:l=l':=by omega
     obtain rfl:r=r':=by omega
     have ks:∀x,(n.el.any fun q=>sem s.nodes q.1 x && sem s.nodes q.2 x)=m.el.any fun q=>sem s'.nodes q.1 x && sem s'.nodes q.2 x:=fun x=>by
      rw[←h.semDec hn hd,←h'.semDec hm e9,e]
     have m1:=Zcj h.tree hy aI fp iW hp cI ks gm gp;have m2:=Zcj h.tree hy aI fp iW cI hp (fun x=>(ks x).symm) gp gm;refine .dec n m h2 jx hn hm hd e9 (by rw[hP,ve]) ?_
     have fW:∀ {s:St}(h:Inv s) {i:Nat}{n:Zaf}{l r:Nat},s.nodes[i]? =some n→Zcr s.tree s.nodes i n→ZaC s.tree s.nodes l r n.el→∀p∈n.el,Min s.nodes p.1:=fun h i n l r hn hd hp p ep=>by
      have:=hd.kids p ep;have:=(Zpj hn).1;exact h.min _ (h.ne0 (hp.pne p ep)) (by omega)
     have sT:=fW h hn hd hp;have sU:=fW h' hm e9 (by rw[ht];exact cI)
     have:=Zee (k1:=fun p:Nat × Nat=>ZaK s.nodes p.1) (k2:=fun p:Nat × Nat=>ZaK s'.nodes p.1)
      (R:=fun p q=>(p∈n.el∧q∈m.el)∧sem s.nodes p.1=sem s'.nodes q.1∧sem s.nodes p.2=sem s'.nodes q.2) (fun p q hr=>Zny (sT p hr.1.1) (sU q hr.1.2) hr.2.1) n.el m.el hd.sorted e9.sorted
      (fun p ep=>by obtain⟨q,hq,g⟩:=m1 p ep;exact⟨q,hq,⟨ep,hq⟩,g⟩) (fun q uW=>by obtain⟨p,ep,g1,g2⟩:=m2 q uW;exact⟨p,ep,⟨ep,uW⟩,g1.symm,g2.symm⟩)
     exact this.imp_mem fun _ _ _ hr=>hr.2
theorem tx_eq{s s':St}(h:Inv s)(h':Inv s')(ht:s'.tree=s.tree):∀(a b:Nat),a<s.nodes.length→b<s'.nodes.length→sem s.nodes a=sem s'.nodes b→tx s.nodes a=tx s'.nodes b:=by
 intro a
 induction a using Nat.strongRecOn with
 | ind a ih =>
   intro b ha hb e;have hk:=h.kids;have iw:=h'.kids
   cases h.same h' ht ha hb e with
   | zero ea eb=>subst ea;subst eb;rw[Zbh hk h.zero,Zbh iw h'.zero];rfl
   | one ea eb=>subst ea;subst eb;rw[Zbh hk h.one,Zbh iw h'.one];rfl
   | lit n m _ _ hn hm hl eR e1 _=>rw[Zbh hk hn,Zbh iw hm,if_pos hl.el,if_pos eR.el,if_pos hl.lit,if_pos eR.lit,e1]
   | dec n m _ _ hn hm hd e9 _ hA =>
     obtain⟨_,_,_,_,_,_,_,_,_,hp⟩:=hd.parts;obtain⟨_,_,_,_,_,_,_,_,_,cI⟩:=e9.parts;have aH:n.el≠[]:=fun e=>by have:=hp.two;rw[e]at this;simp at this
     have xY:m.el≠[]:=fun e=>by have:=cI.two;rw[e]at this;simp at this
     rw[Zbh hk hn,Zbh iw hm,if_neg aH,if_neg xY]
     congr 2
     refine ZjC ?_
     have vJ:Zek (fun p q=>(q.1<b∧q.2<b)∧sem s.nodes p.1=sem s'.nodes q.1∧sem s.nodes p.2=sem s'.nodes q.2) n.el m.el:=by
      have:∀ {l k:List (Nat × Nat)},Zek (fun p q=>sem s.nodes p.1=sem s'.nodes q.1∧sem s.nodes p.2=sem s'.nodes q.2) l k→(∀q∈k,q.1<b∧q.2<b)→Zek (fun p q=>(q.1<b∧q.2<b)∧sem s.nodes p.1=sem s'.nodes q.1∧sem s.nodes p.2=sem s'.nodes q.2) l k:=by
       intro l k hA
       induction hA with
       | nil=>intro _;exact .nil
       | cons h0 _ ihA=>intro hq;exact .cons ⟨hq _ (Zpy ..),h0⟩ (ihA fun q bZ=>hq q (Zpn _ bZ))
      exact this hA fun q hq=>e9.kids q hq
     refine vJ.imp_mem fun p hp q hr=>?_
     have:=hd.kids p hp;exact⟨ih p.1 (by omega) q.1 (by omega) (by omega) hr.2.1,ih p.2 (by omega) q.2 (by omega) (by omega) hr.2.2⟩
end Go.Proofs.YtmnjakejhbpkoaaGreatDoor.L
namespace Go.Proofs.YtmnjakejhbpkoaaGreatDoor.L
theorem ZfM{g:Nat→Option Bool}{q:Nat→Bool}:∀(l:List (Nat × Nat)),(∀p∈l,g p.1=some (q p.1))→(∃p∈l,q p.1=true)→∃p∈l,q p.1=true∧Ze5 g l=some p.2
 | [],_,h=>by obtain⟨_,h,_⟩:=h;cases h
 | p :: r,h1,h2=>by
   rw[Ze5,h1 p (Zpy ..)]
   cases hq:q p.1
   ·obtain⟨o,ho,hx⟩:=h2
    rcases List.mem_cons.1 ho with rfl|ho
    ·rw[hq]at hx;cases hx
    ·obtain⟨o',bS,bn,e⟩:=ZfM r (fun p hp=>h1 p (Zpn _ hp)) ⟨o,ho,hx⟩
     exact⟨o',Zpn _ bS,bn,e⟩
   ·exact⟨p,Zpy ..,hq,rfl⟩
theorem evalF_spec{s:St}(h:Inv s)(x:Zak):∀(a:Nat),a<s.nodes.length→∀v,v<s.tree.length→Dep (Bel s.tree v) (sem s.nodes a)→∀f,v+2≤f→Zc5 f s.nodes a x=some (sem s.nodes a (asg x)):=by
 intro a
 induction a using Nat.strongRecOn with
 | ind a ih =>
   intro ha v hv hd f hf;obtain⟨f,rfl⟩:∃g,f=g+1:=⟨f - 1,by omega⟩;rw[Zc5];rcases h.kind ha with rfl|rfl|⟨h2,n,hn,hl|hk⟩
   ·rw[h.zero,h.sem0];rfl
   ·rw[h.one,h.sem1];rfl
   ·rw[hn]
    simp only;rw[if_neg (fun hc=>hl.lit hc.2),if_pos hl.lit,h.semLit hn hl];have:ZlV n.lit=(n.lit.natAbs:Int):=by unfold ZlV;have:=hl.lit;split <;> omega
    rw[this];rfl
   ·obtain⟨Q,q1,q2,q3⟩:=h.at_und h2 hn hd
    obtain⟨P,y,l,r,e1,e2,e3,e4,e5,e6,_⟩:=h.facts hn hk;have qF:Q=P:=by omega
    subst qF;obtain⟨l',r',b1,b2,b3,b4,b5,_⟩:=inner_ok h.tree e2 e3;obtain rfl:l'=l:=by omega
    obtain rfl:r'=r:=by omega
    have hQv:=q3.le h.tree;rw[hn];simp only;rw[if_pos ⟨by omega,hk.lit⟩]
    obtain⟨p,hp,hx,e⟩:=ZfM (g:=fun p=>Zc5 f s.nodes p x) (q:=fun p=>sem s.nodes p (asg x)) n.el (fun p hp=>by
     have:=hk.kids p hp;exact ih p.1 (by omega) (by omega) l' (by omega) (e6.pdep p hp) f (by omega)) (e6.cover (asg x))
    rw[e];simp only;have:=hk.kids p hp;rw[ih p.2 (by omega) (by omega) r' (by omega) (e6.sdep p hp) f (by omega),h.semDec hn hk,e6.at hp hx]
inductive Reach (ns:List Zaf) (a:Nat):Nat→Prop
 | refl:Reach ns a a
 | prime {b:Nat}{n:Zaf}{p:Nat × Nat}:Reach ns a b→ns[b]? =some n→p∈n.el→Reach ns a p.1
 | sub {b:Nat}{n:Zaf}{p:Nat × Nat}:Reach ns a b→ns[b]? =some n→p∈n.el→Reach ns a p.2
def Shut(ns:List Zaf)(o:List Nat)(b:Nat):Prop:=∀n,ns[b]? =some n→∀p∈n.el,p.1∈o∧p.2∈o
end Go.Proofs.YtmnjakejhbpkoaaGreatDoor.L
namespace Go.Proofs.YtmnjakejhbpkoaaGreatDoor.L
theorem ZcU(s:Zak):∀(k:Nat) (x:Int),x∈Zbl s k↔1≤x∧x≤k∧Zau s x=true
 | 0,x=>⟨(fun h=>by cases h),fun h=>by omega⟩
 | k+1,x=>by
   rw[Zbl]
   split
   ·rename_i h
    rw[List.mem_append,ZcU s k,List.mem_singleton]
    constructor
    ·rintro(⟨h1,h2,h3⟩|rfl)
     ·exact⟨h1,by omega,h3⟩
     ·exact⟨by omega,by omega,h⟩
    ·rintro⟨h1,h2,h3⟩
     by_cases e:x=(k:Int)+1
     ·exact .inr e
     ·exact .inl ⟨h1,by omega,h3⟩
   ·rename_i h
    rw[ZcU s k]
    constructor
    ·rintro⟨h1,h2,h3⟩;exact⟨h1,by omega,h3⟩
    ·rintro⟨h1,h2,h3⟩
     refine⟨h1,?_,h3⟩
     apply ZpB
     intro hn;have:x=(k:Int)+1:=by omega
     rw[this]at h3;exact h h3
theorem listVK_sorted(s:Zak):∀(k:Nat),(Zbl s k).Pairwise (· < ·)
 | 0=>.nil
 | k+1=>by
   rw[Zbl]
   split
   ·rw[List.pairwise_append]
    refine⟨listVK_sorted s k,List.pairwise_singleton _ _,fun a ha b hb=>?_⟩;rw[List.mem_singleton]at hb;have:=(ZcU s k a).1 ha;omega
   ·exact listVK_sorted s k
theorem listV_mem(s:Zak)(x:Int):x∈Zc8 s↔Zau s x=true:=by
 unfold Zc8;rw[ZcU];exact⟨fun h=>h.2.2,fun h=>⟨(hasS_range h).1,(hasS_range h).2,h⟩⟩
theorem hasS_ofS(l:List Int)(x:Int):Zau (ofS l) x=true↔(1≤x∧x≤128)∧x∈l:=by
 by_cases hx:1≤x∧x≤128
 ·obtain⟨i,hi,rfl⟩:∃i:Nat,i<128∧x=(i:Int)+1:=⟨(x - 1).toNat,by omega,by omega⟩
  rw[hasS_bit _ _ hi];unfold ofS;rw[ZgJ _ _ hi];have h0:(0:Zak).getLsbD i=false:=BitVec.getLsbD_zero;rw[h0,Bool.false_or,List.any_eq_true]
  constructor
  ·rintro⟨y,hy,e⟩
   have e':y=(i:Int)+1:=of_decide_eq_true e;rw[←e'];exact⟨by omega,hy⟩
  ·rintro⟨_,h⟩
   exact⟨_,h,Zpv rfl⟩
 ·constructor
  ·intro h;exact absurd (hasS_range h) hx
  ·intro h;exact absurd h.1 hx
theorem sorted_nodup{l:List Int}(h:l.Pairwise (· < ·)):l.Nodup:=List.Pairwise.imp (fun bA e=>by omega) h
theorem Zi7{t:List VN}(hc:Zad t=0):∀(v:Nat),v<t.length→(vl t v).Nodup:=by
 intro v
 induction v using Nat.strongRecOn with
 | ind v ih =>
   intro hv;have hy:t[v]? =some t[v]:=Zpl hv
   cases hl:Zaj t[v]
   ·obtain⟨l,r,e1,e2,h1,h2,_⟩:=inner_ok hc hy hl
    rw[ZcY hc hy hl e1 e2,List.nodup_append];refine⟨ih l h1 (by omega),ih r h2 (by omega),fun a ha b hb e=>?_⟩;subst e;exact Bel.apart hc hy hl e1 e2 ((Zb4 hc l (by omega) a).1 ha) ((Zb4 hc r (by omega) a).1 hb)
   ·rw[ZdY hy hl];simp
structure SortedBel (t:List VN) (v:Nat) (l:List Int):Prop where
 sorted:l.Pairwise (· < ·)
 mem:∀x,x∈l↔Bel t v x
theorem SortedBel.len{t:List VN}(hc:Zad t=0){v:Nat}(hv:v<t.length){l:List Int}(h:SortedBel t v l):l.length=nv t v:=by
 have h1:=ZcH l (vl t v) (sorted_nodup h.sorted) (fun x hx=>(Zb4 hc v hv x).2 ((h.mem x).1 hx));have h2:=ZcH (vl t v) l (Zi7 hc v hv) (fun x hx=>(h.mem x).2 ((Zb4 hc v hv x).1 hx));exact Nat.le_antisymm h1 h2
end Go.Proofs.YtmnjakejhbpkoaaGreatDoor.L
