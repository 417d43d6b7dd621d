import Derived.Test.YtemnmcfmabamcaaGreatDoorYLaw1
import Derived.Test.YtemnmcfmabamcaaGreatDoorYText
import Derived.Test.YtemnmcfmabamcaaGreatDoorYRef3
set_option linter.unusedSimpArgs false
set_option linter.unusedVariables false
set_option maxRecDepth 100000
namespace Go.Proofs.YtemnmcfmabamcaaGreatDoor.L
theorem Zn1:((List.range 257).all fun k=>decide (0<(Lib.itoa ((k:Int) - 128)).length) && decide ((Lib.itoa ((k:Int) - 128)).length≤4))=true:=by kernel_rfl
theorem itoa_small(v:Int)(h:-128≤v∧v≤128):0<(Lib.itoa v).length∧(Lib.itoa v).length≤4:=by
 have:=List.all_eq_true.1 Zn1 (v+128).toNat (List.mem_range.2 (by omega));rw[show (((v+128).toNat:Nat):Int) - 128=v by omega]at this;simpa using this
end Go.Proofs.YtemnmcfmabamcaaGreatDoor.L
namespace Go.Proofs.YtemnmcfmabamcaaGreatDoor.L
def joinT(g:Nat→List UInt8):List (Nat × Nat)→List UInt8
 | []=>[]
 | p :: r=>(g p.1++[32]++g p.2)++(r.flatMap fun q=>[59,32]++(g q.1++[32]++g q.2))
def txF:Nat→List Zac→Nat→List UInt8
 | 0,_,_=>[]
 | f+1,ns,a=>match ns[a]? with
   | none=>[]
   | some n=>if n.el=[] then (if n.lit≠0 then Lib.itoa n.lit else if a=1 then [84] else [70]) else [40]++joinT (txF f ns) n.el++[41]
def tx (ns:List Zac)(a:Nat):List UInt8:=txF (a+1) ns a
theorem ZdL{g h:Nat→List UInt8}:∀ {l:List (Nat × Nat)},(∀p∈l,g p.1=h p.1∧g p.2=h p.2)→joinT g l=joinT h l
 | [],_=>rfl
 | p :: r,hh=>by
   have h0:=hh p (ZrL ..);rw[joinT,joinT,h0.1,h0.2]
   congr 1
   have:∀(k:List (Nat × Nat)),(∀p∈k,g p.1=h p.1∧g p.2=h p.2)→(k.flatMap fun q=>[59,32]++(g q.1++[32]++g q.2))=k.flatMap fun q=>[59,32]++(h q.1++[32]++h q.2):=by
    intro k
    induction k with
    | nil=>intro _;rfl
    | cons q k ih =>
      intro hk;have h1:=hk q (ZrL ..);rw[List.flatMap_cons,List.flatMap_cons,ih fun p hp=>hk p (ZrA _ hp),h1.1,h1.2]
   exact this r fun p hp=>hh p (ZrA _ hp)
theorem Zj7{ns:List Zac}(hk:Kids ns):∀(a f g:Nat),a<f→a<g→txF f ns a=txF g ns a:=by
 intro a
 induction a using Nat.strongRecOn with
 | ind a ih =>
   intro f g hf hg;obtain⟨f,rfl⟩:∃f',f=f'+1:=⟨f - 1,by omega⟩;obtain⟨g,rfl⟩:∃g',g=g'+1:=⟨g - 1,by omega⟩;rw[txF,txF]
   cases hn:ns[a]? with
   | none=>rfl
   | some n =>
     simp only
     split
     ·rfl
     ·rw[ZdL fun p hp=>?_]
      obtain⟨h1,h2⟩:=hk a n hn p hp;exact⟨ih p.1 h1 f g (by omega) (by omega),ih p.2 h2 f g (by omega) (by omega)⟩
theorem tx_node{ns:List Zac}(hk:Kids ns){a:Nat}{n:Zac}(hn:ns[a]? =some n):tx ns a=if n.el=[] then (if n.lit≠0 then Lib.itoa n.lit else if a=1 then [84] else [70]) else [40]++joinT (tx ns) n.el++[41]:=by
 rw[tx,txF,hn];simp only
 split
 ·rfl
 ·rw[ZdL fun p hp=>?_]
  obtain⟨h1,h2⟩:=hk a n hn p hp;exact⟨Zj7 hk p.1 a (p.1+1) h1 (by omega),Zj7 hk p.2 a (p.2+1) h2 (by omega)⟩
def tB (n:Nat):Nat:=if n≤1 then 4 else if n=2 then 24 else if n=3 then 126 else if n=4 then 1066 else if n=5 then 17170 else 549666
theorem Zj4{nl nr:Nat}(h1:1≤nl)(h2:1≤nr)(h6:nl+nr≤6):2 ^ nl*(tB nl+tB nr+3)+2≤tB (nl+nr):=by
 have hl:nl=1∨nl=2∨nl=3∨nl=4∨nl=5:=by omega
 rcases hl with rfl|rfl|rfl|rfl|rfl <;> (have hr:nr=1∨nr=2∨nr=3∨nr=4∨nr=5:=by omega) <;> rcases hr with rfl|rfl|rfl|rfl|rfl <;> first|omega|decide
theorem Zjg{a b:Nat}(h:a≤b):tB a≤tB b:=by
 unfold tB
 repeat' split
 all_goals omega
theorem ZhS(g:Nat→List UInt8)(b c:Nat):∀(l:List (Nat × Nat)),(∀p∈l,(g p.1).length≤b∧(g p.2).length≤c)→(joinT g l).length≤l.length*(b+c+3)
 | [],_=>Nat.zero_le _
 | p :: r,hh=>by
   have h0:=hh p (ZrL ..)
   have:∀(k:List (Nat × Nat)),(∀p∈k,(g p.1).length≤b∧(g p.2).length≤c)→(k.flatMap fun q=>[59,32]++(g q.1++[32]++g q.2)).length≤k.length*(b+c+3):=by
    intro k
    induction k with
    | nil=>intro _;exact Nat.zero_le _
    | cons q k ih =>
      intro hk;have h1:=hk q (ZrL ..);have h2:=ih fun p hp=>hk p (ZrA _ hp)
      rw[List.flatMap_cons,ZrB,ZrP,Nat.succ_mul];simp only[ZrB,ZrP,List.length_nil];omega
   have h2:=this r fun p hp=>hh p (ZrA _ hp)
   rw[joinT,ZrB,ZrP,Nat.succ_mul];simp only[ZrB,ZrP,List.length_nil];omega
theorem tx_len{s:St}(h:Inv s)(bu:s.tree.length≤11):∀(a:Nat),a<s.nodes.length→∀v,v<s.tree.length→Dep (Bel s.tree v) (sem s.nodes a)→0<(tx s.nodes a).length∧(tx s.nodes a).length≤tB (nv s.tree v):=by
 intro a
 induction a using Nat.strongRecOn with
 | ind a ih =>
   intro ha v hv hd;have hn:=Zry ha;have np:=Zcg h.tree v hv;have aH:4≤tB (nv s.tree v):=ZrC (by decide:4≤tB 1) (Zjg np);have hk:=h.kids;rcases h.kind ha with rfl|rfl|⟨h2,n,cR,hl|eF⟩
   ·rw[tx_node hk h.zero];simp[constN];omega
   ·rw[tx_node hk h.one];simp[constN];omega
   ·rw[tx_node hk cR,if_pos hl.el,if_pos hl.lit]
    obtain⟨u,y,h1,h2,h3,h4⟩:=hl.leaf;simp only[Zai,ZrK,ZrN]at h3;have:=itoa_small n.lit (by omega);omega
   ·obtain⟨Q,q1,q2,q3⟩:=h.at_und h2 cR hd
    obtain⟨P,y,l,r,e1,e2,e3,e4,e5,e6,_⟩:=h.facts cR eF;have tk:Q=P:=by omega
    subst tk;obtain⟨l',r',b1,b2,b3,b4,b5,_⟩:=inner_ok h.tree e2 e3;obtain rfl:l'=l:=by omega
    obtain rfl:r'=r:=by omega
    have ot:=Zdq h.tree e2 e3 e4 e5;have ry:=Zcg h.tree l' (by omega);have tS:=Zcg h.tree r' (by omega);have n6:=nv_le h.tree q2;have lC:=e6.len_l h.tree (by omega);have aJ:n.el≠[]:=fun e=>by have:=e6.two;rw[e]at this;simp at this
    rw[tx_node hk cR,if_neg aJ]
    have hj:=ZhS (tx s.nodes) (tB (nv s.tree l')) (tB (nv s.tree r')) n.el (fun p hp=>by
     have:=eF.kids p hp;exact⟨(ih p.1 (by omega) (by omega) l' (by omega) (e6.pdep p hp)).2,(ih p.2 (by omega) (by omega) r' (by omega) (e6.sdep p hp)).2⟩)
    have hs:=Zj4 ry tS (by omega);have hm:=Nat.mul_le_mul_right (tB (nv s.tree l')+tB (nv s.tree r')+3) lC;have zF:=Zjg (q3.nv_le h.tree);rw[ot]at zF;simp only[ZrB,ZrP,List.length_nil]
    constructor
    ·omega
    ·omega
def ZeQ (ns:List Zac)(m:List (Nat × List UInt8)):Prop:=∀a t,asc m a=some t→t=tx ns a
theorem ZlK(m:List (Nat × List UInt8))(l:List (Nat × Nat)):ZqY m l=joinT (ZbX m) l:=by cases l <;> rfl
theorem ZeQ.ascTx{ns:List Zac}{m:List (Nat × List UInt8)}(h:ZeQ ns m){a:Nat}{t:List UInt8}(ha:asc m a=some t):ZbX m a=tx ns a:=by
 unfold ZbX;rw[ha];exact h a t ha
def Zkf (m m':List (Nat × List UInt8)):Prop:=∀a t,asc m a=some t→asc m' a=some t
theorem Zkd{ns:List Zac}{g:Nat→List (Nat × List UInt8)→Option (List (Nat × List UInt8))}{b c:Nat}(hb:b≤1048576)(hc:c≤1048576):∀(l:List (Nat × Nat)) (m:List (Nat × List UInt8)) (z:Nat),
  (∀p∈l,∀m,ZeQ ns m→∃m',g p.1 m=some m'∧ZeQ ns m'∧Zkf m m'∧∃t,asc m' p.1=some t)→(∀p∈l,∀m,ZeQ ns m→∃m',g p.2 m=some m'∧ZeQ ns m'∧Zkf m m'∧∃t,asc m' p.2=some t) →
  (∀p∈l,(tx ns p.1).length≤b∧(tx ns p.2).length≤c)→ZeQ ns m →
  ∃m' z',wrL g l m z=some (m',z')∧ZeQ ns m'∧Zkf m m'∧z'≤z+l.length*(b+c+3)∧∀p∈l,(∃t,asc m' p.1=some t)∧∃t,asc m' p.2=some t
 | [],m,z,_,_,_,hm=>⟨m,z,rfl,hm,fun _ _ h=>h,by simp,fun _ h=>by cases h⟩
 | p :: r,m,z,h1,h2,h3,hm=>by
   obtain⟨m1,a1,a2,a3,t1,a4⟩:=h1 p (ZrL ..) m hm;obtain⟨m2,b1,b2,b3,t2,b4⟩:=h2 p (ZrL ..) m1 a2;have l3:=h3 p (ZrL ..);have e1:=b2.ascTx (b3 _ _ a4);have e2:=b2.ascTx b4;obtain⟨m',z',c1,c2,c3,c4,c5⟩:=Zkd hb hc r m2 (z+((tx ns p.1).length+(tx ns p.2).length+3)) (fun q hq=>h1 q (ZrA _ hq)) (fun q hq=>h2 q (ZrA _ hq)) (fun q hq=>h3 q (ZrA _ hq)) b2;refine⟨m',z',?_,c2,fun a t h=>c3 _ _ (b3 _ _ (a3 _ _ h)),?_,fun q hq=>?_⟩
   ·rw[wrL,a1];simp only
    rw[b1];simp only;rw[e1,e2,if_pos ⟨by omega,by omega⟩];exact c1
   ·rw[ZrP,Nat.succ_mul];omega
   ·rcases List.mem_cons.1 hq with rfl|hq
    ·exact⟨⟨t1,c3 _ _ (b3 _ _ a4)⟩,t2,c3 _ _ b4⟩
    ·exact c5 q hq
theorem Zjl{s:St}(h:Inv s)(bu:s.tree.length≤11):∀(a:Nat),a<s.nodes.length→∀v,v<s.tree.length→Dep (Bel s.tree v) (sem s.nodes a)→∀f,v+2≤f→∀m,ZeQ s.nodes m →
  ∃m',Zf7 f s.nodes a m=some m'∧ZeQ s.nodes m'∧Zkf m m'∧∃t,asc m' a=some t:=by
 intro a
 induction a using Nat.strongRecOn with
 | ind a ih =>
   intro ha v hv hd f hf m hm;obtain⟨f,rfl⟩:∃g,f=g+1:=⟨f - 1,by omega⟩;rw[Zf7]
   cases ig:asc m a with
   | some t=>exact⟨m,rfl,hm,fun _ _ h=>h,t,ig⟩
   | none =>
     simp only;have hk:=h.kids;have hn:=Zry ha;rw[hn];simp only;generalize s.nodes[a]=n at hn
     have uv:∀(m1:List (Nat × List UInt8)) (t:List UInt8),ZeQ s.nodes m1→Zkf m m1→t=tx s.nodes a→ZeQ s.nodes ((a,t) :: m1)∧Zkf m ((a,t) :: m1)∧∃t',asc ((a,t) :: m1) a=some t':=fun m1 t h1 h2 ht=>by
      refine⟨fun b u hb=>?_,fun b u hb=>?_,t,by rw[ZaH];exact if_pos rfl⟩
      ·rw[ZaH]at hb
       split at hb
       ·rename_i e
        cases hb
        rw[show b=a from e];exact ht
       ·exact h1 b u hb
      ·rw[ZaH,if_neg (fun e:b=a=>by rw[e,ig]at hb;cases hb)]
       exact h2 b u hb
     by_cases cN:n.el=[]
     ·rw[if_pos cN]
      obtain⟨g1,g2,g3⟩:=uv m (if n.lit≠0 then Lib.itoa n.lit else if a=1 then [84] else [70]) hm (fun _ _ h=>h) (by rw[tx_node hk hn,if_pos cN]);exact⟨_,rfl,g1,g2,g3⟩
     ·rw[if_neg cN]
      have h2:2≤a:=by
       apply ZrO
       intro aD;have:a=0∨a=1:=by omega
       rcases this with rfl|rfl
       ·rw[h.zero]at hn;cases hn;exact cN rfl
       ·rw[h.one]at hn;cases hn;exact cN rfl
      rcases h.ok a n h2 hn with hl|eF
      ·exact absurd hl.el cN
      obtain⟨Q,q1,q2,q3⟩:=h.at_und h2 hn hd;obtain⟨P,y,l,r,e1,e2,e3,e4,e5,e6,_⟩:=h.facts hn eF;have tk:Q=P:=by omega
      subst tk;obtain⟨l',r',b1,b2,b3,b4,b5,_⟩:=inner_ok h.tree e2 e3;obtain rfl:l'=l:=by omega
      obtain rfl:r'=r:=by omega
      have hQv:=q3.le h.tree;have ot:=Zdq h.tree e2 e3 e4 e5;have ry:=Zcg h.tree l' (by omega);have tS:=Zcg h.tree r' (by omega);have n6:=nv_le h.tree q2;have lC:=e6.len_l h.tree (by omega);have hs:=Zj4 ry tS (by omega);have hB:tB (nv s.tree l'+nv s.tree r')≤549666:=Zjg (b:=6) (by omega);have ie:=Nat.mul_le_mul_right (tB (nv s.tree l')+tB (nv s.tree r')+3) lC;have aH:=Nat.mul_le_mul_right (tB (nv s.tree l')+tB (nv s.tree r')+3) (Zg9 (nv s.tree l'));rw[Nat.one_mul]at aH
      have cO:∀p∈n.el,(0<(tx s.nodes p.1).length∧(tx s.nodes p.1).length≤tB (nv s.tree l'))∧(0<(tx s.nodes p.2).length∧(tx s.nodes p.2).length≤tB (nv s.tree r')):=fun p hp=>by
       have:=eF.kids p hp;exact⟨tx_len h bu p.1 (by omega) l' (by omega) (e6.pdep p hp),tx_len h bu p.2 (by omega) r' (by omega) (e6.sdep p hp)⟩
      obtain⟨m1,z,g1,g2,g3,g4,g5⟩:=Zkd (ns:=s.nodes) (g:=Zf7 f s.nodes) (b:=tB (nv s.tree l')) (c:=tB (nv s.tree r')) (by omega) (by omega) n.el m 0
       (fun p hp m hm=>by have:=eF.kids p hp;exact ih p.1 (by omega) (by omega) l' (by omega) (e6.pdep p hp) f (by omega) m hm)
       (fun p hp m hm=>by have:=eF.kids p hp;exact ih p.2 (by omega) (by omega) r' (by omega) (e6.sdep p hp) f (by omega) m hm)
       (fun p hp=>⟨(cO p hp).1.2,(cO p hp).2.2⟩) hm
      rw[g1];simp only
      have oQ:∀p∈n.el,ZbX m1 p.1=tx s.nodes p.1∧ZbX m1 p.2=tx s.nodes p.2:=fun p hp=>by
       obtain⟨⟨t1,k1⟩,t2,k2⟩:=g5 p hp;exact⟨g2.ascTx k1,g2.ascTx k2⟩
      have tE:Zbx m1 n.el=[40]++joinT (tx s.nodes) n.el:=by rw[Zbx,ZlK,ZdL oQ]
      have hj:=ZhS (tx s.nodes) (tB (nv s.tree l')) (tB (nv s.tree r')) n.el (fun p hp=>⟨(cO p hp).1.2,(cO p hp).2.2⟩)
      have kT:z≤1048576∧(Zbx m1 n.el).length≤4194304∧(∀p∈n.el,(0<(ZbX m1 p.1).length∧(ZbX m1 p.1).length≤1048576)∧(0<(ZbX m1 p.2).length∧(ZbX m1 p.2).length≤1048576)):=by
       refine⟨by omega,?_,fun p hp=>?_⟩
       ·rw[tE]
        simp only[ZrB,ZrP,List.length_nil];omega
       ·rw[(oQ p hp).1,(oQ p hp).2]
        have:=cO p hp;omega
      rw[if_pos kT];obtain⟨k1,k2,k3⟩:=uv m1 (Zbx m1 n.el++[41]) g2 g3 (by rw[tx_node hk hn,if_neg cN,tE]);exact⟨_,rfl,k1,k2,k3⟩
theorem textF_spec{s:St}(h:Inv s)(bu:s.tree.length≤11){a:Nat}(ha:a<s.nodes.length){v:Nat}(hv:v<s.tree.length)(hd:Dep (Bel s.tree v) (sem s.nodes a)){f:Nat}(hf:v+2≤f):ZoA f s.nodes a=some (tx s.nodes a):=by
 obtain⟨m',h1,h2,_,t,h3⟩:=Zjl h bu a ha v hv hd f hf [] (fun _ _ h=>by cases h);unfold ZoA;rw[h1];simp only;rw[h2.ascTx h3]
theorem ZeP{α β:Type}{k1:α→Zax}{k2:β→Zax}{R:α→β→Prop}(hR:∀a b,R a b→k1 a=k2 b):∀(l:List α) (m:List β),l.Pairwise (fun a b=>ZaX (k1 a) (k1 b)=true)→m.Pairwise (fun a b=>ZaX (k2 a) (k2 b)=true) →
  (∀a∈l,∃b∈m,R a b)→(∀b∈m,∃a∈l,R a b)→ZeT R l m
 | [],[],_,_,_,_=>.nil
 | [],b :: m,_,_,_,h=>by obtain⟨a,ha,_⟩:=h b (ZrL ..);cases ha
 | a :: l,[],_,_,h,_=>by obtain⟨b,hb,_⟩:=h a (ZrL ..);cases hb
 | a :: l,b :: m,hl,hm,h1,h2=>by
   rw[List.pairwise_cons]at hl hm
   have bT:k1 a=k2 b:=by
    obtain⟨b',cQ,r1⟩:=h1 a (ZrL ..);obtain⟨a',kM,r2⟩:=h2 b (ZrL ..);have e1:=hR _ _ r1;have e2:=hR _ _ r2;rcases List.mem_cons.1 cQ with rfl|cQ
    ·exact e1
    ·rcases List.mem_cons.1 kM with rfl|kM
     ·exact e2
     ·have c1:=hm.1 b' cQ
      have c2:=hl.1 a' kM;rw[e2,e1]at c2;rw[ZbC c1]at c2;cases c2
   have h0:R a b:=by
    obtain⟨b',cQ,r1⟩:=h1 a (ZrL ..);rcases List.mem_cons.1 cQ with rfl|cQ
    ·exact r1
    ·have c1:=hm.1 b' cQ
     rw[←bT,hR _ _ r1,Zbe]at c1;cases c1
   refine .cons h0 (ZeP hR l m hl.2 hm.2 (fun a' kM=>?_) fun b' cQ=>?_)
   ·obtain⟨b',cQ,r1⟩:=h1 a' (ZrA _ kM)
    rcases List.mem_cons.1 cQ with rfl|cQ
    ·have c1:=hl.1 a' kM
     rw[hR _ _ r1,bT,Zbe]at c1;cases c1
    ·exact⟨b',cQ,r1⟩
   ·obtain⟨a',kM,r1⟩:=h2 b' (ZrA _ cQ)
    rcases List.mem_cons.1 kM with rfl|kM
    ·have c1:=hm.1 b' cQ
     rw[←hR _ _ r1,bT,Zbe]at c1;cases c1
    ·exact⟨a',kM,r1⟩
theorem ZkD{g h:Nat→List UInt8}:∀ {l m:List (Nat × Nat)},ZeT (fun p q=>g p.1=h q.1∧g p.2=h q.2) l m→joinT g l=joinT h m
 | _,_,.nil=>rfl
 | p :: r,q :: k,.cons h0 hr=>by
   rw[joinT,joinT,h0.1,h0.2]
   congr 1
   have:∀(k n:List (Nat × Nat)),ZeT (fun p q=>g p.1=h q.1∧g p.2=h q.2) k n→(k.flatMap fun q=>[59,32]++(g q.1++[32]++g q.2))=n.flatMap fun q=>[59,32]++(h q.1++[32]++h q.2):=by
    intro k n hh
    induction hh with
    | nil=>rfl
    | cons h1 _ ih=>rw[List.flatMap_cons,List.flatMap_cons,ih,h1.1,h1.2]
   exact this r k hr
inductive Zqm (s s':St) (a b:Nat):Prop
 | zero:a=0→b=0→Zqm s s' a b
 | one:a=1→b=1→Zqm s s' a b
 | lit (n m:Zac):2≤a→2≤b→s.nodes[a]? =some n→s'.nodes[b]? =some m→Zei s.tree n→Zei s'.tree m→n.lit=m.lit→n.pl=m.pl→Zqm s s' a b
 | dec (n m:Zac):2≤a→2≤b→s.nodes[a]? =some n→s'.nodes[b]? =some m→Zb9 s.tree s.nodes a n→Zb9 s'.tree s'.nodes b m→n.pl=m.pl →
    ZeT (fun p q=>sem s.nodes p.1=sem s'.nodes q.1∧sem s.nodes p.2=sem s'.nodes q.2) n.el m.el→Zqm s s' a b
theorem ZpD{n1 n2:List Zac}{i j:Nat}(h1:Min n1 i)(h2:Min n2 j)(e:sem n1 i=sem n2 j):ZaG n1 i=ZaG n2 j :=
 (h1.le _ (by rw[e];exact h2.sat)).antisymm (h2.le _ (by rw[←e];exact h1.sat))
theorem Inv.same{s s':St}(h:Inv s)(h':Inv s')(ht:s'.tree=s.tree){a b:Nat}(ha:a<s.nodes.length)(hb:b<s'.nodes.length)(e:sem s.nodes a=sem s'.nodes b):Zqm s s' a b:=by
 have litc:∀ {s:St}(h:Inv s) {i:Nat}{n:Zac},s.nodes[i]? =some n→Zei s.tree n→∀c:Bool,¬ ∀x,sem s.nodes i x=c:=fun h i n hn hl c hc=>by
  obtain⟨z1,z2,hz⟩:=const_not (fun x=>h.semLit hn hl x);exact hz (by rw[hc,hc])
 have decc:∀ {s:St}(h:Inv s) {i:Nat}{n:Zac},s.nodes[i]? =some n→Zb9 s.tree s.nodes i n→∀c:Bool,¬ ∀x,sem s.nodes i x=c:=fun h i n hn hl c hc=>by
  obtain⟨_,_,_,_,_,_,_,_,_,_,_,e1,_⟩:=h.facts hn hl;obtain⟨z1,z2,hz⟩:=e1.const_not;exact hz (by rw[hc,hc])
 have ld:∀ {s s':St}(h:Inv s) (h':Inv s') (_:s'.tree=s.tree) {i j:Nat}{n m:Zac},s.nodes[i]? =some n→s'.nodes[j]? =some m→Zei s.tree n→Zb9 s'.tree s'.nodes j m→sem s.nodes i=sem s'.nodes j→False:=fun {s s'} h h' ht {i j n m} hn hm hl hd e=>by
  obtain⟨P,y,l,r,_,hy,aI,bF,jT,_,_,e1,e2,_⟩:=h'.facts hm hd;obtain⟨u,z,hu,hz,dC,cP⟩:=hl.leaf
  have jj:Dep (Bel s'.tree u) (sem s'.nodes j):=by
   rw[←e,ht];intro x x' hx;rw[h.semLit hn hl,h.semLit hn hl,hx _ ((Bel.leaf h.tree hz dC _).2 cP.symm)]
  rw[←ht]at hz;have:=(Zb6 h'.tree hy aI bF jT e1 e2 jj).leaf h'.tree hz dC;rw[this,hz]at hy
  cases hy
  rw[dC]at aI;cases aI
 rcases h.kind ha with rfl|rfl|⟨h2,n,hn,hk⟩
 ·exact .zero rfl (h'.const0 hb fun x=>by rw[←e];exact h.sem0 x)
 ·exact .one rfl (h'.const1 hb fun x=>by rw[←e];exact h.sem1 x)
 ·rcases h'.kind hb with rfl|rfl|⟨dJ,m,hm,eF⟩
  ·exact .zero (h.const0 ha fun x=>by rw[e];exact h'.sem0 x) rfl
  ·exact .one (h.const1 ha fun x=>by rw[e];exact h'.sem1 x) rfl
  ·rcases hk with hl|hd
   ·rcases eF with eK|iL
    ·have o0:∀x:Asg,(x (n.lit.natAbs:Int) ==decide (0<n.lit))=(x (m.lit.natAbs:Int) ==decide (0<m.lit)):=fun x=>by
      rw[←h.semLit hn hl,←h'.semLit hm eK,e]
     have tH:decide (0<n.lit)=decide (0<m.lit):=by
      have:=o0 (fun _=>true);simpa using this
     have hv:n.lit.natAbs=m.lit.natAbs:=by
      apply ZrO
      intro aJ;have:=o0 (fun v=>decide (v=(n.lit.natAbs:Int)));rw[tH]at this;have h2:¬ ((m.lit.natAbs:Int)=(n.lit.natAbs:Int)):=by omega
      simp only[decide_true,h2,decide_false]at this
      cases hb:decide (0<m.lit) <;> rw[hb]at this <;> simp at this
     have jL:n.lit=m.lit:=by
      have a1:=hl.lit;have a2:=eK.lit;have:(0<n.lit)↔(0<m.lit):=by simpa using tH
      omega
     obtain⟨u,z,hu,hz,dC,cP⟩:=hl.leaf;obtain⟨u',z',pW,qG,vT,vU⟩:=eK.leaf;rw[ht]at qG;have:=leaf_var h.tree hz qG dC vT (by rw[cP,vU,hv]);exact .lit n m h2 dJ hn hm hl eK jL (by rw[hu,pW,this])
    ·exact(ld h h' ht hn hm hl iL e).elim
   ·rcases eF with eK|iL
    ·exact(ld h' h ht.symm hm hn eK hd e.symm).elim
    ·obtain⟨P,y,l,r,hP,hy,aI,bF,jT,hp,jJ,e1,e2,jj⟩:=h.facts hn hd
     obtain⟨P',y',l',r',hP',lL,nJ,vP,vQ,cH,kU,mM,pf,mT⟩:=h'.facts hm iL;rw[ht]at lL cH mM pf mT;have u1:=Zb6 h.tree hy aI bF jT e1 e2 (by rw[e];exact mT);have u2:=Zb6 h.tree lL nJ vP vQ mM pf (by rw[←e];exact jj);have tj:P=P':=by have:=u1.le h.tree;have:=u2.le h.tree;omega
     subst tj;rw[hy]at lL
     cases lL
     obtain rfl:l=l':=by omega
     obtain rfl:r=r':=by omega
     have o0:∀x,(n.el.any fun q=>sem s.nodes q.1 x && sem s.nodes q.2 x)=m.el.any fun q=>sem s'.nodes q.1 x && sem s'.nodes q.2 x:=fun x=>by
      rw[←h.semDec hn hd,←h'.semDec hm iL,e]
     have m1:=ZcL h.tree hy aI bF jT hp cH o0 jJ kU;have m2:=ZcL h.tree hy aI bF jT cH hp (fun x=>(o0 x).symm) kU jJ;refine .dec n m h2 dJ hn hm hd iL (by rw[hP,hP']) ?_
     have dr:∀ {s:St}(h:Inv s) {i:Nat}{n:Zac}{l r:Nat},s.nodes[i]? =some n→Zb9 s.tree s.nodes i n→ZaA s.tree s.nodes l r n.el→∀p∈n.el,Min s.nodes p.1:=fun h i n l r hn hd hp p de=>by
      have:=hd.kids p de;have:=(Zrw hn).1;exact h.min _ (h.ne0 (hp.pne p de)) (by omega)
     have zD:=dr h hn hd hp;have zE:=dr h' hm iL (by rw[ht];exact cH)
     have:=ZeP (k1:=fun p:Nat × Nat=>ZaG s.nodes p.1) (k2:=fun p:Nat × Nat=>ZaG s'.nodes p.1)
      (R:=fun p q=>(p∈n.el∧q∈m.el)∧sem s.nodes p.1=sem s'.nodes q.1∧sem s.nodes p.2=sem s'.nodes q.2) (fun p q hr=>ZpD (zD p hr.1.1) (zE q hr.1.2) hr.2.1) n.el m.el hd.sorted iL.sorted
      (fun p de=>by obtain⟨q,hq,g⟩:=m1 p de;exact⟨q,hq,⟨de,hq⟩,g⟩) (fun q zb=>by obtain⟨p,de,g1,g2⟩:=m2 q zb;exact⟨p,de,⟨de,zb⟩,g1.symm,g2.symm⟩)
     exact this.imp_mem fun _ _ _ hr=>hr.2
theorem tx_eq{s s':St}(h:Inv s)(h':Inv s')(ht:s'.tree=s.tree):∀(a b:Nat),a<s.nodes.length→b<s'.nodes.length→sem s.nodes a=sem s'.nodes b→tx s.nodes a=tx s'.nodes b:=by
 intro a
 induction a using Nat.strongRecOn with
 | ind a ih =>
   intro b ha hb e;have hk:=h.kids;have eF:=h'.kids
   cases h.same h' ht ha hb e with
   | zero ea eb=>subst ea;subst eb;rw[tx_node hk h.zero,tx_node eF h'.zero];rfl
   | one ea eb=>subst ea;subst eb;rw[tx_node hk h.one,tx_node eF h'.one];rfl
   | lit n m _ _ hn hm hl eK e1 _=>rw[tx_node hk hn,tx_node eF hm,if_pos hl.el,if_pos eK.el,if_pos hl.lit,if_pos eK.lit,e1]
   | dec n m _ _ hn hm hd iL _ hA =>
     obtain⟨_,_,_,_,_,_,_,_,_,hp⟩:=hd.parts;obtain⟨_,_,_,_,_,_,_,_,_,cH⟩:=iL.parts;have aJ:n.el≠[]:=fun e=>by have:=hp.two;rw[e]at this;simp at this
     have hne':m.el≠[]:=fun e=>by have:=cH.two;rw[e]at this;simp at this
     rw[tx_node hk hn,tx_node eF hm,if_neg aJ,if_neg hne']
     congr 2
     refine ZkD ?_
     have nZ:ZeT (fun p q=>(q.1<b∧q.2<b)∧sem s.nodes p.1=sem s'.nodes q.1∧sem s.nodes p.2=sem s'.nodes q.2) n.el m.el:=by
      have:∀ {l k:List (Nat × Nat)},ZeT (fun p q=>sem s.nodes p.1=sem s'.nodes q.1∧sem s.nodes p.2=sem s'.nodes q.2) l k→(∀q∈k,q.1<b∧q.2<b)→ZeT (fun p q=>(q.1<b∧q.2<b)∧sem s.nodes p.1=sem s'.nodes q.1∧sem s.nodes p.2=sem s'.nodes q.2) l k:=by
       intro l k hA
       induction hA with
       | nil=>intro _;exact .nil
       | cons h0 _ ihA=>intro hq;exact .cons ⟨hq _ (ZrL ..),h0⟩ (ihA fun q bG=>hq q (ZrA _ bG))
      exact this hA fun q hq=>iL.kids q hq
     refine nZ.imp_mem fun p hp q hr=>?_
     have:=hd.kids p hp;exact⟨ih p.1 (by omega) q.1 (by omega) (by omega) hr.2.1,ih p.2 (by omega) q.2 (by omega) (by omega) hr.2.2⟩
end Go.Proofs.YtemnmcfmabamcaaGreatDoor.L
namespace Go.Proofs.YtemnmcfmabamcaaGreatDoor.L
theorem Zgv{g:Nat→Option Bool}{q:Nat→Bool}:∀(l:List (Nat × Nat)),(∀p∈l,g p.1=some (q p.1))→(∃p∈l,q p.1=true)→∃p∈l,q p.1=true∧Zom g l=some p.2
 | [],_,h=>by obtain⟨_,h,_⟩:=h;cases h
 | p :: r,h1,h2=>by
   rw[Zom,h1 p (ZrL ..)]
   cases hq:q p.1
   ·obtain⟨o,ho,hx⟩:=h2
    rcases List.mem_cons.1 ho with rfl|ho
    ·rw[hq]at hx;cases hx
    ·obtain⟨o',cT,bn,e⟩:=Zgv r (fun p hp=>h1 p (ZrA _ hp)) ⟨o,ho,hx⟩
     exact⟨o',ZrA _ cT,bn,e⟩
   ·exact⟨p,ZrL ..,hq,rfl⟩
theorem Zqi{s:St}(h:Inv s)(x:Zax):∀(a:Nat),a<s.nodes.length→∀v,v<s.tree.length→Dep (Bel s.tree v) (sem s.nodes a)→∀f,v+2≤f→ZlN f s.nodes a x=some (sem s.nodes a (asg x)):=by
 intro a
 induction a using Nat.strongRecOn with
 | ind a ih =>
   intro ha v hv hd f hf;obtain⟨f,rfl⟩:∃g,f=g+1:=⟨f - 1,by omega⟩;rw[ZlN];rcases h.kind ha with rfl|rfl|⟨h2,n,hn,hl|hk⟩
   ·rw[h.zero,h.sem0];rfl
   ·rw[h.one,h.sem1];rfl
   ·rw[hn]
    simp only;rw[if_neg (fun hc=>hl.lit hc.2),if_pos hl.lit,h.semLit hn hl];have:Zq7 n.lit=(n.lit.natAbs:Int):=by unfold Zq7;have:=hl.lit;split <;> omega
    rw[this];rfl
   ·obtain⟨Q,q1,q2,q3⟩:=h.at_und h2 hn hd
    obtain⟨P,y,l,r,e1,e2,e3,e4,e5,e6,_⟩:=h.facts hn hk;have tk:Q=P:=by omega
    subst tk;obtain⟨l',r',b1,b2,b3,b4,b5,_⟩:=inner_ok h.tree e2 e3;obtain rfl:l'=l:=by omega
    obtain rfl:r'=r:=by omega
    have hQv:=q3.le h.tree;rw[hn];simp only;rw[if_pos ⟨by omega,hk.lit⟩]
    obtain⟨p,hp,hx,e⟩:=Zgv (g:=fun p=>ZlN f s.nodes p x) (q:=fun p=>sem s.nodes p (asg x)) n.el (fun p hp=>by
     have:=hk.kids p hp;exact ih p.1 (by omega) (by omega) l' (by omega) (e6.pdep p hp) f (by omega)) (e6.cover (asg x))
    rw[e];simp only;have:=hk.kids p hp;rw[ih p.2 (by omega) (by omega) r' (by omega) (e6.sdep p hp) f (by omega),h.semDec hn hk,e6.at hp hx]
inductive Reach (ns:List Zac) (a:Nat):Nat→Prop
 | refl:Reach ns a a
 | prime {b:Nat}{n:Zac}{p:Nat × Nat}:Reach ns a b→ns[b]? =some n→p∈n.el→Reach ns a p.1
 | sub {b:Nat}{n:Zac}{p:Nat × Nat}:Reach ns a b→ns[b]? =some n→p∈n.el→Reach ns a p.2
theorem Reach.trans{ns:List Zac}{a b c:Nat}(h:Reach ns a b)(k:Reach ns b c):Reach ns a c:=by
 induction k with
 | refl=>exact h
 | prime _ h1 h2 ih=>exact .prime ih h1 h2
 | sub _ h1 h2 ih=>exact .sub ih h1 h2
def ZgI (ns:List Zac)(o:List Nat)(b:Nat):Prop:=∀n,ns[b]? =some n→∀p∈n.el,p.1∈o∧p.2∈o
structure Vis (ns:List Zac) (a:Nat) (out o:List Nat):Prop where
 nd:o.Nodup
 lt:∀b∈o,b<ns.length
 sub:∀b∈out,b∈o
 mem:a∈o
 new:∀b∈o,b∈out∨(b≤a∧Reach ns a b)
 shut:(∀b∈out,b≤a→ZgI ns out b)→∀b∈o,b≤a→ZgI ns o b
theorem ZgI.mono{ns:List Zac}{o o':List Nat}{b:Nat}(h:ZgI ns o b)(hs:∀x∈o,x∈o'):ZgI ns o' b:=fun n hn p hp=>⟨hs _ (h n hn p hp).1,hs _ (h n hn p hp).2⟩
theorem Zii{ns:List Zac}{a:Nat}{g:Nat→List Nat→Option (List Nat)}(l0:List (Nat × Nat))(eM:∀p∈l0,Reach ns a p.1∧Reach ns a p.2∧p.1<a∧p.2<a)(hg:∀p∈l0,∀out:List Nat,out.Nodup→(∀b∈out,b<ns.length)→(∃o,g p.1 out=some o∧Vis ns p.1 out o)∧∃o,g p.2 out=some o∧Vis ns p.2 out o) :
  ∀(l:List (Nat × Nat)),(∀p∈l,p∈l0)→∀(out:List Nat),out.Nodup→(∀b∈out,b<ns.length) →
  ∃o,Znc g l out=some o∧o.Nodup∧(∀b∈o,b<ns.length)∧(∀b∈out,b∈o)∧(∀p∈l,p.1∈o∧p.2∈o)∧(∀b∈o,b∈out∨(b<a∧Reach ns a b))∧((∀b∈out,b<a→ZgI ns out b)→∀b∈o,b<a→ZgI ns o b)
 | [],_,out,h1,h2=>⟨out,rfl,h1,h2,fun _ h=>h,fun _ h=>(by cases h),fun _ h=>.inl h,fun h=>h⟩
 | p :: r,hl,out,h1,h2=>by
   have hp:=hl p (ZrL ..);obtain⟨r1,r2,a1,a2⟩:=eM p hp;obtain⟨o1,e1,v1⟩:=(hg p hp out h1 h2).1;obtain⟨o2,e2,v2⟩:=(hg p hp o1 v1.nd v1.lt).2;obtain⟨o,e,g1,g2,g3,g4,g5,g6⟩:=Zii l0 eM hg r (fun q hq=>hl q (ZrA _ hq)) o2 v2.nd v2.lt;refine⟨o,?_,g1,g2,fun b hb=>g3 _ (v2.sub _ (v1.sub _ hb)),fun q hq=>?_,fun b hb=>?_,fun hs=>g6 fun b hb fg=>?_⟩
   ·rw[Znc,e1];simp only
    rw[e2];exact e
   ·rcases List.mem_cons.1 hq with rfl|hq
    ·exact⟨g3 _ (v2.sub _ v1.mem),g3 _ v2.mem⟩
    ·exact g4 q hq
   ·rcases g5 b hb with hb|hb
    ·rcases v2.new b hb with hb|⟨hb,hr⟩
     ·rcases v1.new b hb with hb|⟨hb,hr⟩
      ·exact .inl hb
      ·exact .inr ⟨by omega,r1.trans hr⟩
     ·exact .inr ⟨by omega,r2.trans hr⟩
    ·exact .inr hb
   ·-- a member of o2 below a is shut
    have s1:∀b∈o1,b<a→ZgI ns o1 b:=fun b hb fg=>by
     rcases v1.new b hb with cQ|⟨cQ,_⟩
     ·exact(hs b cQ fg).mono v1.sub
     ·exact v1.shut (fun c hc gE=>hs c hc (by omega)) b hb cQ
    rcases v2.new b hb with cQ|⟨cQ,_⟩
    ·exact(s1 b cQ fg).mono v2.sub
    ·exact v2.shut (fun c hc gE=>s1 c hc (by omega)) b hb cQ
theorem Zig{s:St}(h:Inv s)(aX:s.nodes.length≤1048576):∀(a:Nat),a<s.nodes.length→∀v,v<s.tree.length→Dep (Bel s.tree v) (sem s.nodes a)→∀f,v+2≤f→∀out:List Nat,out.Nodup→(∀b∈out,b<s.nodes.length) →
  ∃o,Zho f s.nodes a out=some o∧Vis s.nodes a out o:=by
 intro a
 induction a using Nat.strongRecOn with
 | ind a ih =>
   intro ha v hv hd f hf out h1 h2;obtain⟨f,rfl⟩:∃g,f=g+1:=⟨f - 1,by omega⟩;rw[Zho]
   by_cases hm:a∈out
   ·rw[if_pos hm]
    exact⟨out,rfl,h1,h2,fun _ h=>h,hm,fun _ h=>.inl h,fun h=>h⟩
   ·rw[if_neg hm]
    have hn:=Zry ha;rw[hn];simp only;generalize s.nodes[a]=n at hn
    have pB:out.length<1048576:=by
     have h3:(a :: out).Nodup:=List.nodup_cons.2 ⟨hm,h1⟩
     have:=nodup_lt (a :: out) s.nodes.length h3 (fun x hx=>by
      rcases List.mem_cons.1 hx with rfl|hx
      ·exact ha
      ·exact h2 x hx)
     simp only[ZrP]at this;omega
    rw[if_pos pB]
    have sr:(out++[a]).Nodup:=by
     rw[List.nodup_append];refine⟨h1,by simp,fun x hx y hy e=>?_⟩;rw[List.mem_singleton]at hy;exact hm (by rw[←hy,←e];exact hx)
    have aD:∀b∈out++[a],b<s.nodes.length:=fun b hb=>by
     rcases List.mem_append.1 hb with hb|hb
     ·exact h2 b hb
     ·rw[List.mem_singleton]at hb;omega
    have cy:=h.kids a n hn
    have hg:∀p∈n.el,∀out:List Nat,out.Nodup→(∀b∈out,b<s.nodes.length)→(∃o,Zho f s.nodes p.1 out=some o∧Vis s.nodes p.1 out o)∧∃o,Zho f s.nodes p.2 out=some o∧Vis s.nodes p.2 out o:=fun p hp out k1 k2=>by
     have hkp:=cy p hp;rcases h.kind ha with e0|e0|⟨hh2,n',cR,hl|hk⟩
     ·subst e0;omega
     ·subst e0;rw[h.one]at hn;cases hn;cases hp
     ·rw[hn]at cR;cases cR;rw[hl.el]at hp;cases hp
     ·rw[hn]at cR;cases cR
      obtain⟨Q,q1,q2,q3⟩:=h.at_und hh2 hn hd;obtain⟨P,y,l,r,e1,e2,e3,e4,e5,e6,_⟩:=h.facts hn hk;have tk:Q=P:=by omega
      subst tk;obtain⟨l',r',b1,b2,b3,b4,b5,_⟩:=inner_ok h.tree e2 e3;obtain rfl:l'=l:=by omega
      obtain rfl:r'=r:=by omega
      have hQv:=q3.le h.tree;exact⟨ih p.1 hkp.1 (by omega) l' (by omega) (e6.pdep p hp) f (by omega) out k1 k2,ih p.2 hkp.2 (by omega) r' (by omega) (e6.sdep p hp) f (by omega) out k1 k2⟩
    obtain⟨o,e,g1,g2,g3,g4,g5,g6⟩:=Zii (a:=a) n.el (fun p hp=>⟨.prime .refl hn hp,.sub .refl hn hp,cy p hp⟩) hg n.el (fun _ h=>h) (out++[a]) sr aD;refine⟨o,e,g1,g2,fun b hb=>g3 b (List.mem_append_left _ hb),g3 a (by simp),fun b hb=>?_,fun hs b hb fg=>?_⟩
    ·rcases g5 b hb with hb|⟨hb,hr⟩
     ·rcases List.mem_append.1 hb with hb|hb
      ·exact .inl hb
      ·rw[List.mem_singleton]at hb;subst hb;exact .inr ⟨ZrQ _,.refl⟩
     ·exact .inr ⟨by omega,hr⟩
    ·by_cases bT:b=a
     ·subst bT
      intro n' cR p hp;rw[hn]at cR;cases cR;exact g4 p hp
     ·refine g6 (fun c hc wF=>?_) b hb (by omega)
      rcases List.mem_append.1 hc with hc|hc
      ·exact(hs c hc (by omega)).mono fun x hx=>List.mem_append_left _ hx
      ·rw[List.mem_singleton]at hc;omega
theorem sizeF_spec{s:St}(h:Inv s)(aX:s.nodes.length≤1048576){a:Nat}(ha:a<s.nodes.length){v:Nat}(hv:v<s.tree.length)(hd:Dep (Bel s.tree v) (sem s.nodes a)){f:Nat}(hf:v+2≤f) :
  ∃o,Zos f s.nodes a=some (Zbw s.nodes o)∧o.Nodup∧∀b,b∈o↔Reach s.nodes a b:=by
 obtain⟨o,e,V⟩:=Zig h aX a ha v hv hd f hf [] List.nodup_nil (fun _ h=>by cases h);refine⟨o,?_,V.nd,fun b=>⟨fun hb=>?_,fun hr=>?_⟩⟩
 ·unfold Zos
  rw[Zcj,e];rfl
 ·rcases V.new b hb with hb|hb
  ·cases hb
  ·exact hb.2
 ·have az:∀b∈o,ZgI s.nodes o b:=fun b hb=>by
   rcases V.new b hb with cQ|cQ
   ·cases cQ
   ·exact V.shut (fun _ h=>by cases h) b hb cQ.1
  induction hr with
  | refl=>exact V.mem
  | prime _ hn hp ih=>exact(az _ ih _ hn _ hp).1
  | sub _ hn hp ih=>exact(az _ ih _ hn _ hp).2
theorem Zk5{ns:List Zac}{l m:List Nat}(h:l.Perm m):Zbw ns l=Zbw ns m:=by
 induction h with
 | nil=>rfl
 | cons x _ ih=>rw[Zbw,Zbw,ih]
 | swap x y l=>simp only[Zbw];omega
 | trans _ _ h1 h2=>exact h1.trans h2
end Go.Proofs.YtemnmcfmabamcaaGreatDoor.L
namespace Go.Proofs.YtemnmcfmabamcaaGreatDoor.L
theorem Zdp(s:Zax):∀(k:Nat) (x:Int),x∈ZbV s k↔1≤x∧x≤k∧ZaZ s x=true
 | 0,x=>⟨(fun h=>by cases h),fun h=>by omega⟩
 | k+1,x=>by
   rw[ZbV]
   split
   ·rename_i h
    rw[List.mem_append,Zdp s k,List.mem_singleton]
    constructor
    ·rintro(⟨h1,h2,h3⟩|rfl)
     ·exact⟨h1,by omega,h3⟩
     ·exact⟨by omega,by omega,h⟩
    ·rintro⟨h1,h2,h3⟩
     by_cases e:x=(k:Int)+1
     ·exact .inr e
     ·exact .inl ⟨h1,by omega,h3⟩
   ·rename_i h
    rw[Zdp s k]
    constructor
    ·rintro⟨h1,h2,h3⟩;exact⟨h1,by omega,h3⟩
    ·rintro⟨h1,h2,h3⟩
     refine⟨h1,?_,h3⟩
     apply ZrO
     intro hn;have:x=(k:Int)+1:=by omega
     rw[this]at h3;exact h h3
theorem ZcG(s:Zax):∀(k:Nat),(ZbV s k).Pairwise (· < ·)
 | 0=>.nil
 | k+1=>by
   rw[ZbV]
   split
   ·rw[List.pairwise_append]
    refine⟨ZcG s k,List.pairwise_singleton _ _,fun a ha b hb=>?_⟩;rw[List.mem_singleton]at hb;have:=(Zdp s k a).1 ha;omega
   ·exact ZcG s k
theorem listV_mem(s:Zax)(x:Int):x∈Zex s↔ZaZ s x=true:=by
 unfold Zex;rw[Zdp];exact⟨fun h=>h.2.2,fun h=>⟨(Zct h).1,(Zct h).2,h⟩⟩
theorem hasS_ofS(l:List Int)(x:Int):ZaZ (ofS l) x=true↔(1≤x∧x≤128)∧x∈l:=by
 by_cases hx:1≤x∧x≤128
 ·obtain⟨i,hi,rfl⟩:∃i:Nat,i<128∧x=(i:Int)+1:=⟨(x - 1).toNat,by omega,by omega⟩
  rw[Zbg _ _ hi];unfold ofS;rw[ZhG _ _ hi];have h0:(0:Zax).getLsbD i=false:=BitVec.getLsbD_zero;rw[h0,Bool.false_or,List.any_eq_true]
  constructor
  ·rintro⟨y,hy,e⟩
   have e':y=(i:Int)+1:=of_decide_eq_true e;rw[←e'];exact⟨by omega,hy⟩
  ·rintro⟨_,h⟩
   exact⟨_,h,ZrI rfl⟩
 ·constructor
  ·intro h;exact absurd (Zct h) hx
  ·intro h;exact absurd h.1 hx
theorem Zh9{l:List Int}(h:l.Pairwise (· < ·)):l.Nodup:=List.Pairwise.imp (fun bT e=>by omega) h
theorem ZoH{t:List VN}(hc:Zae t=0):∀(v:Nat),v<t.length→(vl t v).Nodup:=by
 intro v
 induction v using Nat.strongRecOn with
 | ind v ih =>
   intro hv;have hy:t[v]? =some t[v]:=Zry hv
   cases hl:Zai t[v]
   ·obtain⟨l,r,e1,e2,h1,h2,_⟩:=inner_ok hc hy hl
    rw[Ze9 hc hy hl e1 e2,List.nodup_append];refine⟨ih l h1 (by omega),ih r h2 (by omega),fun a ha b hb e=>?_⟩;subst e;exact Bel.apart hc hy hl e1 e2 ((ZeN hc l (by omega) a).1 ha) ((ZeN hc r (by omega) a).1 hb)
   ·rw[Zf3 hy hl];simp
structure SortedBel (t:List VN) (v:Nat) (l:List Int):Prop where
 sorted:l.Pairwise (· < ·)
 mem:∀x,x∈l↔Bel t v x
theorem SortedBel.len{t:List VN}(hc:Zae t=0){v:Nat}(hv:v<t.length){l:List Int}(h:SortedBel t v l):l.length=nv t v:=by
 have h1:=Zcx l (vl t v) (Zh9 h.sorted) (fun x hx=>(ZeN hc v hv x).2 ((h.mem x).1 hx));have h2:=Zcx (vl t v) l (ZoH hc v hv) (fun x hx=>(h.mem x).2 ((ZeN hc v hv x).1 hx));exact Nat.le_antisymm h1 h2
theorem belowR_spec{t:List VN}(hc:Zae t=0):∀(v:Nat),v<t.length→∀f,v<f→∃l,ZeG t f v=some l∧SortedBel t v l:=by
 intro v
 induction v using Nat.strongRecOn with
 | ind v ih =>
   intro hv f hf;obtain⟨f,rfl⟩:∃g,f=g+1:=⟨f - 1,by omega⟩;have hy:t[v]? =some t[v]:=Zry hv;rw[ZeG,hy];simp only;generalize t[v]=y at hy
   cases hl:Zai y
   ·obtain⟨l,r,e1,e2,h1,h2,_⟩:=inner_ok hc hy hl
    rw[if_neg (by omega)];have a1:y.left.toNat=l:=by omega
    have a2:y.right.toNat=r:=by omega
    obtain⟨la,f1,g1⟩:=ih l h1 (by omega) f (by omega);obtain⟨lb,f2,g2⟩:=ih r h2 (by omega) f (by omega);rw[a1,a2,f1,f2];simp only;have c1:=g1.len hc (by omega);have c2:=g2.len hc (by omega);have p1:=Zcg hc l (by omega);have p2:=Zcg hc r (by omega);have q1:=nv_le hc (v:=l) (by omega);have q2:=nv_le hc (v:=r) (by omega);have ht:=(Zam hc).2.1
    have ag:∀x,x∈Zex (ofS (la++lb))↔Bel t v x:=fun x=>by
     rw[listV_mem,hasS_ofS,List.mem_append,g1.mem,g2.mem,Bel.kids hc hy hl e1 e2]
     constructor
     ·exact fun h=>h.2
     ·intro h
      refine⟨?_,h⟩;rcases h with h|h <;> exact h.range
    have aJ:∀k:List Int,1≤k.length→k≠[]:=fun k hk e=>by rw[e]at hk;simp at hk
    have hS:SortedBel t v (Zex (ofS (la++lb))):=⟨ZcG _ _,ag⟩;have c3:=hS.len hc hv;have p3:=Zcg hc v hv;rw[if_pos ⟨by omega,aJ _ (by omega),aJ _ (by omega),by omega,by omega,aJ _ (by omega)⟩];exact⟨_,rfl,hS⟩
   ·have:y.left<0:=by simp only[Zai,ZrK,ZrN]at hl;omega
    rw[if_pos this];exact⟨_,rfl,List.pairwise_singleton _ _,fun x=>by rw[List.mem_singleton,Bel.leaf hc hy hl]⟩
theorem varsR_spec{t:List VN}(hc:Zae t=0):∃l,Zf1 t=some l∧SortedBel t (t.length - 1) l:=by
 have h0:=(Zam hc).1;exact belowR_spec hc (t.length - 1) (by omega) (t.length+1) (by omega)
end Go.Proofs.YtemnmcfmabamcaaGreatDoor.L
