import Derived.Test.YtmnjakejhbpkoaaGreatDoorWLaw1
import Derived.Test.YtmnjakejhbpkoaaGreatDoorWText
import Derived.Test.YtmnjakejhbpkoaaGreatDoorWReg
set_option linter.unusedSimpArgs false
set_option linter.unusedVariables false
namespace Go.Proofs.YtmnjakejhbpkoaaGreatDoor.L
theorem itoa_all:((List.range 257).all fun k=>decide (0 < (Lib.itoa ((k:Int) - 128)).length) && decide ((Lib.itoa ((k:Int) - 128)).length≤4)) = true:=by kernel_rfl
theorem itoa_small (v:Int) (h:-128≤v∧v≤128):0 < (Lib.itoa v).length∧(Lib.itoa v).length≤4:=by
 have:=List.all_eq_true.1 itoa_all (v+128).toNat (List.mem_range.2 (by omega))
 rw [show (((v+128).toNat:Nat):Int) - 128 = v by omega] at this
 simpa using this
end Go.Proofs.YtmnjakejhbpkoaaGreatDoor.L
namespace Go.Proofs.YtmnjakejhbpkoaaGreatDoor.L
def joinT (g:Nat→List UInt8):List (Nat × Nat)→List UInt8
 | []=>[]
 | p :: r=>(g p.1++[32]++g p.2)++(r.flatMap fun q=>[59,32]++(g q.1++[32]++g q.2))
def txF:Nat→List SNode→Nat→List UInt8
 | 0,_,_=>[]
 | f+1,ns,a=>match ns[a]? with
   | none=>[]
   | some n=>if n.el = [] then (if n.lit≠0 then Lib.itoa n.lit else if a = 1 then [84] else [70]) else [40]++joinT (txF f ns) n.el++[41]
def tx (ns:List SNode) (a:Nat):List UInt8:=txF (a+1) ns a
theorem joinT_congr {g h:Nat→List UInt8}:∀ {l:List (Nat × Nat)},(∀ p∈l,g p.1 = h p.1∧g p.2 = h p.2)→joinT g l = joinT h l
 | [],_=>rfl
 | p :: r,hh=>by
   have h0:=hh p (List.mem_cons_self ..)
   rw [joinT,joinT,h0.1,h0.2]
   congr 1
   have:∀ (k:List (Nat × Nat)),(∀ p∈k,g p.1 = h p.1∧g p.2 = h p.2)→(k.flatMap fun q=>[59,32]++(g q.1++[32]++g q.2)) = k.flatMap fun q=>[59,32]++(h q.1++[32]++h q.2):=by
    intro k
    induction k with
    | nil=>intro _;rfl
    | cons q k ih =>
      intro hk
      have h1:=hk q (List.mem_cons_self ..)
      rw [List.flatMap_cons,List.flatMap_cons,ih fun p hp=>hk p (List.mem_cons_of_mem _ hp),h1.1,h1.2]
   exact this r fun p hp=>hh p (List.mem_cons_of_mem _ hp)
theorem txF_fuel {ns:List SNode} (hk:Kids ns):∀ (a f g:Nat),a < f→a < g→txF f ns a = txF g ns a:=by
 intro a
 induction a using Nat.strongRecOn with
 | ind a ih =>
   intro f g hf hg
   obtain ⟨f,rfl⟩:∃ f',f = f'+1:=⟨f - 1,by omega⟩
   obtain ⟨g,rfl⟩:∃ g',g = g'+1:=⟨g - 1,by omega⟩
   rw [txF,txF]
   cases hn:ns[a]? with
   | none=>rfl
   | some n =>
     simp only
     split
     ·rfl
     ·rw [joinT_congr fun p hp=>?_]
      obtain ⟨h1,h2⟩:=hk a n hn p hp
      exact ⟨ih p.1 h1 f g (by omega) (by omega),ih p.2 h2 f g (by omega) (by omega)⟩
theorem tx_node {ns:List SNode} (hk:Kids ns) {a:Nat} {n:SNode} (hn:ns[a]? = some n):tx ns a = if n.el = [] then (if n.lit≠0 then Lib.itoa n.lit else if a = 1 then [84] else [70]) else [40]++joinT (tx ns) n.el++[41]:=by
 rw [tx,txF,hn]
 simp only
 split
 ·rfl
 ·rw [joinT_congr fun p hp=>?_]
  obtain ⟨h1,h2⟩:=hk a n hn p hp
  exact ⟨txF_fuel hk p.1 a (p.1+1) h1 (by omega),txF_fuel hk p.2 a (p.2+1) h2 (by omega)⟩
def tB (n:Nat):Nat:=if n≤1 then 4 else if n = 2 then 24 else if n = 3 then 126 else if n = 4 then 1066 else if n = 5 then 17170 else 549666
theorem tB_split {nl nr:Nat} (h1:1≤nl) (h2:1≤nr) (h6:nl+nr≤6):2 ^ nl * (tB nl+tB nr+3)+2≤tB (nl+nr):=by
 have hl:nl = 1∨nl = 2∨nl = 3∨nl = 4∨nl = 5:=by omega
 rcases hl with rfl | rfl | rfl | rfl | rfl <;> (have hr:nr = 1∨nr = 2∨nr = 3∨nr = 4∨nr = 5:=by omega) <;> rcases hr with rfl | rfl | rfl | rfl | rfl <;> first | omega | decide
theorem tB_mono {a b:Nat} (h:a≤b):tB a≤tB b:=by
 unfold tB
 repeat' split
 all_goals omega
theorem joinT_len (g:Nat→List UInt8) (b c:Nat):∀ (l:List (Nat × Nat)),(∀ p∈l,(g p.1).length≤b∧(g p.2).length≤c)→(joinT g l).length≤l.length * (b+c+3)
 | [],_=>Nat.zero_le _
 | p :: r,hh=>by
   have h0:=hh p (List.mem_cons_self ..)
   have:∀ (k:List (Nat × Nat)),(∀ p∈k,(g p.1).length≤b∧(g p.2).length≤c)→(k.flatMap fun q=>[59,32]++(g q.1++[32]++g q.2)).length≤k.length * (b+c+3):=by
    intro k
    induction k with
    | nil=>intro _;exact Nat.zero_le _
    | cons q k ih =>
      intro hk
      have h1:=hk q (List.mem_cons_self ..)
      have h2:=ih fun p hp=>hk p (List.mem_cons_of_mem _ hp)
      rw [List.flatMap_cons,List.length_append,List.length_cons,Nat.succ_mul]
      simp only [List.length_append,List.length_cons,List.length_nil]
      omega
   have h2:=this r fun p hp=>hh p (List.mem_cons_of_mem _ hp)
   rw [joinT,List.length_append,List.length_cons,Nat.succ_mul]
   simp only [List.length_append,List.length_cons,List.length_nil]
   omega
theorem tx_len {s:St} (h:Inv s) (hfew:s.tree.length≤11):∀ (a:Nat),a < s.nodes.length→∀ v,v < s.tree.length→Dep (Bel s.tree v) (sem s.nodes a)→0 < (tx s.nodes a).length∧(tx s.nodes a).length≤tB (nv s.tree v):=by
 intro a
 induction a using Nat.strongRecOn with
 | ind a ih =>
   intro ha v hv hd
   have hn:=List.getElem?_eq_getElem ha
   have np:=nv_pos h.tree v hv
   have hone:4≤tB (nv s.tree v):=Nat.le_trans (by decide:4≤tB 1) (tB_mono np)
   have hk:=h.kids
   rcases h.kind ha with rfl | rfl | ⟨h2,n,hn',hl | hk'⟩
   ·rw [tx_node hk h.zero];simp [constN];omega
   ·rw [tx_node hk h.one];simp [constN];omega
   ·rw [tx_node hk hn',if_pos hl.el,if_pos hl.lit]
    obtain ⟨u,y,h1,h2,h3,h4⟩:=hl.leaf
    simp only [leafB,Bool.and_eq_true,decide_eq_true_eq] at h3
    have:=itoa_small n.lit (by omega)
    omega
   ·obtain ⟨Q,q1,q2,q3⟩:=h.at_und h2 hn' hd
    obtain ⟨P,y,l,r,e1,e2,e3,e4,e5,e6,_⟩:=h.facts hn' hk'
    have hQP:Q = P:=by omega
    subst hQP
    obtain ⟨l',r',b1,b2,b3,b4,b5,_⟩:=inner_ok h.tree e2 e3
    obtain rfl:l' = l:=by omega
    obtain rfl:r' = r:=by omega
    have hnv:=nv_inner h.tree e2 e3 e4 e5
    have np1:=nv_pos h.tree l' (by omega)
    have np2:=nv_pos h.tree r' (by omega)
    have n6:=nv_le h.tree q2
    have hll:=e6.len_l h.tree (by omega)
    have hne:n.el≠[]:=fun e=>by have:=e6.two;rw [e] at this;simp at this
    rw [tx_node hk hn',if_neg hne]
    have hj:=joinT_len (tx s.nodes) (tB (nv s.tree l')) (tB (nv s.tree r')) n.el (fun p hp=>by
     have:=hk'.kids p hp
     exact ⟨(ih p.1 (by omega) (by omega) l' (by omega) (e6.pdep p hp)).2,(ih p.2 (by omega) (by omega) r' (by omega) (e6.sdep p hp)).2⟩)
    have hs:=tB_split np1 np2 (by omega)
    have hm:=Nat.mul_le_mul_right (tB (nv s.tree l')+tB (nv s.tree r')+3) hll
    have hmono:=tB_mono (q3.nv_le h.tree)
    rw [hnv] at hmono
    simp only [List.length_append,List.length_cons,List.length_nil]
    constructor
    ·omega
    ·omega
def GoodT (ns:List SNode) (m:List (Nat × List UInt8)):Prop:=∀ a t,asc m a = some t→t = tx ns a
theorem elsT_join (m:List (Nat × List UInt8)) (l:List (Nat × Nat)):elsT m l = joinT (ascT m) l:=by cases l <;> rfl
theorem GoodT.ascTx {ns:List SNode} {m:List (Nat × List UInt8)} (h:GoodT ns m) {a:Nat} {t:List UInt8} (ha:asc m a = some t):ascT m a = tx ns a:=by
 unfold ascT;rw [ha];exact h a t ha
def MoreT (m m':List (Nat × List UInt8)):Prop:=∀ a t,asc m a = some t→asc m' a = some t
theorem wrL_spec {ns:List SNode} {g:Nat→List (Nat × List UInt8)→Option (List (Nat × List UInt8))} {b c:Nat} (hb:b≤1048576) (hc:c≤1048576):∀ (l:List (Nat × Nat)) (m:List (Nat × List UInt8)) (z:Nat),
  (∀ p∈l,∀ m,GoodT ns m→∃ m',g p.1 m = some m'∧GoodT ns m'∧MoreT m m'∧∃ t,asc m' p.1 = some t)→(∀ p∈l,∀ m,GoodT ns m→∃ m',g p.2 m = some m'∧GoodT ns m'∧MoreT m m'∧∃ t,asc m' p.2 = some t) →
  (∀ p∈l,(tx ns p.1).length≤b∧(tx ns p.2).length≤c)→GoodT ns m →
  ∃ m' z',wrL g l m z = some (m',z')∧GoodT ns m'∧MoreT m m'∧z'≤z+l.length * (b+c+3)∧∀ p∈l,(∃ t,asc m' p.1 = some t)∧∃ t,asc m' p.2 = some t
 | [],m,z,_,_,_,hm=>⟨m,z,rfl,hm,fun _ _ h=>h,by simp,fun _ h=>by cases h⟩
 | p :: r,m,z,h1,h2,h3,hm=>by
   obtain ⟨m1,a1,a2,a3,t1,a4⟩:=h1 p (List.mem_cons_self ..) m hm
   obtain ⟨m2,b1,b2,b3,t2,b4⟩:=h2 p (List.mem_cons_self ..) m1 a2
   have l3:=h3 p (List.mem_cons_self ..)
   have e1:=b2.ascTx (b3 _ _ a4)
   have e2:=b2.ascTx b4
   obtain ⟨m',z',c1,c2,c3,c4,c5⟩:=wrL_spec hb hc r m2 (z+((tx ns p.1).length+(tx ns p.2).length+3)) (fun q hq=>h1 q (List.mem_cons_of_mem _ hq)) (fun q hq=>h2 q (List.mem_cons_of_mem _ hq)) (fun q hq=>h3 q (List.mem_cons_of_mem _ hq)) b2
   refine ⟨m',z',?_,c2,fun a t h=>c3 _ _ (b3 _ _ (a3 _ _ h)),?_,fun q hq=>?_⟩
   ·rw [wrL,a1];simp only
    rw [b1];simp only
    rw [e1,e2,if_pos ⟨by omega,by omega⟩];exact c1
   ·rw [List.length_cons,Nat.succ_mul];omega
   ·rcases List.mem_cons.1 hq with rfl | hq
    ·exact ⟨⟨t1,c3 _ _ (b3 _ _ a4)⟩,t2,c3 _ _ b4⟩
    ·exact c5 q hq
theorem writeF_spec {s:St} (h:Inv s) (hfew:s.tree.length≤11):∀ (a:Nat),a < s.nodes.length→∀ v,v < s.tree.length→Dep (Bel s.tree v) (sem s.nodes a)→∀ f,v+2≤f→∀ m,GoodT s.nodes m →
  ∃ m',writeF f s.nodes a m = some m'∧GoodT s.nodes m'∧MoreT m m'∧∃ t,asc m' a = some t:=by
 intro a
 induction a using Nat.strongRecOn with
 | ind a ih =>
   intro ha v hv hd f hf m hm
   obtain ⟨f,rfl⟩:∃ g,f = g+1:=⟨f - 1,by omega⟩
   rw [writeF]
   cases hma:asc m a with
   | some t=>exact ⟨m,rfl,hm,fun _ _ h=>h,t,hma⟩
   | none =>
     simp only
     have hk:=h.kids
     have hn:=List.getElem?_eq_getElem ha
     rw [hn]
     simp only
     generalize s.nodes[a] = n at hn
     have hput:∀ (m1:List (Nat × List UInt8)) (t:List UInt8),GoodT s.nodes m1→MoreT m m1→t = tx s.nodes a→GoodT s.nodes ((a,t) :: m1)∧MoreT m ((a,t) :: m1)∧∃ t',asc ((a,t) :: m1) a = some t':=fun m1 t h1 h2 ht=>by
      refine ⟨fun b u hb=>?_,fun b u hb=>?_,t,by rw [asc_cons];exact if_pos rfl⟩
      ·rw [asc_cons] at hb
       split at hb
       ·rename_i e
        cases hb
        rw [show b = a from e];exact ht
       ·exact h1 b u hb
      ·rw [asc_cons,if_neg (fun e:b = a=>by rw [e,hma] at hb;cases hb)]
       exact h2 b u hb
     by_cases hel:n.el = []
     ·rw [if_pos hel]
      obtain ⟨g1,g2,g3⟩:=hput m (if n.lit≠0 then Lib.itoa n.lit else if a = 1 then [84] else [70]) hm (fun _ _ h=>h) (by rw [tx_node hk hn,if_pos hel])
      exact ⟨_,rfl,g1,g2,g3⟩
     ·rw [if_neg hel]
      have h2:2≤a:=by
       apply Classical.byContradiction
       intro hlt
       have:a = 0∨a = 1:=by omega
       rcases this with rfl | rfl
       ·rw [h.zero] at hn;cases hn;exact hel rfl
       ·rw [h.one] at hn;cases hn;exact hel rfl
      rcases h.ok a n h2 hn with hl | hk'
      ·exact absurd hl.el hel
      obtain ⟨Q,q1,q2,q3⟩:=h.at_und h2 hn hd
      obtain ⟨P,y,l,r,e1,e2,e3,e4,e5,e6,_⟩:=h.facts hn hk'
      have hQP:Q = P:=by omega
      subst hQP
      obtain ⟨l',r',b1,b2,b3,b4,b5,_⟩:=inner_ok h.tree e2 e3
      obtain rfl:l' = l:=by omega
      obtain rfl:r' = r:=by omega
      have hQv:=q3.le h.tree
      have hnv:=nv_inner h.tree e2 e3 e4 e5
      have np1:=nv_pos h.tree l' (by omega)
      have np2:=nv_pos h.tree r' (by omega)
      have n6:=nv_le h.tree q2
      have hll:=e6.len_l h.tree (by omega)
      have hs:=tB_split np1 np2 (by omega)
      have hB:tB (nv s.tree l'+nv s.tree r')≤549666:=tB_mono (b:=6) (by omega)
      have hm1:=Nat.mul_le_mul_right (tB (nv s.tree l')+tB (nv s.tree r')+3) hll
      have hone:=Nat.mul_le_mul_right (tB (nv s.tree l')+tB (nv s.tree r')+3) (one_pow (nv s.tree l'))
      rw [Nat.one_mul] at hone
      have hlens:∀ p∈n.el,(0 < (tx s.nodes p.1).length∧(tx s.nodes p.1).length≤tB (nv s.tree l'))∧(0 < (tx s.nodes p.2).length∧(tx s.nodes p.2).length≤tB (nv s.tree r')):=fun p hp=>by
       have:=hk'.kids p hp
       exact ⟨tx_len h hfew p.1 (by omega) l' (by omega) (e6.pdep p hp),tx_len h hfew p.2 (by omega) r' (by omega) (e6.sdep p hp)⟩
      obtain ⟨m1,z,g1,g2,g3,g4,g5⟩:=wrL_spec (ns:=s.nodes) (g:=writeF f s.nodes) (b:=tB (nv s.tree l')) (c:=tB (nv s.tree r')) (by omega) (by omega) n.el m 0
       (fun p hp m hm=>by have:=hk'.kids p hp;exact ih p.1 (by omega) (by omega) l' (by omega) (e6.pdep p hp) f (by omega) m hm)
       (fun p hp m hm=>by have:=hk'.kids p hp;exact ih p.2 (by omega) (by omega) r' (by omega) (e6.sdep p hp) f (by omega) m hm)
       (fun p hp=>⟨(hlens p hp).1.2,(hlens p hp).2.2⟩) hm
      rw [g1]
      simp only
      have hasc:∀ p∈n.el,ascT m1 p.1 = tx s.nodes p.1∧ascT m1 p.2 = tx s.nodes p.2:=fun p hp=>by
       obtain ⟨⟨t1,k1⟩,t2,k2⟩:=g5 p hp
       exact ⟨g2.ascTx k1,g2.ascTx k2⟩
      have hpart:partT m1 n.el = [40]++joinT (tx s.nodes) n.el:=by rw [partT,elsT_join,joinT_congr hasc]
      have hj:=joinT_len (tx s.nodes) (tB (nv s.tree l')) (tB (nv s.tree r')) n.el (fun p hp=>⟨(hlens p hp).1.2,(hlens p hp).2.2⟩)
      have hcond:z≤1048576∧(partT m1 n.el).length≤4194304∧(∀ p∈n.el,(0 < (ascT m1 p.1).length∧(ascT m1 p.1).length≤1048576)∧(0 < (ascT m1 p.2).length∧(ascT m1 p.2).length≤1048576)):=by
       refine ⟨by omega,?_,fun p hp=>?_⟩
       ·rw [hpart]
        simp only [List.length_append,List.length_cons,List.length_nil]
        omega
       ·rw [(hasc p hp).1,(hasc p hp).2]
        have:=hlens p hp
        omega
      rw [if_pos hcond]
      obtain ⟨k1,k2,k3⟩:=hput m1 (partT m1 n.el++[41]) g2 g3 (by rw [tx_node hk hn,if_neg hel,hpart])
      exact ⟨_,rfl,k1,k2,k3⟩
theorem textF_spec {s:St} (h:Inv s) (hfew:s.tree.length≤11) {a:Nat} (ha:a < s.nodes.length) {v:Nat} (hv:v < s.tree.length) (hd:Dep (Bel s.tree v) (sem s.nodes a)) {f:Nat} (hf:v+2≤f):textF f s.nodes a = some (tx s.nodes a):=by
 obtain ⟨m',h1,h2,_,t,h3⟩:=writeF_spec h hfew a ha v hv hd f hf [] (fun _ _ h=>by cases h)
 unfold textF
 rw [h1]
 simp only
 rw [h2.ascTx h3]
theorem sorted_match {α β:Type} {k1:α→VSet} {k2:β→VSet} {R:α→β→Prop} (hR:∀ a b,R a b→k1 a = k2 b):∀ (l:List α) (m:List β),l.Pairwise (fun a b=>lessS (k1 a) (k1 b) = true)→m.Pairwise (fun a b=>lessS (k2 a) (k2 b) = true) →
  (∀ a∈l,∃ b∈m,R a b)→(∀ b∈m,∃ a∈l,R a b)→All2 R l m
 | [],[],_,_,_,_=>.nil
 | [],b :: m,_,_,_,h=>by obtain ⟨a,ha,_⟩:=h b (List.mem_cons_self ..);cases ha
 | a :: l,[],_,_,h,_=>by obtain ⟨b,hb,_⟩:=h a (List.mem_cons_self ..);cases hb
 | a :: l,b :: m,hl,hm,h1,h2=>by
   rw [List.pairwise_cons] at hl hm
   have hab:k1 a = k2 b:=by
    obtain ⟨b',hb',r1⟩:=h1 a (List.mem_cons_self ..)
    obtain ⟨a',ha',r2⟩:=h2 b (List.mem_cons_self ..)
    have e1:=hR _ _ r1
    have e2:=hR _ _ r2
    rcases List.mem_cons.1 hb' with rfl | hb'
    ·exact e1
    ·rcases List.mem_cons.1 ha' with rfl | ha'
     ·exact e2
     ·have c1:=hm.1 b' hb'
      have c2:=hl.1 a' ha'
      rw [e2,e1] at c2
      rw [lessS_asymm c1] at c2;cases c2
   have h0:R a b:=by
    obtain ⟨b',hb',r1⟩:=h1 a (List.mem_cons_self ..)
    rcases List.mem_cons.1 hb' with rfl | hb'
    ·exact r1
    ·have c1:=hm.1 b' hb'
     rw [←hab,hR _ _ r1,lessS_irrefl] at c1;cases c1
   refine .cons h0 (sorted_match hR l m hl.2 hm.2 (fun a' ha'=>?_) fun b' hb'=>?_)
   ·obtain ⟨b',hb',r1⟩:=h1 a' (List.mem_cons_of_mem _ ha')
    rcases List.mem_cons.1 hb' with rfl | hb'
    ·have c1:=hl.1 a' ha'
     rw [hR _ _ r1,hab,lessS_irrefl] at c1;cases c1
    ·exact ⟨b',hb',r1⟩
   ·obtain ⟨a',ha',r1⟩:=h2 b' (List.mem_cons_of_mem _ hb')
    rcases List.mem_cons.1 ha' with rfl | ha'
    ·have c1:=hm.1 b' hb'
     rw [←hR _ _ r1,hab,lessS_irrefl] at c1;cases c1
    ·exact ⟨a',ha',r1⟩
theorem joinT_all2 {g h:Nat→List UInt8}:∀ {l m:List (Nat × Nat)},All2 (fun p q=>g p.1 = h q.1∧g p.2 = h q.2) l m→joinT g l = joinT h m
 | _,_,.nil=>rfl
 | p :: r,q :: k,.cons h0 hr=>by
   rw [joinT,joinT,h0.1,h0.2]
   congr 1
   have:∀ (k n:List (Nat × Nat)),All2 (fun p q=>g p.1 = h q.1∧g p.2 = h q.2) k n→(k.flatMap fun q=>[59,32]++(g q.1++[32]++g q.2)) = n.flatMap fun q=>[59,32]++(h q.1++[32]++h q.2):=by
    intro k n hh
    induction hh with
    | nil=>rfl
    | cons h1 _ ih=>rw [List.flatMap_cons,List.flatMap_cons,ih,h1.1,h1.2]
   exact this r k hr
inductive Same (s s':St) (a b:Nat):Prop
 | zero:a = 0→b = 0→Same s s' a b
 | one:a = 1→b = 1→Same s s' a b
 | lit (n m:SNode):2≤a→2≤b→s.nodes[a]? = some n→s'.nodes[b]? = some m→LitOK s.tree n→LitOK s'.tree m→n.lit = m.lit→n.pl = m.pl→Same s s' a b
 | dec (n m:SNode):2≤a→2≤b→s.nodes[a]? = some n→s'.nodes[b]? = some m→DecOK s.tree s.nodes a n→DecOK s'.tree s'.nodes b m→n.pl = m.pl →
    All2 (fun p q=>sem s.nodes p.1 = sem s'.nodes q.1∧sem s.nodes p.2 = sem s'.nodes q.2) n.el m.el→Same s s' a b
theorem leOf_eq {n1 n2:List SNode} {i j:Nat} (h1:Min n1 i) (h2:Min n2 j) (e:sem n1 i = sem n2 j):leOf n1 i = leOf n2 j :=
 (h1.le _ (by rw [e];exact h2.sat)).antisymm (h2.le _ (by rw [←e];exact h1.sat))
theorem Inv.same {s s':St} (h:Inv s) (h':Inv s') (ht:s'.tree = s.tree) {a b:Nat} (ha:a < s.nodes.length) (hb:b < s'.nodes.length) (e:sem s.nodes a = sem s'.nodes b):Same s s' a b:=by
 have litc:∀ {s:St} (h:Inv s) {i:Nat} {n:SNode},s.nodes[i]? = some n→LitOK s.tree n→∀ c:Bool,¬ ∀ x,sem s.nodes i x = c:=fun h i n hn hl c hc=>by
  obtain ⟨z1,z2,hz⟩:=const_not (fun x=>h.semLit hn hl x)
  exact hz (by rw [hc,hc])
 have decc:∀ {s:St} (h:Inv s) {i:Nat} {n:SNode},s.nodes[i]? = some n→DecOK s.tree s.nodes i n→∀ c:Bool,¬ ∀ x,sem s.nodes i x = c:=fun h i n hn hl c hc=>by
  obtain ⟨_,_,_,_,_,_,_,_,_,_,_,e1,_⟩:=h.facts hn hl
  obtain ⟨z1,z2,hz⟩:=e1.const_not
  exact hz (by rw [hc,hc])
 have ld:∀ {s s':St} (h:Inv s) (h':Inv s') (_:s'.tree = s.tree) {i j:Nat} {n m:SNode},s.nodes[i]? = some n→s'.nodes[j]? = some m→LitOK s.tree n→DecOK s'.tree s'.nodes j m→sem s.nodes i = sem s'.nodes j→False:=fun {s s'} h h' ht {i j n m} hn hm hl hd e=>by
  obtain ⟨P,y,l,r,_,hy,hlf,hyl,hyr,_,_,e1,e2,_⟩:=h'.facts hm hd
  obtain ⟨u,z,hu,hz,hzl,hzv⟩:=hl.leaf
  have hdep:Dep (Bel s'.tree u) (sem s'.nodes j):=by
   rw [←e,ht]
   intro x x' hx
   rw [h.semLit hn hl,h.semLit hn hl,hx _ ((Bel.leaf h.tree hz hzl _).2 hzv.symm)]
  rw [←ht] at hz
  have:=(place_und h'.tree hy hlf hyl hyr e1 e2 hdep).leaf h'.tree hz hzl
  rw [this,hz] at hy
  cases hy
  rw [hzl] at hlf;cases hlf
 rcases h.kind ha with rfl | rfl | ⟨h2,n,hn,hk⟩
 ·exact .zero rfl (h'.const0 hb fun x=>by rw [←e];exact h.sem0 x)
 ·exact .one rfl (h'.const1 hb fun x=>by rw [←e];exact h.sem1 x)
 ·rcases h'.kind hb with rfl | rfl | ⟨h2',m,hm,hk'⟩
  ·exact .zero (h.const0 ha fun x=>by rw [e];exact h'.sem0 x) rfl
  ·exact .one (h.const1 ha fun x=>by rw [e];exact h'.sem1 x) rfl
  ·rcases hk with hl | hd
   ·rcases hk' with hl' | hd'
    ·have hev:∀ x:Asg,(x (n.lit.natAbs:Int) == decide (0 < n.lit)) = (x (m.lit.natAbs:Int) == decide (0 < m.lit)):=fun x=>by
      rw [←h.semLit hn hl,←h'.semLit hm hl',e]
     have hsg:decide (0 < n.lit) = decide (0 < m.lit):=by
      have:=hev (fun _=>true)
      simpa using this
     have hv:n.lit.natAbs = m.lit.natAbs:=by
      apply Classical.byContradiction
      intro hne
      have:=hev (fun v=>decide (v = (n.lit.natAbs:Int)))
      rw [hsg] at this
      have h2:¬ ((m.lit.natAbs:Int) = (n.lit.natAbs:Int)):=by omega
      simp only [decide_true,h2,decide_false] at this
      cases hb:decide (0 < m.lit) <;> rw [hb] at this <;> simp at this
     have hlit:n.lit = m.lit:=by
      have a1:=hl.lit
      have a2:=hl'.lit
      have:(0 < n.lit)↔(0 < m.lit):=by simpa using hsg
      omega
     obtain ⟨u,z,hu,hz,hzl,hzv⟩:=hl.leaf
     obtain ⟨u',z',hu',hz',hzl',hzv'⟩:=hl'.leaf
     rw [ht] at hz'
     have:=leaf_var h.tree hz hz' hzl hzl' (by rw [hzv,hzv',hv])
     exact .lit n m h2 h2' hn hm hl hl' hlit (by rw [hu,hu',this])
    ·exact (ld h h' ht hn hm hl hd' e).elim
   ·rcases hk' with hl' | hd'
    ·exact (ld h' h ht.symm hm hn hl' hd e.symm).elim
    ·obtain ⟨P,y,l,r,hP,hy,hlf,hyl,hyr,hp,hdis,e1,e2,hdep⟩:=h.facts hn hd
     obtain ⟨P',y',l',r',hP',hy',hlf',hyl',hyr',hp',hdis',e1',e2',hdep'⟩:=h'.facts hm hd'
     rw [ht] at hy' hp' e1' e2' hdep'
     have u1:=place_und h.tree hy hlf hyl hyr e1 e2 (by rw [e];exact hdep')
     have u2:=place_und h.tree hy' hlf' hyl' hyr' e1' e2' (by rw [←e];exact hdep)
     have hPP:P = P':=by have:=u1.le h.tree;have:=u2.le h.tree;omega
     subst hPP
     rw [hy] at hy'
     cases hy'
     obtain rfl:l = l':=by omega
     obtain rfl:r = r':=by omega
     have hev:∀ x,(n.el.any fun q=>sem s.nodes q.1 x && sem s.nodes q.2 x) = m.el.any fun q=>sem s'.nodes q.1 x && sem s'.nodes q.2 x:=fun x=>by
      rw [←h.semDec hn hd,←h'.semDec hm hd',e]
     have m1:=parts_match h.tree hy hlf hyl hyr hp hp' hev hdis hdis'
     have m2:=parts_match h.tree hy hlf hyl hyr hp' hp (fun x=>(hev x).symm) hdis' hdis
     refine .dec n m h2 h2' hn hm hd hd' (by rw [hP,hP']) ?_
     have hmin:∀ {s:St} (h:Inv s) {i:Nat} {n:SNode} {l r:Nat},s.nodes[i]? = some n→DecOK s.tree s.nodes i n→Parts s.tree s.nodes l r n.el→∀ p∈n.el,Min s.nodes p.1:=fun h i n l r hn hd hp p hpm=>by
      have:=hd.kids p hpm
      have:=(List.getElem?_eq_some_iff.1 hn).1
      exact h.min _ (h.ne0 (hp.pne p hpm)) (by omega)
     have hmin1:=hmin h hn hd hp
     have hmin2:=hmin h' hm hd' (by rw [ht];exact hp')
     have:=sorted_match (k1:=fun p:Nat × Nat=>leOf s.nodes p.1) (k2:=fun p:Nat × Nat=>leOf s'.nodes p.1)
      (R:=fun p q=>(p∈n.el∧q∈m.el)∧sem s.nodes p.1 = sem s'.nodes q.1∧sem s.nodes p.2 = sem s'.nodes q.2) (fun p q hr=>leOf_eq (hmin1 p hr.1.1) (hmin2 q hr.1.2) hr.2.1) n.el m.el hd.sorted hd'.sorted
      (fun p hpm=>by obtain ⟨q,hq,g⟩:=m1 p hpm;exact ⟨q,hq,⟨hpm,hq⟩,g⟩) (fun q hqm=>by obtain ⟨p,hpm,g1,g2⟩:=m2 q hqm;exact ⟨p,hpm,⟨hpm,hqm⟩,g1.symm,g2.symm⟩)
     exact this.imp_mem fun _ _ _ hr=>hr.2
theorem tx_eq {s s':St} (h:Inv s) (h':Inv s') (ht:s'.tree = s.tree):∀ (a b:Nat),a < s.nodes.length→b < s'.nodes.length→sem s.nodes a = sem s'.nodes b→tx s.nodes a = tx s'.nodes b:=by
 intro a
 induction a using Nat.strongRecOn with
 | ind a ih =>
   intro b ha hb e
   have hk:=h.kids
   have hk':=h'.kids
   cases h.same h' ht ha hb e with
   | zero ea eb=>subst ea;subst eb;rw [tx_node hk h.zero,tx_node hk' h'.zero];rfl
   | one ea eb=>subst ea;subst eb;rw [tx_node hk h.one,tx_node hk' h'.one];rfl
   | lit n m _ _ hn hm hl hl' e1 _=>rw [tx_node hk hn,tx_node hk' hm,if_pos hl.el,if_pos hl'.el,if_pos hl.lit,if_pos hl'.lit,e1]
   | dec n m _ _ hn hm hd hd' _ hA =>
     obtain ⟨_,_,_,_,_,_,_,_,_,hp⟩:=hd.parts
     obtain ⟨_,_,_,_,_,_,_,_,_,hp'⟩:=hd'.parts
     have hne:n.el≠[]:=fun e=>by have:=hp.two;rw [e] at this;simp at this
     have hne':m.el≠[]:=fun e=>by have:=hp'.two;rw [e] at this;simp at this
     rw [tx_node hk hn,tx_node hk' hm,if_neg hne,if_neg hne']
     congr 2
     refine joinT_all2 ?_
     have hA2:All2 (fun p q=>(q.1 < b∧q.2 < b)∧sem s.nodes p.1 = sem s'.nodes q.1∧sem s.nodes p.2 = sem s'.nodes q.2) n.el m.el:=by
      have:∀ {l k:List (Nat × Nat)},All2 (fun p q=>sem s.nodes p.1 = sem s'.nodes q.1∧sem s.nodes p.2 = sem s'.nodes q.2) l k→(∀ q∈k,q.1 < b∧q.2 < b)→All2 (fun p q=>(q.1 < b∧q.2 < b)∧sem s.nodes p.1 = sem s'.nodes q.1∧sem s.nodes p.2 = sem s'.nodes q.2) l k:=by
       intro l k hA
       induction hA with
       | nil=>intro _;exact .nil
       | cons h0 _ ihA=>intro hq;exact .cons ⟨hq _ (List.mem_cons_self ..),h0⟩ (ihA fun q hq'=>hq q (List.mem_cons_of_mem _ hq'))
      exact this hA fun q hq=>hd'.kids q hq
     refine hA2.imp_mem fun p hp q hr=>?_
     have:=hd.kids p hp
     exact ⟨ih p.1 (by omega) q.1 (by omega) (by omega) hr.2.1,ih p.2 (by omega) q.2 (by omega) (by omega) hr.2.2⟩
end Go.Proofs.YtmnjakejhbpkoaaGreatDoor.L
namespace Go.Proofs.YtmnjakejhbpkoaaGreatDoor.L
theorem pickF_spec {g:Nat→Option Bool} {q:Nat→Bool}:∀ (l:List (Nat × Nat)),(∀ p∈l,g p.1 = some (q p.1))→(∃ p∈l,q p.1 = true)→∃ p∈l,q p.1 = true∧pickF g l = some p.2
 | [],_,h=>by obtain ⟨_,h,_⟩:=h;cases h
 | p :: r,h1,h2=>by
   rw [pickF,h1 p (List.mem_cons_self ..)]
   cases hq:q p.1
   ·obtain ⟨o,ho,hx⟩:=h2
    rcases List.mem_cons.1 ho with rfl | ho
    ·rw [hq] at hx;cases hx
    ·obtain ⟨o',ho',hx',e⟩:=pickF_spec r (fun p hp=>h1 p (List.mem_cons_of_mem _ hp)) ⟨o,ho,hx⟩
     exact ⟨o',List.mem_cons_of_mem _ ho',hx',e⟩
   ·exact ⟨p,List.mem_cons_self ..,hq,rfl⟩
theorem evalF_spec {s:St} (h:Inv s) (x:VSet):∀ (a:Nat),a < s.nodes.length→∀ v,v < s.tree.length→Dep (Bel s.tree v) (sem s.nodes a)→∀ f,v+2≤f→evalF f s.nodes a x = some (sem s.nodes a (asg x)):=by
 intro a
 induction a using Nat.strongRecOn with
 | ind a ih =>
   intro ha v hv hd f hf
   obtain ⟨f,rfl⟩:∃ g,f = g+1:=⟨f - 1,by omega⟩
   rw [evalF]
   rcases h.kind ha with rfl | rfl | ⟨h2,n,hn,hl | hk⟩
   ·rw [h.zero,h.sem0];rfl
   ·rw [h.one,h.sem1];rfl
   ·rw [hn]
    simp only
    rw [if_neg (fun hc=>hl.lit hc.2),if_pos hl.lit,h.semLit hn hl]
    have:absI n.lit = (n.lit.natAbs:Int):=by unfold absI;have:=hl.lit;split <;> omega
    rw [this];rfl
   ·obtain ⟨Q,q1,q2,q3⟩:=h.at_und h2 hn hd
    obtain ⟨P,y,l,r,e1,e2,e3,e4,e5,e6,_⟩:=h.facts hn hk
    have hQP:Q = P:=by omega
    subst hQP
    obtain ⟨l',r',b1,b2,b3,b4,b5,_⟩:=inner_ok h.tree e2 e3
    obtain rfl:l' = l:=by omega
    obtain rfl:r' = r:=by omega
    have hQv:=q3.le h.tree
    rw [hn]
    simp only
    rw [if_pos ⟨by omega,hk.lit⟩]
    obtain ⟨p,hp,hx,e⟩:=pickF_spec (g:=fun p=>evalF f s.nodes p x) (q:=fun p=>sem s.nodes p (asg x)) n.el (fun p hp=>by
     have:=hk.kids p hp
     exact ih p.1 (by omega) (by omega) l' (by omega) (e6.pdep p hp) f (by omega)) (e6.cover (asg x))
    rw [e]
    simp only
    have:=hk.kids p hp
    rw [ih p.2 (by omega) (by omega) r' (by omega) (e6.sdep p hp) f (by omega),h.semDec hn hk,e6.at hp hx]
inductive Reach (ns:List SNode) (a:Nat):Nat→Prop
 | refl:Reach ns a a
 | prime {b:Nat} {n:SNode} {p:Nat × Nat}:Reach ns a b→ns[b]? = some n→p∈n.el→Reach ns a p.1
 | sub {b:Nat} {n:SNode} {p:Nat × Nat}:Reach ns a b→ns[b]? = some n→p∈n.el→Reach ns a p.2
def Shut (ns:List SNode) (o:List Nat) (b:Nat):Prop:=∀ n,ns[b]? = some n→∀ p∈n.el,p.1∈o∧p.2∈o
end Go.Proofs.YtmnjakejhbpkoaaGreatDoor.L
namespace Go.Proofs.YtmnjakejhbpkoaaGreatDoor.L
theorem listVK_mem (s:VSet):∀ (k:Nat) (x:Int),x∈listVK s k↔1≤x∧x≤k∧hasS s x = true
 | 0,x=>⟨(fun h=>by cases h),fun h=>by omega⟩
 | k+1,x=>by
   rw [listVK]
   split
   ·rename_i h
    rw [List.mem_append,listVK_mem s k,List.mem_singleton]
    constructor
    ·rintro (⟨h1,h2,h3⟩ | rfl)
     ·exact ⟨h1,by omega,h3⟩
     ·exact ⟨by omega,by omega,h⟩
    ·rintro ⟨h1,h2,h3⟩
     by_cases e:x = (k:Int)+1
     ·exact .inr e
     ·exact .inl ⟨h1,by omega,h3⟩
   ·rename_i h
    rw [listVK_mem s k]
    constructor
    ·rintro ⟨h1,h2,h3⟩;exact ⟨h1,by omega,h3⟩
    ·rintro ⟨h1,h2,h3⟩
     refine ⟨h1,?_,h3⟩
     apply Classical.byContradiction
     intro hn
     have:x = (k:Int)+1:=by omega
     rw [this] at h3;exact h h3
theorem listVK_sorted (s:VSet):∀ (k:Nat),(listVK s k).Pairwise (· < ·)
 | 0=>.nil
 | k+1=>by
   rw [listVK]
   split
   ·rw [List.pairwise_append]
    refine ⟨listVK_sorted s k,List.pairwise_singleton _ _,fun a ha b hb=>?_⟩
    rw [List.mem_singleton] at hb
    have:=(listVK_mem s k a).1 ha
    omega
   ·exact listVK_sorted s k
theorem listV_mem (s:VSet) (x:Int):x∈listV s↔hasS s x = true:=by
 unfold listV
 rw [listVK_mem]
 exact ⟨fun h=>h.2.2,fun h=>⟨(hasS_range h).1,(hasS_range h).2,h⟩⟩
theorem hasS_ofS (l:List Int) (x:Int):hasS (ofS l) x = true↔(1≤x∧x≤128)∧x∈l:=by
 by_cases hx:1≤x∧x≤128
 ·obtain ⟨i,hi,rfl⟩:∃ i:Nat,i < 128∧x = (i:Int)+1:=⟨(x - 1).toNat,by omega,by omega⟩
  rw [hasS_bit _ _ hi]
  unfold ofS
  rw [bit_of _ _ hi]
  have h0:(0:VSet).getLsbD i = false:=BitVec.getLsbD_zero
  rw [h0,Bool.false_or,List.any_eq_true]
  constructor
  ·rintro ⟨y,hy,e⟩
   have e':y = (i:Int)+1:=of_decide_eq_true e
   rw [←e'];exact ⟨by omega,hy⟩
  ·rintro ⟨_,h⟩
   exact ⟨_,h,decide_eq_true rfl⟩
 ·constructor
  ·intro h;exact absurd (hasS_range h) hx
  ·intro h;exact absurd h.1 hx
theorem sorted_nodup {l:List Int} (h:l.Pairwise (· < ·)):l.Nodup:=List.Pairwise.imp (fun hab e=>by omega) h
theorem vl_nodup {t:List VN} (hc:checkF t = 0):∀ (v:Nat),v < t.length→(vl t v).Nodup:=by
 intro v
 induction v using Nat.strongRecOn with
 | ind v ih =>
   intro hv
   have hy:t[v]? = some t[v]:=List.getElem?_eq_getElem hv
   cases hl:leafB t[v]
   ·obtain ⟨l,r,e1,e2,h1,h2,_⟩:=inner_ok hc hy hl
    rw [vl_inner hc hy hl e1 e2,List.nodup_append]
    refine ⟨ih l h1 (by omega),ih r h2 (by omega),fun a ha b hb e=>?_⟩
    subst e
    exact Bel.apart hc hy hl e1 e2 ((mem_vl hc l (by omega) a).1 ha) ((mem_vl hc r (by omega) a).1 hb)
   ·rw [vl_leaf hy hl];simp
structure SortedBel (t:List VN) (v:Nat) (l:List Int):Prop where
 sorted:l.Pairwise (· < ·)
 mem:∀ x,x∈l↔Bel t v x
theorem SortedBel.len {t:List VN} (hc:checkF t = 0) {v:Nat} (hv:v < t.length) {l:List Int} (h:SortedBel t v l):l.length = nv t v:=by
 have h1:=nodup_len l (vl t v) (sorted_nodup h.sorted) (fun x hx=>(mem_vl hc v hv x).2 ((h.mem x).1 hx))
 have h2:=nodup_len (vl t v) l (vl_nodup hc v hv) (fun x hx=>(h.mem x).2 ((mem_vl hc v hv x).1 hx))
 exact Nat.le_antisymm h1 h2
end Go.Proofs.YtmnjakejhbpkoaaGreatDoor.L
