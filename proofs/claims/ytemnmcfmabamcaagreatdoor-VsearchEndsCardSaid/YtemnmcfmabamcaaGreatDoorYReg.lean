import Derived.Test.YtemnmcfmabamcaaGreatDoorYLawP
import Derived.Test.YtemnmcfmabamcaaGreatDoorYLaw8
import Derived.Shelf.SortM.Plain
set_option linter.unusedSimpArgs false
set_option linter.unusedVariables false
set_option maxRecDepth 100000
set_option maxHeartbeats 1000000
section
namespace Go.Proofs.YtemnmcfmabamcaaGreatDoor.L
def inB (S m:List Int):Bool:=S.all fun v=>decide (v∈m)
theorem Zl0(S m:List Int):inB S m=true↔∀v,v∈S→v∈m:=by simp[inB]
def ZkH (S:List Int):Tr→Option (List Int)
 | .leaf _=>none
 | .node a b=>if inB S a.vars then ZkH S a else if inB S b.vars then ZkH S b else some a.vars
theorem ZfC{t:List VN}(hc:Zae t=0){P:Nat}{φ:Asg→Bool}(h:PlaceOf t P φ){S:List Int}(hS:∀v,v∈S↔Hangs φ v){Q:Nat}{T:Tr}(hT:IsT idc t Q T):Und t Q P →
  ∀y,t[P]? =some y→(Zai y=true→ZkH S T=none)∧(Zai y=false→∀l:Nat,y.left=l→∃m,ZkH S T=some m∧∀v,v∈m↔Bel t l v):=by
 induction hT with
 | @leaf i x hx hl =>
   intro hu y hy;have e:=hu.leaf hc hx hl;subst e;rw[hx]at hy
   cases hy
   exact⟨fun _=>rfl,fun h'=>by rw[hl]at h';cases h'⟩
 | @node i a b x l r hx aI ha hb h1 h2 ih1 ih2 =>
   intro hu y hy;have kM:x.left=a:=ha;have cQ:x.right=b:=hb
   have eL:inB S l.vars=true↔Und t a P:=by
    rw[Zl0,←h.toL hc hu hx aI kM cQ];exact⟨fun g v hv=>(h1.mem hc v).1 (g v ((hS v).2 hv)),fun g v hv=>(h1.mem hc v).2 (g v ((hS v).1 hv))⟩
   have eR:inB S r.vars=true↔Und t b P:=by
    rw[Zl0,←h.toR hc hu hx aI kM cQ];exact⟨fun g v hv=>(h2.mem hc v).1 (g v ((hS v).2 hv)),fun g v hv=>(h2.mem hc v).2 (g v ((hS v).1 hv))⟩
   unfold ZkH
   by_cases g1:inB S l.vars=true
   ·rw[if_pos g1]
    exact ih1 (eL.1 g1) y hy
   ·rw[if_neg g1]
    by_cases g2:inB S r.vars=true
    ·rw[if_pos g2]
     exact ih2 (eR.1 g2) y hy
    ·rw[if_neg g2]
     rcases hu.kids hc hx kM cQ with rfl|g|g
     ·rw[hx]at hy
      cases hy
      refine⟨fun h'=>(by rw[aI]at h';cases h'),fun _ l' eK=>⟨_,rfl,fun v=>?_⟩⟩;obtain rfl:l'=a:=by omega
      exact h1.mem hc v
     ·exact(g1 (eL.2 g)).elim
     ·exact(g2 (eR.2 g)).elim
def ZnT (T:Tr)(l:List Int)(f:List Bool):List (List Bool × List Bool) :=
 if depL l f=[] then [] else match ZkH (depL l f) T with
 | none=>[]
 | some m=>elsN f (ZeK l fun v=>decide (v∈m)) (2 ^ l.length)
theorem ZlL{s:St}(h:Inv s){l:List Int}(hl:SortedBel s.tree (s.tree.length - 1) l){T:Tr}(hT:IsT idc s.tree (s.tree.length - 1) T){a:Nat}{n:Zac}(hn:s.nodes[a]? =some n) :
  ZnT T l (tabO l (sem s.nodes a))=n.el.map fun p=>(tabO l (sem s.nodes p.1),tabO l (sem s.nodes p.2)):=by
 have ha:=(Zrw hn).1;have hd:=h.tabDep hl ha;have hf:=tabO_is hl.sorted hd;have hS:∀v,v∈depL l (tabO l (sem s.nodes a))↔Hangs (sem s.nodes a) v:=depL_mem hl.sorted hf hd
 have hz:∀b:Bool,(∀x,sem s.nodes a x=b)→depL l (tabO l (sem s.nodes a))=[]:=fun b hb=>by
  rw[List.eq_nil_iff_forall_not_mem];exact fun v hv=>const_hangs hb v ((hS v).1 hv)
 unfold ZnT;rcases h.kind ha with rfl|rfl|⟨h2,m,hm,hk⟩
 ·rw[if_pos (hz false fun x=>h.sem0 x)]
  have:=h.zero;rw[hn]at this;cases this;rfl
 ·rw[if_pos (hz true fun x=>h.sem1 x)]
  have:=h.one;rw[hn]at this;cases this;rfl
 ·rw[hn]at hm;cases hm
  obtain⟨P,hP,ja⟩:=h.placeOf hl h2 hn
  have aJ:depL l (tabO l (sem s.nodes a))≠[]:=fun e=>by
   obtain⟨v,hv⟩:=ja.ess;have:=(hS v).2 hv;rw[e]at this;cases this
  rw[if_neg aJ];have fF:=Und.root h.tree s.tree.length P ja.lt (by have:=ja.lt;omega);rcases hk with hk|hk
  ·obtain⟨u,y,e1,e2,e3,e4⟩:=hk.leaf
   obtain rfl:u=P:=by omega
   rw[(ZfC h.tree ja hS hT fF y e2).1 e3,hk.el]
   rfl
  ·obtain⟨P',y,L',R',e1,e2,e3,e4,e5,l8⟩:=h.elFit hl hn hk hf
   obtain rfl:P'=P:=by omega
   obtain⟨m,hm,ag⟩:=(ZfC h.tree ja hS hT fF y e2).2 e3 L' e4;rw[hm];obtain⟨lw,kX⟩:=l8 (ZeK l fun v=>decide (v∈m)) ⟨ZcE _ _,fun k hk=>by rw[ZbF l _ hk,decide_eq_true_iff,ag]⟩;exact els_law kX
def Zkb (l:List (List Bool))(f:List Bool):List (List Bool):=if f∈l then l else l++[f]
def Znz (l:List (List Bool)):List (List Bool × List Bool)→List (List Bool)
 | []=>l
 | p :: r=>Znz (Zkb (Zkb l p.1) p.2) r
def Zot (T:Tr)(l:List Int):Nat→List (List Bool)→Nat→Nat→Nat
 | 0,_,_,n=>n
 | k+1,all,i,n=>match all[i]? with
   | none=>n
   | some f=>Zot T l k (Znz all (ZnT T l f)) (i+1) (n+(ZnT T l f).length)
def sizeTr(T:Tr)(l:List Int)(f:List Bool):Nat:=Zot T l 1048577 [f] 0 0
theorem ZgE{s:St}(h:Inv s){l:List Int}(hl:SortedBel s.tree (s.tree.length - 1) l){A:List Nat}(hA:∀b∈A,b<s.nodes.length){x:Nat}(hx:x<s.nodes.length) :
  Zkb (A.map fun b=>tabO l (sem s.nodes b)) (tabO l (sem s.nodes x))=(withL A x).map fun b=>tabO l (sem s.nodes b):=by
 unfold Zkb withL
 have:tabO l (sem s.nodes x)∈(A.map fun b=>tabO l (sem s.nodes b))↔x∈A:=by
  rw[List.mem_map]
  constructor
  ·rintro⟨b,hb,e⟩
   exact(h.tab_eq hl (hA b hb) hx).1 e ▸ hb
  ·exact fun hx=>⟨x,hx,rfl⟩
 by_cases hm:x∈A
 ·rw[if_pos (this.2 hm),if_pos hm]
 ·rw[if_neg (fun e=>hm (this.1 e)),if_neg hm,List.map_append];rfl
theorem ZhB{s:St}(h:Inv s){l:List Int}(hl:SortedBel s.tree (s.tree.length - 1) l):∀(el:List (Nat × Nat)) (A:List Nat),(∀b∈A,b<s.nodes.length)→(∀p∈el,p.1<s.nodes.length∧p.2<s.nodes.length) →
  Znz (A.map fun b=>tabO l (sem s.nodes b)) (el.map fun p=>(tabO l (sem s.nodes p.1),tabO l (sem s.nodes p.2)))=(addP A el).map fun b=>tabO l (sem s.nodes b)
 | [],_,_,_=>rfl
 | p :: r,A,hA,hp=>by
   obtain⟨p1,p2⟩:=hp p (ZrL ..)
   have hA1:∀b∈withL A p.1,b<s.nodes.length:=fun b hb=>by
    rcases (Zdg A p.1 b).1 hb with hb|rfl
    ·exact hA b hb
    ·exact p1
   have nZ:∀b∈withL (withL A p.1) p.2,b<s.nodes.length:=fun b hb=>by
    rcases (Zdg _ p.2 b).1 hb with hb|rfl
    ·exact hA1 b hb
    ·exact p2
   rw[List.map_cons,Znz,addP,ZgE h hl hA p1,ZgE h hl hA1 p2];exact ZhB h hl r _ nZ fun q hq=>hp q (ZrA _ hq)
theorem Zh7{s:St}(h:Inv s){l:List Int}(hl:SortedBel s.tree (s.tree.length - 1) l){T:Tr}(hT:IsT idc s.tree (s.tree.length - 1) T){a:Nat}(ha:a<s.nodes.length){o:List Nat}(ho:o.Nodup)(hr:∀b,b∈o↔Reach s.nodes a b) :
  ∀(k:Nat) (A:List Nat) (i n:Nat),Bfs s.nodes a A i n→i≤A.length→s.nodes.length<k+i→Zot T l k (A.map fun b=>tabO l (sem s.nodes b)) i n=Zbw s.nodes o
 | 0,A,i,n,hB,hi,hk=>by have:=hB.le h.kids;omega
 | k+1,A,i,n,hB,hi,hk=>by
   have hA:∀b∈A,b<s.nodes.length:=fun b hb=>by have:=(hB.reach b hb).le h.kids;omega
   unfold Zot
   by_cases aD:i<A.length
   ·have hx:=hA _ (ZrM aD)
    have hn:s.nodes[A[i]]? =some s.nodes[A[i]]:=Zry hx;rw[List.getElem?_map,Zry aD];simp only[Option.map_some];rw[ZlL h hl hT hn,ZhB h hl _ _ hA fun p hp=>by obtain⟨k1,k2⟩:=h.kids _ _ hn p hp;omega,List.length_map];refine Zh7 h hl hT ha ho hr k _ (i+1) _ (hB.next aD hn) ?_ (by omega);obtain⟨r,e⟩:=addP_pre A s.nodes[A[i]].el;rw[e,ZrB];omega
   ·obtain rfl:i=A.length:=by omega
    rw[List.getElem?_eq_none (by simp)];exact(hB.end ho hr).symm
theorem sizeTr_law{s:St}(h:Inv s){l:List Int}(hl:SortedBel s.tree (s.tree.length - 1) l){T:Tr}(hT:IsT idc s.tree (s.tree.length - 1) T)(fw:s.nodes.length≤1048576){a:Nat}(ha:a<s.nodes.length){o:List Nat}(ho:o.Nodup)(hr:∀b,b∈o↔Reach s.nodes a b) :
  sizeTr T l (tabO l (sem s.nodes a))=Zbw s.nodes o :=
 Zh7 h hl hT ha ho hr 1048577 [a] 0 0 (Bfs.init _ _) (Nat.zero_le _) (by omega)
end Go.Proofs.YtemnmcfmabamcaaGreatDoor.L
namespace Go.Proofs.YtemnmcfmabamcaaGreatDoor.L
def Zri:Nat→Tr→Option Tr
 | 1,.node (.node a b) c=>some (.node a (.node b c))
 | 2,.node a (.node b c)=>some (.node (.node a b) c)
 | 3,.node a b=>some (.node b a)
 | _,_=>none
theorem Ze8(kd:Nat)(T U:Tr):Zri kd T=some U↔Rot kd T U:=by
 constructor
 ·intro h
  unfold Zri at h
  split at h
  ·cases h;exact .right _ _ _
  ·cases h;exact .left _ _ _
  ·cases h;exact .swap _ _
  ·cases h
 ·intro h
  cases h <;> rfl
def mvT (kd i:Nat):Tr→Nat→Option Tr
 | .leaf _,_=>none
 | .node l r,k=>if i=k+l.size+r.size then Zri kd (.node l r) else if i<k+l.size then (mvT kd i l k).map fun l'=>.node l' r else (mvT kd i r (k+l.size)).map fun r'=>.node l r'
theorem Mv.between{t:List VN}{kd at':Nat}:∀(T U:Tr) (k:Nat) (pre suf:List VN),t=pre++(T.post k++suf)→pre.length=k→Mv t kd at' (k+T.size - 1) T U→k≤at'∧at'<k+T.size
 | .leaf v,U,k,pre,suf,ht,hk,h=>by
   cases h with
   | here h=>cases h
 | .node l r,U,k,pre,suf,ht,hk,h=>by
   obtain⟨e1,e2,e3⟩:=Zc8 ht hk;have hs:(Tr.node l r).size=l.size+r.size+1:=rfl;generalize hi:k+(Tr.node l r).size - 1=i at *
   cases h with
   | here h=>omega
   | @left _ a b y _ _ l' h1 h2 h3 h4 =>
     rw[e1]at h1;cases h1;obtain rfl:=Int.ofNat.inj h2;have:=Mv.between l l' k pre _ e2 hk h4;omega
   | @right _ a b y _ _ r' h1 h2 h3 h4 =>
     rw[e1]at h1;cases h1;obtain rfl:=Int.ofNat.inj h3;have:=Mv.between r r' (k+l.size) (pre++l.post k) _ e3 (by simp[hk,Tr.post_len]) h4;omega
theorem ZiQ{t:List VN}{kd at':Nat}:∀(T U:Tr) (k:Nat) (pre suf:List VN),t=pre++(T.post k++suf)→pre.length=k→(mvT kd at' T k=some U↔Mv t kd at' (k+T.size - 1) T U)
 | .leaf v,U,k,pre,suf,ht,hk=>by
   constructor
   ·intro h;cases h
   ·intro h
    cases h with
    | here h=>cases h
 | .node l r,U,k,pre,suf,ht,hk=>by
   obtain⟨e1,e2,e3⟩:=Zc8 ht hk;have hs:(Tr.node l r).size=l.size+r.size+1:=rfl;have bW:(pre++l.post k).length=k+l.size:=by simp[hk,Tr.post_len]
   have il:=fun l'=>ZiQ l l' k pre _ e2 hk (kd:=kd) (at':=at')
   have ir:=fun r'=>ZiQ r r' (k+l.size) (pre++l.post k) _ e3 bW (kd:=kd) (at':=at')
   have bl:=fun l'=>Mv.between l l' k pre _ e2 hk (kd:=kd) (at':=at')
   have br:=fun r'=>Mv.between r r' (k+l.size) (pre++l.post k) _ e3 bW (kd:=kd) (at':=at')
   have pl:=l.pos;have pr:=r.pos;unfold mvT;generalize hi:k+(Tr.node l r).size - 1=i at *
   by_cases h0:at'=k+l.size+r.size
   ·rw[if_pos h0,Ze8]
    constructor
    ·intro h
     obtain rfl:at'=i:=by omega
     exact .here h
    ·intro h
     cases h with
     | here h=>exact h
     | @left _ a b y _ _ l' h1 h2 h3 h4 =>
       rw[e1]at h1;cases h1;obtain rfl:=Int.ofNat.inj h2;have:=bl l' h4;omega
     | @right _ a b y _ _ r' h1 h2 h3 h4 =>
       rw[e1]at h1;cases h1;obtain rfl:=Int.ofNat.inj h3;have:=br r' h4;omega
   ·rw[if_neg h0]
    by_cases h1:at'<k+l.size
    ·rw[if_pos h1,Option.map_eq_some_iff]
     constructor
     ·rintro⟨l',h,rfl⟩
      exact .left e1 rfl rfl ((il l').1 h)
     ·intro h
      cases h with
      | here h=>omega
      | @left _ a b y _ _ l' g1 g2 g3 g4 =>
        rw[e1]at g1;cases g1;obtain rfl:=Int.ofNat.inj g2;exact⟨l',(il l').2 g4,rfl⟩
      | @right _ a b y _ _ r' g1 g2 g3 g4 =>
        rw[e1]at g1;cases g1;obtain rfl:=Int.ofNat.inj g3;have:=br r' g4;omega
    ·rw[if_neg h1,Option.map_eq_some_iff]
     constructor
     ·rintro⟨r',h,rfl⟩
      exact .right e1 rfl rfl ((ir r').1 h)
     ·intro h
      cases h with
      | here h=>omega
      | @left _ a b y _ _ l' g1 g2 g3 g4 =>
        rw[e1]at g1;cases g1;obtain rfl:=Int.ofNat.inj g2;have:=bl l' g4;omega
      | @right _ a b y _ _ r' g1 g2 g3 g4 =>
        rw[e1]at g1;cases g1;obtain rfl:=Int.ofNat.inj g3;exact⟨r',(ir r').2 g4,rfl⟩
theorem mvT_post{kd at':Nat}(T U:Tr):mvT kd at' T 0=some U↔Mv (T.post 0) kd at' ((T.post 0).length - 1) T U:=by
 have:=ZiQ (t:=T.post 0) (kd:=kd) (at':=at') T U 0 [] [] (by simp) rfl;rw[Tr.post_len];rw[Nat.zero_add]at this;exact this
structure CanAt (t:List VN) (kd i:Nat):Prop where
 here:∃y,t[i]? =some y∧Zai y=false∧(kd=1→∃(a:Nat) (x:VN),y.left=a∧t[a]? =some x∧Zai x=false)∧(kd=2→∃(b:Nat) (x:VN),y.right=b∧t[b]? =some x∧Zai x=false)
theorem mvT_can{t:List VN}{kd at':Nat}:∀(T U:Tr) (k:Nat) (pre suf:List VN),t=pre++(T.post k++suf)→pre.length=k→mvT kd at' T k=some U→CanAt t kd at'
 | .leaf v,U,k,pre,suf,ht,hk,h=>by cases h
 | .node l r,U,k,pre,suf,ht,hk,h=>by
   obtain⟨e1,e2,e3⟩:=Zc8 ht hk;have hs:(Tr.node l r).size=l.size+r.size+1:=rfl;have bW:(pre++l.post k).length=k+l.size:=by simp[hk,Tr.post_len]
   unfold mvT at h
   split at h
   ·rename_i h0
    have mM:=e1;rw[show k+(Tr.node l r).size - 1=at' by omega]at e1;refine⟨⟨_,e1,Zd1 _ _,fun h1=>?_,fun h2=>?_⟩⟩
    ·subst h1
     cases (Ze8 _ _ _).1 h with
     | right a b c =>
       obtain⟨f1,_,_⟩:=Zc8 e2 hk;exact⟨_,_,rfl,f1,Zd1 _ _⟩
    ·subst h2
     cases (Ze8 _ _ _).1 h with
     | left a b c =>
       obtain⟨f1,_,_⟩:=Zc8 e3 bW;exact⟨_,_,rfl,f1,Zd1 _ _⟩
   ·split at h
    ·rw[Option.map_eq_some_iff]at h
     obtain⟨l',h,_⟩:=h;exact mvT_can l l' k pre _ e2 hk h
    ·rw[Option.map_eq_some_iff]at h
     obtain⟨r',h,_⟩:=h;exact mvT_can r r' (k+l.size) (pre++l.post k) _ e3 bW h
theorem mvT_perm{kd i:Nat}:∀(T U:Tr) (k:Nat),mvT kd i T k=some U→U.vars.Perm T.vars∧U.size=T.size
 | .leaf v,U,k,h=>by cases h
 | .node l r,U,k,h=>by
   unfold mvT at h
   split at h
   ·have:=(Ze8 _ _ _).1 h
    exact⟨this.perm,this.size⟩
   ·split at h
    ·rw[Option.map_eq_some_iff]at h
     obtain⟨l',h,rfl⟩:=h;obtain⟨h1,h2⟩:=mvT_perm l l' k h;exact⟨h1.append_right _,by simp[Tr.size,h2]⟩
    ·rw[Option.map_eq_some_iff]at h
     obtain⟨r',h,rfl⟩:=h;obtain⟨h1,h2⟩:=mvT_perm r r' _ h;exact⟨h1.append_left _,by simp[Tr.size,h2]⟩
def bestK(l:List Int)(f:List Bool)(T:Tr)(i:Nat)(kd:Nat)(b:Tr × Nat × Nat):Tr × Nat × Nat :=
 match mvT kd i T 0 with
 | none=>b
 | some U=>if sizeTr U l f<b.2.1 then (U,sizeTr U l f,kd) else b
def bestT(l:List Int)(f:List Bool)(T:Tr)(i:Nat):Tr × Nat × Nat:=bestK l f T i 3 (bestK l f T i 2 (bestK l f T i 1 (T,sizeTr T l f,0)))
def stepT(l:List Int)(f:List Bool)(s:Tr × List (Nat × Nat))(i:Nat):Tr × List (Nat × Nat) :=
 let b:=bestT l f s.1 i
 if 0<b.2.2 then (b.1,s.2++[(i,b.2.2)]) else s
def passT(l:List Int)(f:List Bool)(n:Nat)(s:Tr × List (Nat × Nat)):Tr × List (Nat × Nat):=(List.range n).foldl (stepT l f) s
def searchT(l:List Int)(f:List Bool)(n:Nat):Nat→Tr × List (Nat × Nat)→Tr × List (Nat × Nat)
 | 0,s=>s
 | k+1,s=>let s':=passT l f n s;if s'.2.length=s.2.length then s' else searchT l f n k s'
end Go.Proofs.YtemnmcfmabamcaaGreatDoor.L
namespace Go.Proofs.YtemnmcfmabamcaaGreatDoor.L
structure Zhu (l:List Int) (f:List Bool) (T:Tr) (i k:Nat) (b:Tr × Nat × Nat):Prop where
 sz:b.2.1=sizeTr b.1 l f
 le:b.2.1≤sizeTr T l f
 none:b.2.2=0→b.1=T∧∀kd,1≤kd→kd≤k→∀U,mvT kd i T 0=some U→sizeTr T l f≤sizeTr U l f
 some:0<b.2.2→b.2.2≤k∧mvT b.2.2 i T 0=some b.1∧sizeTr b.1 l f<sizeTr T l f
theorem Zhu.next{l:List Int}{f:List Bool}{T:Tr}{i k:Nat}{b:Tr × Nat × Nat}(h:Zhu l f T i k b):Zhu l f T i (k+1) (bestK l f T i (k+1) b):=by
 unfold bestK
 split
 ·rename_i hm
  refine⟨h.sz,h.le,fun h0=>⟨(h.none h0).1,fun kd h1 h2 U hU=>?_⟩,fun h0=>?_⟩
  ·by_cases e:kd=k+1
   ·subst e;rw[hm]at hU;cases hU
   ·exact(h.none h0).2 kd h1 (by omega) U hU
  ·obtain⟨g1,g2⟩:=h.some h0
   exact⟨by omega,g2⟩
 ·rename_i U hm
  split
  ·rename_i aD
   refine⟨rfl,ZrC (Nat.le_of_lt aD) h.le,fun h0=>(by cases h0),fun _=>⟨ZrQ _,hm,ZrD aD h.le⟩⟩
  ·rename_i aD
   refine⟨h.sz,h.le,fun h0=>⟨(h.none h0).1,fun kd h1 h2 V hV=>?_⟩,fun h0=>?_⟩
   ·by_cases e:kd=k+1
    ·subst e
     rw[hm]at hV
     cases hV
     have hb:=(h.none h0).1;have:=h.sz;rw[hb]at this;omega
    ·exact(h.none h0).2 kd h1 (by omega) V hV
   ·obtain⟨g1,g2⟩:=h.some h0
    exact⟨by omega,g2⟩
theorem bestT_ok(l:List Int)(f:List Bool)(T:Tr)(i:Nat):Zhu l f T i 3 (bestT l f T i):=by
 have h0:Zhu l f T i 0 (T,sizeTr T l f,0):=⟨rfl,ZrQ _,fun _=>⟨rfl,fun kd h1 h2=>by omega⟩,fun h=>by cases h⟩;exact h0.next.next.next
theorem stepT_or(l:List Int)(f:List Bool)(s:Tr × List (Nat × Nat))(i:Nat) :
  (stepT l f s i=s∧∀kd,1≤kd→kd≤3→∀U,mvT kd i s.1 0=some U→sizeTr s.1 l f≤sizeTr U l f) ∨
  (∃kd U,stepT l f s i=(U,s.2++[(i,kd)])∧1≤kd∧kd≤3∧mvT kd i s.1 0=some U∧sizeTr U l f<sizeTr s.1 l f):=by
 have hb:=bestT_ok l f s.1 i;unfold stepT;simp only
 by_cases h0:0<(bestT l f s.1 i).2.2
 ·rw[if_pos h0]
  obtain⟨g1,g2,g3⟩:=hb.some h0;exact .inr ⟨_,_,rfl,h0,g1,g2,g3⟩
 ·rw[if_neg h0]
  exact .inl ⟨rfl,(hb.none (by omega)).2⟩
end Go.Proofs.YtemnmcfmabamcaaGreatDoor.L
end
section
namespace Go.Proofs.YtemnmcfmabamcaaGreatDoor
open Go Go.RowKit Go.Shelf
theorem ZnB{t:List VN}{B0:Zar}{w0 w:World}{k k' c a b:Nat}{s:St}{φ ψ:L.Asg→Bool}(h:SS t B0 w0 k s w)(hc:L.ca (L.nv t (t.length - 1))≤c)(hk:k'+c≤k)(ha:Val s a φ)(hb:Val s b ψ) :
  Calls Tryz.prog 37 #[.pointer (some ⟨B0.sb,0,none⟩),.int .i64 a,.int .i64 b] w (ZqV t B0 w0 k' s fun x=>φ x && ψ x):=by
 obtain⟨B,hR,hS⟩:=h.held;obtain⟨g1,g2,g3⟩:=Zh5 h.chk h.few;have hd:=L.and_spec h.chk h.few _ g1 14 (by have:=h.few;omega) s a b h.tree (h.room.less (by omega)) ha.lt hb.lt (by rw[←h.tree];exact Zbb h.inv ha.lt) (by rw[←h.tree];exact Zbb h.inv hb.lt);obtain⟨r,s',e,hr⟩:=Zi8 h hR hS (k':=k') (c:=c) hk (hd.mono hc) (fun _ _ _ _ _ h=>h);rw[←hS.sb];refine(Zpl (Zjv 14) hR h.ne ha.lt hb.lt e).mono fun e w' hh=>?_
 obtain⟨r,s',h1,h2,h3,h4⟩:=hr e w' hh;exact⟨r,s',h1,h2,h3,h4.congr fun x=>by rw[ha.sem,hb.sem]⟩
theorem Zrl{t:List VN}{B0:Zar}{w0 w:World}{k k' c d a b:Nat}{s:St}{φ ψ:L.Asg→Bool}(h:SS t B0 w0 k s w)(hc:L.ca (L.nv t (t.length - 1))≤c)(iL:L.cn (L.nv t (t.length - 1))≤d)(hk:k'+(3*d+c)≤k)(ha:Val s a φ)(hb:Val s b ψ) :
  Calls Tryz.prog 38 #[.pointer (some ⟨B0.sb,0,none⟩),.int .i64 a,.int .i64 b] w (ZqV t B0 w0 k' s fun x=>φ x || ψ x):=by
 obtain⟨B,hR,hS⟩:=h.held;obtain⟨g1,g2,g3⟩:=Zh5 h.chk h.few;have hd:=L.or_spec (L.not_spec h.chk h.few _ g1 14 (by have:=h.few;omega)) (L.and_spec h.chk h.few _ g1 14 (by have:=h.few;omega)) s a b h.tree (h.room.less (by omega)) ha.lt hb.lt (by rw[←h.tree];exact Zbb h.inv ha.lt) (by rw[←h.tree];exact Zbb h.inv hb.lt);obtain⟨r,s',e,hr⟩:=Zi8 h hR hS (k':=k') (c:=3*d+c) hk (hd.mono (by omega)) (fun _ _ _ _ _ h=>h);rw[←hS.sb];refine(ZqI (Zmq (Zg8 14) (Zjv 14)) hR h.ne ha.lt hb.lt e).mono fun e w' hh=>?_
 obtain⟨r,s',h1,h2,h3,h4⟩:=hr e w' hh;exact⟨r,s',h1,h2,h3,h4.congr fun x=>by rw[ha.sem,hb.sem]⟩
theorem Zbm{t:List VN}(hc:Zae t=0)(h7:t.length≤7):L.ca (L.nv t (t.length - 1))≤0∧L.cn (L.nv t (t.length - 1))≤0:=by
 have h0:=(Zam hc).1;have h1:=L.nv_le hc (v:=t.length - 1) (by omega)
 constructor
 ·unfold L.ca;rw[if_pos (by omega)];exact ZrQ _
 ·unfold L.cn;rw[if_pos (by omega)];exact ZrQ _
def Zq2 (n:Nat)(w:World)(ba:Option Addr)(l:List (Nat × Nat)):Prop:=l=[]∨∃g cs,ba=some ⟨g,0,none⟩∧n≤g∧w.heap[g]? =some (.cells cs ZaN (0,0))∧∀j u,(ZaO l)[j]? =some u→cs[0+j]? =some u
theorem Zc3(w:World):Calls Tryz.prog 118 #[.slice none 0 0] w fun e w'=>e= .returned (.slice none 0 0)∧w=w':=by
 refine(AnyE.slices_Clone_nil Tryz.clonePair 0 0 w).mono ?_;rintro e w' ⟨rfl,rfl⟩;exact⟨rfl,rfl⟩
theorem Zko{w:World}{v:Value}{l:List (Nat × Nat)}(h:Zcp w v l)(hl:l.length≤1048576):Calls Tryz.prog 118 #[v] w fun e w'=>∃ba cap,e= .returned (.slice ba l.length cap)∧Zq2 w.heap.size w' ba l∧Below w.heap.size w w':=by
 obtain⟨ba,c,rfl,⟨rfl,rfl,rfl⟩|⟨b,o,rfl,hr⟩⟩:=h
 ·refine(Zc3 w).mono ?_
  rintro e w' ⟨rfl,rfl⟩;exact⟨none,0,rfl,.inl rfl,ZrE _ _⟩
 ·refine(ZdJ w b o c l hr hl).mono ?_
  rintro e w' ⟨g,cap,cs,rfl,h1,h2,h3,h4⟩;exact⟨_,cap,rfl,.inr ⟨g,cs,rfl,h1,h2,h3⟩,h4⟩
theorem ZhM{B:Zar}{s:St}{w:World}{a:Nat}{n:Zac}(h:Rep B s w)(ht:s.tree≠[])(hn:s.nodes[a]? =some n) :
  Calls Tryz.prog 91 #[.pointer (some ⟨B.sb,0,none⟩),.int .i64 a] w fun e w'=>∃ba cap,e= .returned (.tuple #[.slice ba n.el.length cap,.int .i64 0])∧Zq2 w.heap.size w' ba n.el∧Below w.heap.size w w':=by
 have ha:a<s.nodes.length:=(Zrw hn).1;have cw:Zgn s.nodes.length [(a:Int)]=0:=by simp[Zgn,ha]
 have bN:=h.small.1;have cN:n.el.length≤1048576:=(h.small.2 n (List.mem_of_getElem? hn)).2.2.2.2.1;replace cw:=Zrr cw;have aK:=(Ext.refl w).alloc (.cells #[.int .i64 a] 3);have aj:=Zrz w (.cells #[.int .i64 a] 3)
 go_enter Tryz.func91,Tryz.ntmps91
 go_wp2_with fail;generalize w.alloc (.cells #[.int .i64 a] 3)=w1 at *;have aQ:=h.below aK.below;have hq:=Zdc aQ ht (ZdO aj) (by simp);rw[cw.out]at hq;clear aj;obtain⟨cap,_,_,cn,_⟩:=aQ.cells;obtain⟨v,hv,_,n0,n1,n2,_⟩:=aQ.node hn;have bX:=Zko hv cN;replace aQ:=Zrr aQ;replace hv:=Zrr hv;clear h;refine hq.mono ?_;rintro e w2 ⟨rfl,rfl⟩;have d0:decide ((a:Int)<s.nodes.length)=true:=ZrI (by omega);have d1:decide (0≤(a:Int))=true:=ZrI (by omega);clear hq;go_wp2_with fail;refine bX.mono ?_;rintro e w3 ⟨ba,cp,rfl,hP,aU⟩;replace hP:=Zrr hP;go_wp2_with fail;go_ret2;refine⟨ba,cp,rfl,?_,aK.below.trans (aU.mono aK.size)⟩;rcases hP.out with e|⟨g,cs,e1,e2,e3⟩
 ·exact .inl e
 ·exact .inr ⟨g,cs,e1,ZrC aK.size e2,e3⟩
theorem Zkr{t:List VN}{B0:Zar}{w0 w:World}{k a:Nat}{s:St}{n:Zac}(h:SS t B0 w0 k s w)(hn:s.nodes[a]? =some n) :
  Calls Tryz.prog 91 #[.pointer (some ⟨B0.sb,0,none⟩),.int .i64 a] w fun e w'=>∃ba cap,e= .returned (.tuple #[.slice ba n.el.length cap,.int .i64 0])∧Zq2 w.heap.size w' ba n.el∧Below w.heap.size w w':=by
 obtain⟨B,hR,hS⟩:=h.held;rw[←hS.sb];exact ZhM hR h.ne hn
theorem Zrn{t:List VN}{B0:Zar}{w0 w:World}{k a:Nat}{s:St}{n:Zac}(h:SS t B0 w0 k s w)(hn:s.nodes[a]? =some n) :
  Calls Tryz.prog 41 #[.pointer (some ⟨B0.sb,0,none⟩),.int .i64 a] w fun e w'=>e= .returned (.tuple #[.int .i64 n.pl,.int .i64 0])∧Below w.heap.size w w':=by
 obtain⟨B,hR,hS⟩:=h.held;rw[←hS.sb];exact Zqr hR h.ne hn
theorem ZmV{t:List VN}{B0:Zar}{w0 w:World}{k a:Nat}{s:St}(h:SS t B0 w0 k s w)(ha:a<s.nodes.length) :
  Calls Tryz.prog 20 #[.pointer (some ⟨B0.sb,0,none⟩),.int .i64 a] w fun e w'=>∃o:List Nat,(o.Nodup∧∀b,b∈o↔L.Reach s.nodes a b)∧e= .returned (.tuple #[.int .i64 (Zbw s.nodes o),.int .i64 0])∧Below w.heap.size w w':=by
 obtain⟨B,hR,hS⟩:=h.held;have h0:=h.pos;have hf:=h.few;have aX:=h.room.len;obtain⟨o,e,g1,g2⟩:=L.sizeF_spec h.inv (by omega) ha (v:=s.tree.length - 1) (by rw[h.tree];omega) (Zbb h.inv ha) (f:=14) (by rw[h.tree];omega);rw[←hS.sb];refine(Zou hR h.ne ha e).mono ?_;rintro e w' ⟨rfl,hb⟩;exact⟨o,⟨g1,g2⟩,rfl,hb⟩
theorem Rep.grownT{B:Zar}{s:St}{w w':World}{blk:Nat}{c0:Array Value}{t:TypeId}{f0:Nat × Nat}(h:Rep B s w)(hk:w.heap[blk]? =some (.cells c0 t f0))(h1:t≠ZaN)(h2:t≠Zbd)(h3:t≠ZaD)(h4:t≠78)(hg:blk≠Zdm∧blk≠gTz)
  (hs:∀(k:Nat) (o:Obj),k≠blk→w.heap[k]? =some o→w'.heap[k]? =some o):Rep B s w':=by
 obtain⟨nv,vs,aM,hn,he⟩:=h.store;obtain⟨c',hc⟩:=hn.nbk;have n1:B.sb≠blk:=fun e=>by rw[e,hk]at aM;simp at aM;exact h3 aM.2.1
 have n2:B.nb≠blk:=fun e=>by rw[e,hk]at hc;simp at hc;exact h2 hc.2.1
 have nm:∀ {α β:Type} [DecidableEq α] {enc:α→Value}{encV:β→Value}{b:Nat}{m:α→Option β},ZaI enc encV w b m→ZaI enc encV w' b m:=fun {α β _ enc encV b m} hm=>by
  obtain⟨L,cl,hb,eY⟩:=hm;refine⟨L,cl,hs b _ (fun e=>?_) hb,eY⟩;rw[e,hk]at hb;simp at hb
 have same:∀k,k≠blk→k<w.heap.size→w'.heap[k]? =w.heap[k]?:=fun k h1 h2=>by
  rw[Array.getElem?_eq_getElem h2];exact hs k _ h1 (Array.getElem?_eq_getElem h2)
 exact {
  tz:=h.tz.same (same _ (Ne.symm hg.2) h.tz.lt')
  pow:=h.pow.same (same _ (Ne.symm hg.1) h.pow.lt)
  glob:=h.glob
  store:=by
   refine⟨nv,vs,hs _ _ n1 aM,⟨hn.len,Zaa hn.own ?_,hn.blk,fun i hi hv=>?_⟩,he⟩
   ·intro k bW
    rw[hn.blk]at bW
    cases bW
    rw[hs _ _ n2 hc,hc]
   ·obtain⟨ba,c,jr,aT⟩:=hn.els i hi hv
    refine⟨ba,c,jr,aT.imp id ?_⟩;rintro⟨b,o,rfl,cs,fz,hb,cA⟩;exact⟨b,o,rfl,cs,fz,hs b _ (fun e=>by rw[e,hk]at hb;simp at hb;exact h1 hb.2.1) hb,cA⟩
  tree:=by
   obtain⟨c,fz,hb,cA⟩:=h.tree;refine⟨c,fz,hs _ _ (fun e=>?_) hb,cA⟩;rw[e,hk]at hb;simp at hb;exact h4 hb.2.1
  leaf:=nm h.leaf
  uniq:=nm h.uniq
  ands:=nm h.ands
  nots:=nm h.nots
  apart:=h.apart
  small:=h.small }
end Go.Proofs.YtemnmcfmabamcaaGreatDoor
end
section
namespace Go.Proofs
open Go.Shelf
def Tryz.sortInt_ren:Go.Shelf.Ren:=⟨fun|5=>121|8=>142|7=>141|19=>165|20=>149|10=>156|11=>157|12=>158|13=>159|14=>160|15=>161|16=>162|17=>163|18=>164|30=>174|31=>175|32=>176|33=>177|34=>178|35=>179|40=>189|n=>n,fun|23=>76|25=>3|3=>3|32=>79|22=>76|0=>0|44=>198|46=>80|4=>4|36=>209|35=>208|41=>123|5=>5|9=>9|53=>223|57=>227|63=>239|64=>240|n=>n,fun|n=>n⟩
theorem Tryz.sortInt:Go.Proofs.SlLaysM.n5 Tryz.prog Tryz.sortInt_ren:={
 mixed:=by kernel_rfl
 f5:=⟨Tryz.f121.name,by decide,Tryz.func121.trans (congrArg some (by kernel_rfl))⟩
 f7:=⟨Tryz.f141.name,by decide,Tryz.func141.trans (congrArg some (by kernel_rfl))⟩
 f8:=Tryz.func142.trans (congrArg some (by kernel_rfl))
 f10:=⟨Tryz.f156.name,by decide,Tryz.func156.trans (congrArg some (by kernel_rfl))⟩
 f11:=⟨Tryz.f157.name,by decide,Tryz.func157.trans (congrArg some (by kernel_rfl))⟩
 f12:=⟨Tryz.f158.name,by decide,Tryz.func158.trans (congrArg some (by kernel_rfl))⟩
 f13:=⟨Tryz.f159.name,by decide,Tryz.func159.trans (congrArg some (by kernel_rfl))⟩
 f14:=⟨Tryz.f160.name,by decide,Tryz.func160.trans (congrArg some (by kernel_rfl))⟩
 f15:=⟨Tryz.f161.name,by decide,Tryz.func161.trans (congrArg some (by kernel_rfl))⟩
 f16:=⟨Tryz.f162.name,by decide,Tryz.func162.trans (congrArg some (by kernel_rfl))⟩
 f17:=⟨Tryz.f163.name,by decide,Tryz.func163.trans (congrArg some (by kernel_rfl))⟩
 f18:=⟨Tryz.f164.name,by decide,Tryz.func164.trans (congrArg some (by kernel_rfl))⟩
 f19:=Tryz.func165.trans (congrArg some (by kernel_rfl))
 f20:=Tryz.func149.trans (congrArg some (by kernel_rfl))
 f30:=⟨Tryz.f174.name,by decide,Tryz.func174.trans (congrArg some (by kernel_rfl))⟩
 f31:=Tryz.func175.trans (congrArg some (by kernel_rfl))
 f32:=Tryz.func176.trans (congrArg some (by kernel_rfl))
 f33:=⟨Tryz.f177.name,by decide,Tryz.func177.trans (congrArg some (by kernel_rfl))⟩
 f34:=⟨Tryz.f178.name,by decide,Tryz.func178.trans (congrArg some (by kernel_rfl))⟩
 f35:=⟨Tryz.f179.name,by decide,Tryz.func179.trans (congrArg some (by kernel_rfl))⟩
 f40:=⟨Tryz.f189.name,by decide,Tryz.func189.trans (congrArg some (by kernel_rfl))⟩
 t0:=Tryz.underlying0
 a0:=Tryz.isAgg0
 z0:=Tryz.sizeOf0
 v0:=Tryz.zeroValue0
 t3:=Tryz.underlying3
 a3:=Tryz.isAgg3
 z3:=Tryz.sizeOf3
 v3:=Tryz.zeroValue3
 t4:=Tryz.underlying4
 a4:=Tryz.isAgg4
 z4:=Tryz.sizeOf4
 v4:=Tryz.zeroValue4
 t5:=Tryz.underlying5
 a5:=Tryz.isAgg5
 z5:=Tryz.sizeOf5
 v5:=Tryz.zeroValue5
 t9:=Tryz.underlying9
 a9:=Tryz.isAgg9
 z9:=Tryz.sizeOf9
 v9:=Tryz.zeroValue9
 t22:=Tryz.underlying76
 a22:=Tryz.isAgg76
 z22:=Tryz.sizeOf76
 v22:=Tryz.zeroValue76
 t23:=Tryz.underlying76
 a23:=Tryz.isAgg76
 z23:=Tryz.sizeOf76
 v23:=Tryz.zeroValue76
 t25:=Tryz.underlying3
 a25:=Tryz.isAgg3
 z25:=Tryz.sizeOf3
 v25:=Tryz.zeroValue3
 t32:=Tryz.underlying79
 a32:=Tryz.isAgg79
 z32:=Tryz.sizeOf79
 v32:=Tryz.zeroValue79
 t35:=Tryz.underlying208
 a35:=Tryz.isAgg208
 z35:=Tryz.sizeOf208
 v35:=Tryz.zeroValue208
 t36:=Tryz.underlying209
 a36:=Tryz.isAgg209
 z36:=Tryz.sizeOf209
 v36:=Tryz.zeroValue209
 t41:=Tryz.underlying123
 a41:=Tryz.isAgg123
 z41:=Tryz.sizeOf123
 v41:=Tryz.zeroValue123
 t44:=Tryz.underlying198
 a44:=Tryz.isAgg198
 z44:=Tryz.sizeOf198
 v44:=Tryz.zeroValue198
 t46:=Tryz.underlying80
 a46:=Tryz.isAgg80
 z46:=Tryz.sizeOf80
 v46:=Tryz.zeroValue80
 t53:=Tryz.underlying223
 a53:=Tryz.isAgg223
 z53:=Tryz.sizeOf223
 v53:=Tryz.zeroValue223
 t57:=Tryz.underlying227
 a57:=Tryz.isAgg227
 z57:=Tryz.sizeOf227
 v57:=Tryz.zeroValue227
 t63:=Tryz.underlying239
 a63:=Tryz.isAgg239
 z63:=Tryz.sizeOf239
 v63:=Tryz.zeroValue239
 t64:=Tryz.underlying240
 a64:=Tryz.isAgg240
 z64:=Tryz.sizeOf240
 v64:=Tryz.zeroValue240 }
end Go.Proofs
end
section
namespace Go.Proofs.YtemnmcfmabamcaaGreatDoor
open Go Go.RowKit
theorem Zab{P:Program}{l:List Oper}{md:Region.Mode}{Q:Exit→Act→World→Prop}{S:World→Prop}{i:Nat}{oi:Oper}{v:Value}{fuel:Nat}{listed:Array Bool}{a:Act}{w:World}(hi:l[i]? =some oi)
  (hs:Region.noSelect l.toArray=true) (hf:Region.free md l.toArray listed i=true) (hr:(Region.ready md l.toArray listed).contains i=true)
  (hQ:∀c a w,Q (.panic c) (a.put oi.dst v) w→Q (.panic c) a w) (hy:YieldsIf P l.toArray S oi v a) (hS:S w)
  (h:wpAnyH P md l.toArray Q S fuel (listed.setIfInBounds i true) (a.put oi.dst v) w):wpAnyH P md l.toArray Q S (fuel+1) listed a w :=
 wpAnyH_take (by simpa using hi) hs hf hr hQ hy hS h
theorem ZrR{P:Program}{l:List Oper}{md:Region.Mode}{Q:Exit→Act→World→Prop}{S:World→Prop}{i:Nat}{oi:Oper}{v:Value}{fuel:Nat}{listed:Array Bool}{a:Act}{w:World}(hi:l[i]? = some oi)(hc:(Region.noSelect l.toArray&&(Region.free md l.toArray listed i&&(Region.ready md l.toArray listed).contains i))=true)(hQ:∀c a w,Q (.panic c) (a.put oi.dst v) w→Q (.panic c) a w)(hy:YieldsIf P l.toArray S oi v a)(hS:S w)(h:wpAnyH P md l.toArray Q S fuel (listed.setIfInBounds i true) (a.put oi.dst v) w):wpAnyH P md l.toArray Q S (fuel+1) listed a w:=by
 rw[Bool.and_eq_true,Bool.and_eq_true] at hc
 exact Zab hi hc.1 hc.2.1 hc.2.2 hQ hy hS h
theorem ZaW{P:Program}{l:List Oper}{md:Region.Mode}{Q:Exit→Act→World→Prop}{S:World→Prop}{fuel:Nat}{listed:Array Bool}{a:Act}{w:World}{i:Nat}{o:Oper}(ho:l[i]? =some o)
  (h:∀K':Act→World→Prop,Shut (∀a w,S w→(S w→wpAnyH P md l.toArray Q S fuel (listed.setIfInBounds i true) a w)→K' a w)→if Region.wanted o (yielded l.toArray a.tmps)=true then Oper.wp P o a w K' Q else K' (a.put o.dst undef) w)
  : AllReadyH P md l.toArray Q S fuel listed a w [i]:=AllReadyH.cons (by simpa using ho) h AllReadyH.nil
theorem ZlG{P:Program}{l:List Oper}{md:Region.Mode}{Q:Exit→Act→World→Prop}{S:World→Prop}{fuel:Nat}{listed:Array Bool}{a:Act}{w:World}{i j:Nat}{o p:Oper}(ho:l[i]? =some o)(hp:l[j]? =some p)
  (h:∀K':Act→World→Prop,Shut (∀a w,S w→(S w→wpAnyH P md l.toArray Q S fuel (listed.setIfInBounds i true) a w)→K' a w)→if Region.wanted o (yielded l.toArray a.tmps)=true then Oper.wp P o a w K' Q else K' (a.put o.dst undef) w)
  (h':∀K':Act→World→Prop,Shut (∀a w,S w→(S w→wpAnyH P md l.toArray Q S fuel (listed.setIfInBounds j true) a w)→K' a w)→if Region.wanted p (yielded l.toArray a.tmps)=true then Oper.wp P p a w K' Q else K' (a.put p.dst undef) w) :
  AllReadyH P md l.toArray Q S fuel listed a w [i,j]:=AllReadyH.cons (by simpa using ho) h (AllReadyH.cons (by simpa using hp) h' AllReadyH.nil)
end Go.Proofs.YtemnmcfmabamcaaGreatDoor
end
