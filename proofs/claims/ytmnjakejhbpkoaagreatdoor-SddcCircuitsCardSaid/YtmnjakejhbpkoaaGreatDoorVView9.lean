import Derived.Test.YtmnjakejhbpkoaaGreatDoorVView6
set_option linter.unusedSimpArgs false
set_option linter.unusedVariables false
set_option maxRecDepth 100000
set_option maxHeartbeats 4000000
section
namespace Go.Proofs.YtmnjakejhbpkoaaGreatDoor
open Go Go.RowKit Go.Shelf
section
variable {t:List VN}{sb k:Nat}{X:List Nat}{s:St}{w0:World}{xv gt ct gb pc pn:Nat}{f:Nat→Zak}{wb:World}
theorem ZjJ(h0:MI0 t sb k X s w0 xv gt ct gb pc pn f wb):∀(a:Nat),a<s.nodes.length→∀(at_:Nat),at_<t.length→L.Dep (L.Bel t at_) (L.sem s.nodes a)→∀(m:List (Nat × Nat)) (W:World),FI t s pc wb m W →
  Calls Tryz.prog 97 #[.pointer (some ⟨xv,0,none⟩),.int .i64 (a:Nat),.int .i64 (at_:Nat)] W (ZmR t s pc wb W (L.cnt (L.vl t at_) (L.sem s.nodes a))):=by
 intro a
 induction a using Nat.strongRecOn with
 | ind a ih =>
   intro ha at_ cF hd m W hF;have hi:=h0.sl.inv;have hc:=h0.sl.chk;have eV:=h0.sl.tree;rcases hi.kind ha with rfl|rfl|⟨h2,nd,hn,hk⟩
   ·rw[show L.cnt (L.vl t at_) (L.sem s.nodes 0)=0 by rw[show L.sem s.nodes 0=fun _=>false from funext hi.sem0];exact L.cnt_false _]
    exact Zh4 h0 hF at_
   ·rw[show L.cnt (L.vl t at_) (L.sem s.nodes 1)=2 ^ L.nv t at_ by rw[show L.sem s.nodes 1=fun _=>true from funext hi.sem1];exact L.cnt_true _]
    exact ZjN h0 hF cF
   ·obtain⟨P,bv,hP,hu⟩:=hi.at_und h2 hn (Q:=at_) (by rw[eV];exact hd)
    obtain⟨P',mf,_,uA⟩:=hi.place h2 hn;have:P'=P:=by omega
    subst this;rw[eV]at hP hu uA
    cases hm:asc m a with
    | some c =>
      obtain⟨nd',P2,e1,e2,_,e3⟩:=hF.ct a c hm;rw[hn]at e1
      cases e1
      have:P2=P':=by omega
      subst this;exact ZjL h0 hF h2 cF hn bv hP hu uA hm e3
    | none =>
      rcases hk with hl|hk
      ·obtain⟨u,y,l1,l2,l3,l4⟩:=hl.leaf
       have:u=P':=by omega
       subst this;rw[eV]at l2;refine ZjM h0 hF h2 cF hn bv hP hu uA hm hl.el ?_;rw[show L.sem s.nodes a=fun x=>x y.var ==decide (0<nd.lit) from funext fun x=>by rw[hi.semLit hn hl,l4]];exact(L.cnt_leaf l2 l3 _).symm
      ·obtain⟨P2,y,l,r,g1,g2,g3,g4,g5,g6,g7,g8,g9,g10⟩:=hi.facts hn hk
       have:P2=P':=by omega
       subst this;rw[eV]at g2 g6;obtain⟨l',r',e1,e2,b1,b2,_⟩:=L.inner_ok hc g2 g3;have el:l'=l:=by omega
       have er:r'=r:=by omega
       subst el;subst er;refine ZjK h0 hF h2 cF hn bv hP hu uA hm g2 g4 g5 (fun e=>by have:=g6.two;rw[e]at this;simp at this) ?_ (fun p hp m' V hV=>?_)
       ·rw[show L.sem s.nodes a=fun x=>nd.el.any fun p=>L.sem s.nodes p.1 x && L.sem s.nodes p.2 x from funext fun x=>hi.semDec hn hk x]
        exact(L.cnt_parts hc g2 g3 g4 g5 g6.pdep g6.sdep g6.disj).symm
       ·obtain⟨k1,k2⟩:=hk.kids p hp
        exact⟨ih p.1 k1 (by omega) l' (by omega) (g6.pdep p hp) m' V hV,ih p.2 k2 (by omega) r' (by omega) (g6.sdep p hp) m' V hV⟩
end
theorem ZgN{t:List VN}{sb k:Nat}{X:List Nat}{s:St}{w0 w:World}(h:SL t sb k X s w0 w){a:Nat}{φ:L.Asg→Bool}(ha:Val s a φ) :
  Calls Tryz.prog 28 #[.pointer (some ⟨sb,0,none⟩),.int .i64 (a:Nat)] w fun e w'=>e= .returned (.tuple #[Zbx (L.cnt (L.vl t (t.length - 1)) φ),.int .i64 0])∧Below w.heap.size w w':=by
 have hc:=h.chk;have pw:=(Zar hc).1;have aY:=h.few;have ik:L.Dep (L.Bel t (t.length - 1)) (L.sem s.nodes a):=by have:=Zbd h.inv ha.lt;rw[h.tree]at this;exact this
 have dR:L.cnt (L.vl t (t.length - 1)) (L.sem s.nodes a)=L.cnt (L.vl t (t.length - 1)) φ:=by rw[show L.sem s.nodes a=φ from funext ha.sem]
 have aS:=(Zpr w.heap.size w).alloc (ZpD _) (.cells #[.string ⟨#[]⟩] 52);have aC:=Zpm w (.cells #[.string ⟨#[]⟩] 52);have dZ:ZcR<w.heap.size∧gTz<w.heap.size:=by obtain⟨B,_,hR,_⟩:=h.on;exact⟨hR.pow.lt,hR.tz.lt'⟩
 obtain⟨w1,aD⟩:∃w1,w1=w.alloc (.cells #[.string ⟨#[]⟩] 52):=⟨_,rfl⟩;rw[←aD]at aS aC;have h1:=h.below aS;have q1:=ZiM h1 ha.lt;have lP:w1.heap.size=w.heap.size+1:=by rw[aD];simp
 have dt:IntKind.i64.wrap ((t.length:Int) - 1)=((t.length - 1:Nat):Int):=by rw[IntWalk.i64_in _ (by omega)];omega
 go_enter Tryz.func28,Tryz.ntmps28
 go_wp2_with fail;rw[←aD];replace aD:=Zpe aD;replace lP:=Zpe lP;refine q1.mono ?_;rintro e w2 ⟨xv,gt,ct,gb,pc,pn,f,rfl,aZ,mJ,ec,_,⟨n1,n2,n3⟩,hy,aP⟩;have uV:=hy pc (by simp)
 have hMI:MI0 t sb k (xv :: gt :: gb :: pc :: pn :: X) s w0 xv gt ct gb pc pn f w2:=by
  refine⟨aZ,mJ,⟨by simp,Zpp h1.bel.size uV,?_,?_⟩,⟨?_,?_,?_⟩,?_⟩
  ·have:=aS.size;omega
  ·have:=aS.size;omega
  ·exact(n3 pc (by simp)).symm
  ·intro e
   obtain⟨L0,qq,iz,_⟩:=ec;have:=(mJ.tree.node (k:=0) pw).1;rw[e,World.cell?,iz]at this;simp at this
  ·intro e
   obtain⟨L0,qq,iz,_⟩:=ec;obtain⟨c,eC,_⟩:=mJ.sets;rw[e,iz]at eC;simp at eC
  ·obtain⟨L0,qq,iz,_⟩:=ec;exact⟨_,_,iz⟩
 have iO:FI t s pc w2 [] w2:=⟨Fr.refl _ _,ec,fun i c h=>by cases h⟩;have q2:=ZjJ hMI a ha.lt (t.length - 1) (by omega) ik [] w2 iO;have kv:w2.cell? ⟨xv,1,none⟩=some (.slice (some ⟨gt,0,none⟩) t.length ct):=by simp[World.cell?,mJ.box]
 have fX:=(aP.block _ (Zpi aC).1).trans aC;have io:Below w.heap.size w w2:=aS.trans (aP.mono aS.size);have eH:w.heap.size<pc:=by have:=lP.out;omega
 clear q1 aC aP hMI iO aZ mJ ec hy n3 h1;go_wp2_with fail;refine q2.mono ?_;rintro e w3 ⟨m3,rfl,_,bq⟩;have dd:=ZiA bq fX (by omega);have fz:w3.frozen? ⟨w.heap.size,0,none⟩=false:=by simp[World.frozen?,dd]
 have bR:w3.cell? ⟨w.heap.size,0,none⟩=some (.string ⟨#[]⟩):=by simp[World.cell?,dd]
 have am:Below w.heap.size w w3:=⟨bq.os.trans io.os,bq.tape.trans io.tape,bq.output.trans io.output,Zpp io.size bq.size,fun j hj=>(bq.block j (Zpq hj io.size) (by simp;omega)).trans (io.block j hj)⟩;rw[dR];replace dR:=Zpe dR;unfold Zbx;generalize hT:(⟨(Zb5 (L.cnt (L.vl t (t.length - 1)) φ)).toArray⟩:ByteArray)=T at *;have aG:((w3.setCell ⟨w.heap.size,0,none⟩ (.string T)).cell? ⟨w.heap.size,0,none⟩=some (.string T)):=by simp[World.cell?,Zag dd 0 _]
 replace aG:=Zpe aG;replace am:=Zpe am;clear q2 bq fX io dd;go_wp2_with fail;refine bodyPost_ret (v:=.tuple #[.agg #[.string T],.int .i64 0]) (by simp[results,Tryz.results28,go_sem,aG.out]) rfl ⟨by rw[←hT] <;> rfl,am.out.setCell (ZpD _) _⟩
def GvM (s:St)(v:Int)(b:Bool)(m:List (Nat × Nat)):Prop:=∀i j,asc m i=some j→i<s.nodes.length∧Val s j (L.giv (L.sem s.nodes i) v b)
theorem GvM.step{s s':St}{v:Int}{b:Bool}{m:List (Nat × Nat)}(h:GvM s v b m)(hi:L.Inv s)(hS:L.Step s s'):GvM s' v b m:=fun i j cN=>by
 obtain⟨h1,h2⟩:=h i j cN;refine⟨Zpq h1 hS.len,?_⟩;rw[hS.sem hi h1];exact h2.step hi hS
structure GI (t:List VN) (sb:Nat) (X:List Nat) (w0:World) (xv gt ct gb pc pn:Nat) (f:Nat→Zak) (l:Int) (yes:Nat) (k:Nat) (s:St) (m:List (Nat × Nat)) (W:World):Prop where
 sl:SL t sb k X s w0 W
 vw:ZmT t sb xv gt ct gb pc pn f W
 mp:ZaG Zab Zab W pn (asc m)
 mv:GvM s (l.natAbs:Int) (decide (0<l)) m
 yes:Val s yes (ZfK l)
 pn:pn∈X∧w0.heap.size≤pn∧pn≠ZcR∧pn≠gTz
def ZmQ (t:List VN)(sb:Nat)(X:List Nat)(w0:World)(xv gt ct gb pc pn:Nat)(f:Nat→Zak)(l:Int)(yes k:Nat)(s:St)(W:World)(φ:L.Asg→Bool)(e:Ending)(W':World):Prop :=
 ∃(r:Nat) (s':St) (m':List (Nat × Nat)),e= .returned (.tuple #[.int .i64 (r:Nat),.int .i64 0])∧GI t sb X w0 xv gt ct gb pc pn f l yes k s' m' W'∧L.Step s s'∧Val s' r φ∧Zaz W W'
section
variable {t:List VN}{sb k k':Nat}{X:List Nat}{s s':St}{w0:World}{xv gt ct gb pc pn yes:Nat}{f:Nat→Zak}{l:Int}{W W':World}{m:List (Nat × Nat)}
theorem GI.less(h:GI t sb X w0 xv gt ct gb pc pn f l yes k s m W)(hk:k'≤k):GI t sb X w0 xv gt ct gb pc pn f l yes k' s m W:=⟨h.sl.less hk,h.vw,h.mp,h.mv,h.yes,h.pn⟩
theorem GI.below(h:GI t sb X w0 xv gt ct gb pc pn f l yes k s m W)(hb:Below W.heap.size W W'):GI t sb X w0 xv gt ct gb pc pn f l yes k s m W':=by
 have h0:=(Zar h.sl.chk).1;have xF:=Zpk _ _ ((h.vw.tree.node (k:=0) h0).1);exact⟨h.sl.below hb,h.vw.same (hb.block _ (Zpi h.vw.box).1) (hb.block _ xF) (hb.block _ h.vw.sets.lt),h.mp.same (hb.block _ h.mp.lt),h.mv,h.yes,h.pn⟩
theorem GI.op(h:GI t sb X w0 xv gt ct gb pc pn f l yes k s m W)(hX:xv∈X∧gt∈X∧gb∈X)(hs:SL t sb k' X s' w0 W')(hS:L.Step s s')(hx:∀x∈X,W'.heap[x]? =W.heap[x]?):GI t sb X w0 xv gt ct gb pc pn f l yes k' s' m W' :=
 ⟨hs,h.vw.same (hx _ hX.1) (hx _ hX.2.1) (hx _ hX.2.2),h.mp.same (hx _ h.pn.1),h.mv.step h.sl.inv hS,h.yes.step h.sl.inv hS,h.pn⟩
theorem GI.look(h:GI t sb X w0 xv gt ct gb pc pn f l yes k s m W)(a:Nat):(Instr.lookup 142 (.map (some pn)) (.int .i64 a) true).run Tryz.prog W= .ok (.tuple #[((asc m a).map Zab).getD (.int .i64 0),.bool (asc m a).isSome]) W:=h.mp.lookI a
theorem ZlF{W:World}{pn:Nat}{K:TypeId}{a b:Value}{es:Array MapEntry}{cl:Nat}(hm:W.heap[pn]? =some (.map es cl)):Zaz W (Zap K Tryz.prog W pn a b) :=
 ⟨by rw[Za1];exact ZpD _,fun j c ty fz hj _ _=>(Zai _ _ _ _ _ j (fun e=>by rw[e,hm]at hj;cases hj)).trans hj⟩
theorem GI.put(h:GI t sb X w0 xv gt ct gb pc pn f l yes k s m W)(a r:Nat)(ha:a<s.nodes.length)(hv:Val s r (L.giv (L.sem s.nodes a) (l.natAbs:Int) (decide (0<l)))) :
  (Instr.mapUpdate 142 (.map (some pn)) (.int .i64 a) (.int .i64 r)).run Tryz.prog W= .ok () (Zap 3 Tryz.prog W pn (Zab a) (Zab r))∧GI t sb X w0 xv gt ct gb pc pn f l yes k s ((a,r) :: m) (Zap 3 Tryz.prog W pn (Zab a) (Zab r))∧Zaz W (Zap 3 Tryz.prog W pn (Zab a) (Zab r)):=by
 obtain⟨h1,h2⟩:=h.mp.putI a r;have hm:=h.mp;obtain⟨L0,qq,iz,_⟩:=hm;have sA:=ZkE W 3 pn (Zab a) (Zab r);have aH:∀j c ty fz,W.heap[j]? =some (.cells c ty fz)→j≠pn:=fun j c ty fz hj e=>by rw[e,iz]at hj;cases hj
 have h0:=(Zar h.sl.chk).1
 obtain⟨c,hc⟩:∃c ty fz,W.heap[gt]? =some (.cells c ty fz):=by
  have:=(h.vw.tree.node (k:=0) h0).1;unfold World.cell? at this
  split at this
  ·rename_i c ty fz hh;exact⟨c,ty,fz,hh⟩
  ·cases this
 obtain⟨ty,fz,hc⟩:=hc;obtain⟨c2,gh,_⟩:=h.vw.sets;refine⟨h1,⟨h.sl.fr h.pn.1 h.pn.2.1 iz h.pn.2.2 sA,h.vw.same (Zai _ _ _ _ _ _ (aH _ _ _ _ h.vw.box)) (Zai _ _ _ _ _ _ (aH _ _ _ _ hc)) (Zai _ _ _ _ _ _ (aH _ _ _ _ gh)),h2,fun i j cN=>?_,h.yes,h.pn⟩,ZlF iz⟩;have oo:(if i=a then some r else asc m i)=some j:=cN
 split at oo
 ·rename_i e
  cases oo
  rw[show i=a from e];exact⟨ha,hv⟩
 ·exact h.mv i j oo
end
section
variable {t:List VN}{sb k:Nat}{X:List Nat}{s:St}{w0:World}{xv gt ct gb pc pn yes:Nat}{f:Nat→Zak}{l:Int}{W:World}{m:List (Nat × Nat)}
theorem Zbu{t:List VN}{j:Nat}{m:Zak}(h:ZbE t j m){v:Int}(hv:1≤v∧v≤128):Zau m v=true↔L.Bel t j v:=by
 have h1:=h (v - 1).toNat (by omega);have h2:=L.hasS_bit m (v - 1).toNat (by omega);rw[show (((v - 1).toNat:Nat):Int)+1=v by omega]at h1 h2;rw[h2];exact h1
theorem ZeQ(h:GI t sb X w0 xv gt ct gb pc pn f l yes k s m W){a:Nat}{nd:Zaf}(hn:s.nodes[a]? =some nd)(hp:nd.pl<0)(hg:∀x,L.giv (L.sem s.nodes a) (l.natAbs:Int) (decide (0<l)) x=L.sem s.nodes a x) :
  Calls Tryz.prog 102 #[.pointer (some ⟨xv,0,none⟩),.int .i64 (a:Nat),.int .i64 (yes:Nat),.int .i64 (l.natAbs:Nat)] W (ZmQ t sb X w0 xv gt ct gb pc pn f l yes k s W (L.giv (L.sem s.nodes a) (l.natAbs:Int) (decide (0<l)))):=by
 have ha:=(Zpj hn).1;have q1:=h.sl.at hn;have c0:W.cell? ⟨xv,0,none⟩=some (.pointer (some ⟨sb,0,none⟩)):=by simp[World.cell?,h.vw.box]
 have d0:decide (nd.pl<0)=true:=Zpv hp
 go_enter Tryz.func102,Tryz.ntmps102
 go_wp2_with fail;refine q1.mono ?_;rintro e w2 ⟨rfl,aP⟩;have h2:=h.below aP;replace h:=Zpe h;clear q1;go_wp2_with fail;go_ret2;exact⟨a,s,m,rfl,h2,L.Step.refl h.out.sl.inv,⟨ha,fun x=>(hg x).symm⟩,Zaz.of_below aP⟩
theorem ZkN(h:GI t sb X w0 xv gt ct gb pc pn f l yes k s m W){a:Nat}{nd:Zaf}(hn:s.nodes[a]? =some nd){P:Nat}(hp:nd.pl=(P:Nat))(hP:P<t.length)(hv:1≤(l.natAbs:Int)∧(l.natAbs:Int)≤128)(bJ:¬ L.Bel t P (l.natAbs:Int))(hg:∀x,L.giv (L.sem s.nodes a) (l.natAbs:Int) (decide (0<l)) x=L.sem s.nodes a x) :
  Calls Tryz.prog 102 #[.pointer (some ⟨xv,0,none⟩),.int .i64 (a:Nat),.int .i64 (yes:Nat),.int .i64 (l.natAbs:Nat)] W (ZmQ t sb X w0 xv gt ct gb pc pn f l yes k s W (L.giv (L.sem s.nodes a) (l.natAbs:Int) (decide (0<l)))):=by
 have ha:=(Zpj hn).1;have q1:=h.sl.at hn;rw[hp]at q1;have c0:W.cell? ⟨xv,0,none⟩=some (.pointer (some ⟨sb,0,none⟩)):=by simp[World.cell?,h.vw.box]
 have d0:decide ((P:Int)<0)=false:=Zpu (by omega);have g0:(0:Int)≤P:=by omega
 have g1:(P:Int)<t.length:=by omega
 have hh:Zau (f P) (l.natAbs:Int)=false:=by
  cases e:Zau (f P) (l.natAbs:Int)
  ·rfl
  ·exact absurd ((Zbu (h.vw.bel P hP) hv).1 e) bJ
 have qh:=fun V=>ZdM (f P) (l.natAbs:Int) V (by omega) (by omega)
 rw[hh]at qh;replace qh:=Zpe qh
 go_enter Tryz.func102,Tryz.ntmps102
 go_wp2_with fail;refine q1.mono ?_;rintro e w2 ⟨rfl,aP⟩;have h2:=h.below aP;have c2:w2.cell? ⟨xv,2,none⟩=some (.slice (some ⟨gb,0,none⟩) t.length t.length):=by simp[World.cell?,h2.vw.box]
 obtain⟨⟨s1,s2⟩,_⟩:=h2.vw.sets.cell hP;have lX:=qh.out w2;replace h:=Zpe h;replace h2:=Zpe h2;clear q1 c0;go_wp2_with fail;refine lX.mono ?_;rintro e w3 ⟨rfl,aR⟩;clear lX;go_wp2_with fail;go_ret2;exact⟨a,s,m,rfl,h2.out.below aR.below,L.Step.refl h.out.sl.inv,⟨ha,fun x=>(hg x).symm⟩,Zaz.of_below (aP.trans (aR.below.mono aP.size))⟩
theorem ZkL(h:GI t sb X w0 xv gt ct gb pc pn f l yes k s m W){a:Nat}{nd:Zaf}(hn:s.nodes[a]? =some nd){P:Nat}(hp:nd.pl=(P:Nat))(hP:P<t.length)(hv:1≤(l.natAbs:Int)∧(l.natAbs:Int)≤128)(bD:L.Bel t P (l.natAbs:Int)){r:Nat}(hm:asc m a=some r) :
  Calls Tryz.prog 102 #[.pointer (some ⟨xv,0,none⟩),.int .i64 (a:Nat),.int .i64 (yes:Nat),.int .i64 (l.natAbs:Nat)] W (ZmQ t sb X w0 xv gt ct gb pc pn f l yes k s W (L.giv (L.sem s.nodes a) (l.natAbs:Int) (decide (0<l)))):=by
 have ha:=(Zpj hn).1;have q1:=h.sl.at hn;rw[hp]at q1;have c0:W.cell? ⟨xv,0,none⟩=some (.pointer (some ⟨sb,0,none⟩)):=by simp[World.cell?,h.vw.box]
 have d0:decide ((P:Int)<0)=false:=Zpu (by omega);have g0:(0:Int)≤P:=by omega
 have g1:(P:Int)<t.length:=by omega
 have hh:Zau (f P) (l.natAbs:Int)=true:=(Zbu (h.vw.bel P hP) hv).2 bD;have qh:=fun V=>ZdM (f P) (l.natAbs:Int) V (by omega) (by omega)
 rw[hh]at qh;replace qh:=Zpe qh;replace hh:=Zpe hh
 go_enter Tryz.func102,Tryz.ntmps102
 go_wp2_with fail;refine q1.mono ?_;rintro e w2 ⟨rfl,aP⟩;have h2:=h.below aP;have c2:w2.cell? ⟨xv,2,none⟩=some (.slice (some ⟨gb,0,none⟩) t.length t.length):=by simp[World.cell?,h2.vw.box]
 obtain⟨⟨s1,s2⟩,_⟩:=h2.vw.sets.cell hP;have lX:=qh.out w2;replace h:=Zpe h;replace h2:=Zpe h2;clear q1 c0;go_wp2_with fail;refine lX.mono ?_;rintro e w3 ⟨rfl,aR⟩;have h3:=h2.out.below aR.below;have dG:=Zaz.of_below (aP.trans (aR.below.mono aP.size));have c4:w3.cell? ⟨xv,4,none⟩=some (.map (some pn)):=by simp[World.cell?,h3.vw.box]
 have lk:=h3.look a;clear lX s1 s2 c2 h2 qh;rw[hm,show ((some r).map Zab).getD (.int .i64 0)= .int .i64 (r:Nat) from rfl,show (some r).isSome=true from rfl]at lk;have uY:=(h.out.mv a r hm).2;replace h3:=Zpe h3;go_wp2_with fail;go_ret2;exact⟨r,s,m,rfl,h3.out,L.Step.refl h.out.sl.inv,uY,dG⟩
theorem ZkM(h:GI t sb X w0 xv gt ct gb pc pn f l yes k s m W){a:Nat}{nd:Zaf}(hn:s.nodes[a]? =some nd){P:Nat}(hp:nd.pl=(P:Nat))(hP:P<t.length)(hv:1≤(l.natAbs:Int)∧(l.natAbs:Int)≤128)(bD:L.Bel t P (l.natAbs:Int))(hm:asc m a=none)(cG:nd.el=[])
  {o:Nat}(ho:o=if a=yes then 1 else 0) (pY:Val s o (L.giv (L.sem s.nodes a) (l.natAbs:Int) (decide (0<l)))) :
  Calls Tryz.prog 102 #[.pointer (some ⟨xv,0,none⟩),.int .i64 (a:Nat),.int .i64 (yes:Nat),.int .i64 (l.natAbs:Nat)] W (ZmQ t sb X w0 xv gt ct gb pc pn f l yes k s W (L.giv (L.sem s.nodes a) (l.natAbs:Int) (decide (0<l)))):=by
 have ha:=(Zpj hn).1;have q1:=h.sl.at hn;rw[hp]at q1;have c0:W.cell? ⟨xv,0,none⟩=some (.pointer (some ⟨sb,0,none⟩)):=by simp[World.cell?,h.vw.box]
 have d0:decide ((P:Int)<0)=false:=Zpu (by omega);have g0:(0:Int)≤P:=by omega
 have g1:(P:Int)<t.length:=by omega
 have hh:Zau (f P) (l.natAbs:Int)=true:=(Zbu (h.vw.bel P hP) hv).2 bD;have qh:=fun V=>ZdM (f P) (l.natAbs:Int) V (by omega) (by omega)
 rw[hh]at qh;replace qh:=Zpe qh;replace hh:=Zpe hh
 go_enter Tryz.func102,Tryz.ntmps102
 go_wp2_with fail;refine q1.mono ?_;rintro e w2 ⟨rfl,aP⟩;have h2:=h.below aP;have c2:w2.cell? ⟨xv,2,none⟩=some (.slice (some ⟨gb,0,none⟩) t.length t.length):=by simp[World.cell?,h2.vw.box]
 obtain⟨⟨s1,s2⟩,_⟩:=h2.vw.sets.cell hP;have lX:=qh.out w2;replace h:=Zpe h;replace h2:=Zpe h2;clear q1 c0;go_wp2_with fail;refine lX.mono ?_;rintro e w3 ⟨rfl,aR⟩;have h3:=h2.out.below aR.below;have dG:=Zaz.of_below (aP.trans (aR.below.mono aP.size));have c4:w3.cell? ⟨xv,4,none⟩=some (.map (some pn)):=by simp[World.cell?,h3.vw.box]
 have lk:=h3.look a;clear lX s1 s2 c2 h2 qh;rw[hm,show ((none:Option Nat).map Zab).getD (.int .i64 0)= .int .i64 0 from rfl,show (none:Option Nat).isSome=false from rfl]at lk;have q4:=h3.sl.elements hn;rw[cG,show ([]:List (Nat × Nat)).length=0 from rfl]at q4;have k0:w3.cell? ⟨xv,0,none⟩=some (.pointer (some ⟨sb,0,none⟩)):=by simp[World.cell?,h3.vw.box]
 replace h3:=Zpe h3;go_wp2_with fail;refine q4.mono ?_;rintro e w4 ⟨ba,cap,rfl,_,bF⟩;have h4:=h3.out.below bF;have cJ:=dG.trans (Zaz.of_below bF);have k4:w4.cell? ⟨xv,4,none⟩=some (.map (some pn)):=by simp[World.cell?,h4.vw.box]
 obtain⟨dY,h5,jE⟩:=h4.put a o ha pY;replace h5:=Zpe h5;replace h4:=Zpe h4;replace pY:=Zpe pY;clear q4 h3 c4 lk k0
 by_cases hay:a=yes
 ·have dy:((a:Int) ==(yes:Int))=true:=by rw[beq_iff_eq];omega
  rw[if_pos hay]at ho;subst ho;rw[show (((1:Nat):Nat):Int)=1 from rfl]at dY;replace hay:=Zpe hay;go_wp2_with fail;refine wp_loop_rounds 1 ?_;rw[rounds_succ];go_wp2_with fail;go_ret2;exact⟨1,s,_,rfl,h5.out,L.Step.refl h.out.sl.inv,pY.out,cJ.trans jE⟩
 ·have dy:((a:Int) ==(yes:Int))=false:=by rw[beq_eq_false_iff_ne];omega
  rw[if_neg hay]at ho;subst ho;rw[show (((0:Nat):Nat):Int)=0 from rfl]at dY;replace hay:=Zpe hay;go_wp2_with fail;refine wp_loop_rounds 1 ?_;rw[rounds_succ];go_wp2_with fail;go_ret2;exact⟨0,s,_,rfl,h5.out,L.Step.refl h.out.sl.inv,pY.out,cJ.trans jE⟩
end
end Go.Proofs.YtmnjakejhbpkoaaGreatDoor
end
