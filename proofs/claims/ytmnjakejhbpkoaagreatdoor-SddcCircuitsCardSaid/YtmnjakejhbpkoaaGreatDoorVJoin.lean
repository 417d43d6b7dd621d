import Derived.Test.YtmnjakejhbpkoaaGreatDoorVView9
set_option linter.unusedSimpArgs false
set_option linter.unusedVariables false
set_option maxRecDepth 100000
set_option maxHeartbeats 16000000
section
namespace Go.Proofs.YtmnjakejhbpkoaaGreatDoor
open Go Go.RowKit Go.Shelf
def elG (s:St)(v:Int)(b:Bool)(el:List (Nat × Nat)):L.Asg→Bool:=fun x=>el.any fun p=>L.giv (L.sem s.nodes p.1) v b x && L.giv (L.sem s.nodes p.2) v b x
theorem Zmc(s:St)(v:Int)(b:Bool)(el:List (Nat × Nat))(p:Nat × Nat)(x:L.Asg):(elG s v b el x || (L.giv (L.sem s.nodes p.1) v b x && L.giv (L.sem s.nodes p.2) v b x))=elG s v b (el++[p]) x:=by
 unfold elG;rw[List.any_append];simp
theorem Znp{s:St}{v:Int}{b:Bool}{S:Int→Prop}{el:List (Nat × Nat)}(h:∀p∈el,L.Dep S (L.sem s.nodes p.1)∧L.Dep S (L.sem s.nodes p.2)):L.Dep S (elG s v b el):=fun x y dH=>by
 have hp:∀p∈el,(L.giv (L.sem s.nodes p.1) v b x && L.giv (L.sem s.nodes p.2) v b x)=(L.giv (L.sem s.nodes p.1) v b y && L.giv (L.sem s.nodes p.2) v b y):=fun p hp=>by
  rw[L.giv_dep (h p hp).1 x y dH,L.giv_dep (h p hp).2 x y dH]
 unfold elG;rw[Bool.eq_iff_iff,List.any_eq_true,List.any_eq_true];exact⟨fun ⟨p,h1,h2⟩=>⟨p,h1,by rw[←hp p h1];exact h2⟩,fun ⟨p,h1,h2⟩=>⟨p,h1,by rw[hp p h1];exact h2⟩⟩
section
variable {t:List VN}{sb k k':Nat}{X:List Nat}{s:St}{w0:World}{xv gt ct gb pc pn yes:Nat}{f:Nat→Zak}{l:Int}{W:World}{m:List (Nat × Nat)}
def LpG (t:List VN)(sb:Nat)(X:List Nat)(w0:World)(xv gt ct gb pc pn:Nat)(f:Nat→Zak)(l:Int)(yes k:Nat)(s:St)(W:World)(el:List (Nat × Nat))(ge:Nat)(cs:Array Value)(out:Nat)(wr:World):Prop :=
 ∃(so:St) (mo:List (Nat × Nat)),GI t sb X w0 xv gt ct gb pc pn f l yes k so mo wr∧L.Step s so∧Val so out (elG s (l.natAbs:Int) (decide (0<l)) el)∧Zaz W wr∧wr.heap[ge]? =some (.cells cs ZaO (0,0))
theorem ZkK(h:GI t sb X w0 xv gt ct gb pc pn f l yes k s m W)(hX:xv∈X∧gt∈X∧gb∈X){a:Nat}{nd:Zaf}(hn:s.nodes[a]? =some nd){P:Nat}(hp:nd.pl=(P:Nat))(hP:P<t.length)(hv:1≤(l.natAbs:Int)∧(l.natAbs:Int)≤128)(bD:L.Bel t P (l.natAbs:Int))(hm:asc m a=none)
  {c1 c2:Nat}{D1 D2:Int→Prop}(vN:∀v,D1 v→L.Bel t P v) (vO:∀v,D2 v→L.Bel t P v) (hd:∀p∈nd.el,(p.1<s.nodes.length∧L.Dep D1 (L.sem s.nodes p.1))∧p.2<s.nodes.length∧L.Dep D2 (L.sem s.nodes p.2)) (aH:nd.el≠[])
  (hk:k'+nd.el.length*(c1+c2+(L.ca (L.nv t P)+L.co (L.nv t P)))≤k) (he:L.giv (L.sem s.nodes a) (l.natAbs:Int) (decide (0<l))=elG s (l.natAbs:Int) (decide (0<l)) nd.el)
  (tW:∀(b k1 k2:Nat) (s1:St) (m1:List (Nat × Nat)) (V:World),GI t sb X w0 xv gt ct gb pc pn f l yes k1 s1 m1 V→b<s1.nodes.length→L.Dep D1 (L.sem s1.nodes b)→k2+c1≤k1 →
    Calls Tryz.prog 102 #[.pointer (some ⟨xv,0,none⟩),.int .i64 (b:Nat),.int .i64 (yes:Nat),.int .i64 (l.natAbs:Nat)] V (ZmQ t sb X w0 xv gt ct gb pc pn f l yes k2 s1 V (L.giv (L.sem s1.nodes b) (l.natAbs:Int) (decide (0<l)))))
  (tX:∀(b k1 k2:Nat) (s1:St) (m1:List (Nat × Nat)) (V:World),GI t sb X w0 xv gt ct gb pc pn f l yes k1 s1 m1 V→b<s1.nodes.length→L.Dep D2 (L.sem s1.nodes b)→k2+c2≤k1 →
    Calls Tryz.prog 102 #[.pointer (some ⟨xv,0,none⟩),.int .i64 (b:Nat),.int .i64 (yes:Nat),.int .i64 (l.natAbs:Nat)] V (ZmQ t sb X w0 xv gt ct gb pc pn f l yes k2 s1 V (L.giv (L.sem s1.nodes b) (l.natAbs:Int) (decide (0<l))))) :
  Calls Tryz.prog 102 #[.pointer (some ⟨xv,0,none⟩),.int .i64 (a:Nat),.int .i64 (yes:Nat),.int .i64 (l.natAbs:Nat)] W (ZmQ t sb X w0 xv gt ct gb pc pn f l yes k' s W (L.giv (L.sem s.nodes a) (l.natAbs:Int) (decide (0<l)))):=by
 have hi:=h.sl.inv
 have aL:nd.el.length≤1048576:=by
  obtain⟨B,_,hR,_⟩:=h.sl.on;exact(hR.small.2 nd (List.mem_of_getElem? hn)).2.2.2.2.1
 have dT:0<nd.el.length:=List.length_pos_iff.2 aH;have dl:((nd.el.length:Int) ==0)=false:=by rw[beq_eq_false_iff_ne];omega
 obtain⟨ce,kH⟩:∃ce,ce=c1+c2+(L.ca (L.nv t P)+L.co (L.nv t P)):=⟨_,rfl⟩;rw[←kH]at hk;obtain⟨vv,hvv⟩:∃vv,vv=(l.natAbs:Int):=⟨_,rfl⟩;replace tW:=Zpe tW;replace tX:=Zpe tX;replace hd:=Zpe hd;replace he:=Zpe he;have ha:=(Zpj hn).1;have q1:=h.sl.at hn;rw[hp]at q1;have c0:W.cell? ⟨xv,0,none⟩=some (.pointer (some ⟨sb,0,none⟩)):=by simp[World.cell?,h.vw.box]
 have d0:decide ((P:Int)<0)=false:=Zpu (by omega);have g0:(0:Int)≤P:=by omega
 have g1:(P:Int)<t.length:=by omega
 have hh:Zau (f P) (l.natAbs:Int)=true:=(Zbu (h.vw.bel P hP) hv).2 bD;have qh:=fun V=>ZdM (f P) (l.natAbs:Int) V (by omega) (by omega)
 rw[hh]at qh;replace qh:=Zpe qh;replace hh:=Zpe hh
 go_enter Tryz.func102,Tryz.ntmps102
 go_wp2_with fail;refine q1.mono ?_;rintro e w2 ⟨rfl,aP⟩;have h2:=h.below aP;have c2:w2.cell? ⟨xv,2,none⟩=some (.slice (some ⟨gb,0,none⟩) t.length t.length):=by simp[World.cell?,h2.vw.box]
 obtain⟨⟨s1,s2⟩,_⟩:=h2.vw.sets.cell hP;have lX:=qh.out w2;replace h:=Zpe h;replace h2:=Zpe h2;clear q1 c0;go_wp2_with fail;refine lX.mono ?_;rintro e w3 ⟨rfl,aR⟩;have h3:=h2.out.below aR.below;have dG:=Zaz.of_below (aP.trans (aR.below.mono aP.size));have c4:w3.cell? ⟨xv,4,none⟩=some (.map (some pn)):=by simp[World.cell?,h3.vw.box]
 have lk:=h3.look a;clear lX s1 s2 c2 h2 qh;rw[hm,show ((none:Option Nat).map Zab).getD (.int .i64 0)= .int .i64 0 from rfl,show (none:Option Nat).isSome=false from rfl]at lk;have q4:=h3.sl.elements hn;have k0:w3.cell? ⟨xv,0,none⟩=some (.pointer (some ⟨sb,0,none⟩)):=by simp[World.cell?,h3.vw.box]
 replace h3:=Zpe h3;go_wp2_with fail;refine q4.mono ?_;rintro e w4 ⟨ba,cap,rfl,rK,bF⟩;obtain⟨ge,cs,rfl,dC,rz,aO⟩:=rK.cells aH;have h4:=h3.out.below bF;have cJ:=dG.trans (Zaz.of_below bF);have iB:Hid (LpG t sb X w0 xv gt ct gb pc pn f l yes (k'+(nd.el.length - 0)*ce) s W (nd.el.take 0) ge cs 0 w4):=Zpe ⟨s,m,h4.less (by rw[Nat.sub_zero];exact hk),L.Step.refl hi,⟨by have:=hi.len;omega,fun x=>by rw[hi.sem0];rfl⟩,cJ,rz⟩;replace aO:=Zpe aO;replace kH:=Zpe kH;clear q4 h3 c4 lk k0 rK h4 cJ dG rz;go_wp2_with fail
 go_loopw [15,84] (fun ov iv wr=>∃j out:Nat,j≤nd.el.length∧ov= .int .i64 (out:Nat)∧iv= .int .i64 (j:Nat)∧Hid (LpG t sb X w0 xv gt ct gb pc pn f l yes (k'+(nd.el.length - j)*ce) s W (nd.el.take j) ge cs out wr)) (fun _ iv _=>nd.el.length - (intOf iv).toNat)
 case atStart=>exact⟨0,0,Nat.zero_le _,rfl,rfl,iB⟩
 case round =>
  clear iB;obtain⟨j,out,hj,rfl,rfl,hI⟩:=hrel;obtain⟨so,mo,hG,oV,rR,jJ,bm⟩:=hI.out;clear hI
  by_cases aE:j<nd.el.length
  ·have dlt:decide ((j:Int)<(nd.el.length:Int))=true:=Zpv (by omega)
   have q0:(0:Int)≤j:=by omega
   have q1:(j:Int)<nd.el.length:=by omega
   obtain⟨e1,e2⟩:=aO.out j aE;have x1:wr.cell? ⟨ge,j*2,none⟩=some (.int .i64 (nd.el[j].1:Nat)):=by simp[World.cell?,bm,e1]
   have x2:wr.cell? ⟨ge,j*2+1,none⟩=some (.int .i64 (nd.el[j].2:Nat)):=by simp[World.cell?,bm,e2]
   have fV:nd.el[j]∈nd.el:=Zpz aE;have fH:=Zpe (List.take_succ_eq_append_getElem aE);have hdp:=Zpe (hd.out nd.el[j] fV);have bz:(nd.el.length - j)*ce=(nd.el.length - (j+1))*ce+ce:=by rw[show nd.el.length - j=(nd.el.length - (j+1))+1 by omega,Nat.succ_mul]
   generalize nd.el[j]=p at *;obtain⟨p1,p2⟩:=p;simp only at x1 x2;obtain⟨kr,uL⟩:∃kr,kr=k'+(nd.el.length - (j+1))*ce:=⟨_,rfl⟩;have vT:GI t sb X w0 xv gt ct gb pc pn f l yes (kr+ce) so mo wr:=hG.less (by rw[uL,bz];omega);replace uL:=Zpe uL;clear hG bz;have aj:Below wr.heap.size wr (wr.alloc (.cells #[.int .i64 (p1:Nat),.int .i64 (p2:Nat)] 165)):=(Zpr _ _).alloc (ZpD _) _;have hG5:=vT.below aj;have h5:=Zpm wr (.cells #[.int .i64 (p1:Nat),.int .i64 (p2:Nat)] 165);have qL:=(aj.block _ (Zpi bm).1).trans bm;have jE:=jJ.trans (Zaz.of_below aj);obtain⟨⟨l1,d1⟩,l2,d2⟩:=hdp.out;have hio:=vT.sl.inv;have cM:L.sem so.nodes p1=L.sem s.nodes p1:=oV.sem hi l1;have bT:L.sem so.nodes p2=L.sem s.nodes p2:=oV.sem hi l2;have yQ:=tW.out p1 (kr+ce) (kr+c2+(L.ca (L.nv t P)+L.co (L.nv t P))) so mo _ hG5 (Zpq l1 oV.len) (by rw[cM];exact d1) (by rw[kH.out];omega);rw[cM]at yQ;replace cM:=Zpe cM;replace bT:=Zpe bT;clear e1 e2 bm vT jJ;go_wp2_with fail;generalize tA:wr.heap.size=q at *;generalize wr.alloc (.cells #[.int .i64 (p1:Nat),.int .i64 (p2:Nat)] 165)=w5 at *;replace tA:=Zpe tA;clear x1 x2 aj;refine yQ.mono ?_;rintro e w6 ⟨r1,s1,m1,rfl,i6,cE,hV6,iH⟩;have h6:=iH.get h5 (by decide) (by decide);have k2:w6.cell? ⟨q,1,none⟩=some (.int .i64 (p2:Nat)):=by simp[World.cell?,h6]
   have he6:=iH.get qL (by decide) (by decide);have oW:=oV.trans cE;have ml:L.sem s1.nodes p2=L.sem s.nodes p2:=oW.sem hi l2;have yR:=tX.out p2 _ (kr+(L.ca (L.nv t P)+L.co (L.nv t P))) s1 m1 _ i6 (Zpq l2 oW.len) (by rw[ml];exact d2) (by omega);rw[ml]at yR;replace ml:=Zpe ml;have rS:=rR.step hio cE;have n9:=jE.trans iH;have hi6:=i6.sl.inv;clear yQ h5 qL hG5 iH jE;replace i6:=Zpe i6;go_wp2_with fail;refine yR.mono ?_;rintro e w7 ⟨r2,s2,m2,rfl,oL,dh,hV7,pQ⟩;have he7:=pQ.get he6 (by decide) (by decide);have vr:=oW.trans dh;have rQ:=hV6.step hi6 dh;have rT:=rS.step hi6 dh;have nc:=n9.trans pQ;have hi7:=oL.sl.inv;have k3:w7.cell? ⟨xv,0,none⟩=some (.pointer (some ⟨sb,0,none⟩)):=by simp[World.cell?,oL.vw.box]
   have qa:=(oL.sl.less (m:=kr+L.co (L.nv t P)+L.ca (L.nv t P)) (by omega)).andP hP (ZpD _) rQ hV7 (L.giv_dep (d1.mono vN)) (L.giv_dep (d2.mono vO));replace oL:=Zpe oL;clear yR k2 h6 he6 i6 pQ n9 hV6 rS;go_wp2_with fail;refine qa.mono ?_;rintro e w8 ⟨r3,s3,rfl,tj,oU,hV8,hx8,pR⟩;have rE:=(oL.out).op hX tj oU hx8;have he8:=pR.get he7 (by decide) (by decide);have vt:=vr.trans oU;have rU:=rT.step hi7 oU;have ng:=nc.trans pR;have hi8:=tj.inv;have k4:w8.cell? ⟨xv,0,none⟩=some (.pointer (some ⟨sb,0,none⟩)):=by simp[World.cell?,rE.vw.box]
   have hdo:L.Dep (L.Bel t P) (elG s (l.natAbs:Int) (decide (0<l)) (nd.el.take j)):=Znp fun p hp=>by
    obtain⟨⟨_,a1⟩,_,a2⟩:=hd.out p (List.mem_of_mem_take hp);exact⟨a1.mono vN,a2.mono vO⟩
   have cQ:L.Dep (L.Bel t P) (fun x=>L.giv (L.sem s.nodes p1) (l.natAbs:Int) (decide (0<l)) x && L.giv (L.sem s.nodes p2) (l.natAbs:Int) (decide (0<l)) x):=fun x y dH=>by
    show (_ && _)=(_ && _)
    rw[L.giv_dep (d1.mono vN) x y dH,L.giv_dep (d2.mono vO) x y dH]
   have qo:=(tj.less (m:=kr+L.co (L.nv t P)) (ZpD _)).orP hP (ZpD _) rU hV8 hdo cQ;replace rE:=Zpe rE;clear qa k3 he7 oL pR nc rQ hV7 rT tj hdo cQ;go_wp2_with fail;refine qo.mono ?_;rintro e w9 ⟨r4,s4,rfl,hL9,cP,hV9,hx9,jp⟩
   have aM:Hid (LpG t sb X w0 xv gt ct gb pc pn f l yes (k'+(nd.el.length - (j+1))*ce) s W (nd.el.take (j+1)) ge cs r4 w9):=Zpe (by
    rw[←uL.out,fH.out];exact⟨s4,m2,rE.out.op hX hL9 cP hx9,vt.trans cP,hV9.congr fun x=>Zmc s (l.natAbs:Int) (decide (0<l)) (nd.el.take j) (p1,p2) x,ng.trans jp,jp.get he8 (by decide) (by decide)⟩)
   clear qo k4 he8 rE jp ng hV8 rU hL9 hV9 hx9 cP;go_wp2_with fail;exact⟨⟨j+1,r4,by omega,rfl,rfl,aM⟩,by simp[intOf];omega⟩
  ·have dlt:decide ((j:Int)<(nd.el.length:Int))=false:=Zpu (by omega)
   obtain rfl:j=nd.el.length:=by omega
   rw[List.take_length]at rR;have hGk:=hG.less (k':=k') (by omega);have hio:=hG.sl.inv;have wJ:L.sem so.nodes a=L.sem s.nodes a:=oV.sem hi ha;have k4:wr.cell? ⟨xv,4,none⟩=some (.map (some pn)):=by simp[World.cell?,hG.vw.box]
   obtain⟨dY,vU,jp⟩:=hGk.put a out (Zpq ha oV.len) (by rw[wJ,he.out];exact rR);have pP:=jJ.trans jp;have wD:Val so out (L.giv (L.sem s.nodes a) (l.natAbs:Int) (decide (0<l))):=by rw[he.out];exact rR
   replace wJ:=Zpe wJ;replace vU:=Zpe vU;replace wD:=Zpe wD;replace pP:=Zpe pP;clear hG hGk rR jJ jp bm;go_wp2_with fail;go_ret2;exact⟨out,so,_,rfl,vU.out,oV,wD.out,pP.out⟩
end
section
variable {t:List VN}{sb k k':Nat}{X:List Nat}{s:St}{w0:World}{xv gt ct gb pc pn yes:Nat}{f:Nat→Zak}{l:Int}{W:World}{m:List (Nat × Nat)}
theorem Znh{a b:Nat}(h:a≤b):L.cg a≤L.cg b:=by unfold L.cg;split <;> split <;> (try split) <;> (try split) <;> omega
theorem ZkJ(hX:xv∈X∧gt∈X∧gb∈X)(hv:1≤(l.natAbs:Int)∧(l.natAbs:Int)≤128):∀(P:Nat),P<t.length→∀(a k k':Nat) (s:St) (m:List (Nat × Nat)) (W:World),GI t sb X w0 xv gt ct gb pc pn f l yes k s m W→a<s.nodes.length→L.Dep (L.Bel t P) (L.sem s.nodes a)→k'+L.cg (L.nv t P)≤k →
  Calls Tryz.prog 102 #[.pointer (some ⟨xv,0,none⟩),.int .i64 (a:Nat),.int .i64 (yes:Nat),.int .i64 (l.natAbs:Nat)] W (ZmQ t sb X w0 xv gt ct gb pc pn f l yes k' s W (L.giv (L.sem s.nodes a) (l.natAbs:Int) (decide (0<l)))):=by
 intro P
 induction P using Nat.strongRecOn with
 | ind P ih =>
   intro tl a k k' s m W h ha hd hk;have hi:=h.sl.inv;have hc:=h.sl.chk;have eV:=h.sl.tree;have aY:=h.sl.few;have h':GI t sb X w0 xv gt ct gb pc pn f l yes k' s m W:=h.less (by omega);rcases hi.kind ha with rfl|rfl|⟨h2,nd,hn,cy⟩
   ·exact ZeQ h' hi.zero (by show (-1:Int)<0;omega) (fun x=>by unfold L.giv;rw[hi.sem0,hi.sem0])
   ·exact ZeQ h' hi.one (by show (-1:Int)<0;omega) (fun x=>by unfold L.giv;rw[hi.sem1,hi.sem1])
   obtain⟨Q,bv,hQ,hu⟩:=hi.at_und h2 hn (Q:=P) (by rw[eV];exact hd);obtain⟨Q',mf,_,ru⟩:=hi.place h2 hn;have:Q'=Q:=by omega
   subst this;rw[eV]at hQ hu ru;have qF:=hu.le hc;have iT:=hu.nv_le hc
   by_cases bD:L.Bel t Q' (l.natAbs:Int)
   ·cases hm:asc m a with
    | some r=>exact ZkL h' hn bv hQ hv bD hm
    | none =>
      rcases cy with hl|cy
      ·obtain⟨u,y,l1,l2,l3,l4⟩:=hl.leaf
       have:u=Q':=by omega
       subst this;rw[eV]at l2;have fI:(l.natAbs:Int)=(nd.lit.natAbs:Int):=by rw[←l4];exact(L.Bel.leaf hc l2 l3 _).1 bD
       have dq:L.sem s.nodes a=fun x=>x (l.natAbs:Int) ==decide (0<nd.lit):=funext fun x=>by rw[hi.semLit hn hl,fI]
       have sI:∀x,L.giv (L.sem s.nodes a) (l.natAbs:Int) (decide (0<l)) x=(decide (0<l) ==decide (0<nd.lit)):=fun x=>by
        rw[dq];unfold L.giv L.upd;simp
       refine ZkM h' hn bv hQ hv bD hm hl.el rfl ?_
       by_cases hay:a=yes
       ·rw[if_pos hay]
        refine⟨by have:=hi.len;omega,fun x=>?_⟩;rw[hi.sem1,sI];have h1:=h.yes.sem (fun _=>true);rw[←hay,dq]at h1;unfold ZfK at h1
        revert h1
        cases decide (0<nd.lit) <;> cases decide (0<l) <;> simp
       ·rw[if_neg hay]
        refine⟨by have:=hi.len;omega,fun x=>?_⟩;rw[hi.sem0,sI]
        by_cases hs:decide (0<l)=decide (0<nd.lit)
        ·refine absurd (hi.canon ha h.yes.lt (funext fun x=>?_)) hay
         rw[dq,h.yes.sem];unfold ZfK;rw[hs]
        ·revert hs
         cases decide (0<nd.lit) <;> cases decide (0<l) <;> simp
      ·obtain⟨P2,y,lf,rt,g1,g2,g3,g4,g5,g6,g7,g8,g9,g10⟩:=hi.facts hn cy
       have:P2=Q':=by omega
       subst this;rw[eV]at g2 g6;obtain⟨l',r',e1,e2,b1,b2,_⟩:=L.inner_ok hc g2 g3;have el:l'=lf:=by omega
       have er:r'=rt:=by omega
       subst el;subst er;have nS:=fun x=>L.Bel.kids hc g2 g3 g4 g5 x
       have iS:=L.nv_pos hc l' (by omega);have eo:=L.nv_pos hc r' (by omega);have hni:=L.nv_inner hc g2 g3 g4 g5;have sX:=L.nv_le hc hQ;have gk:=L.cg_cost iS eo (by omega) (g6.len_l hc (by omega)) (g6.len_r hc (by omega) g7);rw[←hni]at gk;have wZ:=Znh iT
       refine ZkK h hX hn bv hQ hv bD hm (c1:=L.cg (L.nv t l')) (c2:=L.cg (L.nv t r')) (D1:=L.Bel t l') (D2:=L.Bel t r') (fun v fo=>(nS v).2 (.inl fo)) (fun v fo=>(nS v).2 (.inr fo))
        (fun p hp=>?_) (fun e=>by have:=g6.two;rw[e]at this;simp at this) (by omega) ?_ (fun b k1 k2 s1 m1 V hG hb cQ ot=>ih l' (by omega) (by omega) b k1 k2 s1 m1 V hG hb cQ ot) (fun b k1 k2 s1 m1 V hG hb cQ ot=>ih r' (by omega) (by omega) b k1 k2 s1 m1 V hG hb cQ ot)
       ·obtain⟨k1,k2⟩:=cy.kids p hp
        exact⟨⟨by omega,g6.pdep p hp⟩,by omega,g6.sdep p hp⟩
       ·funext x
        unfold L.giv elG;rw[hi.semDec hn cy]
        rfl
   ·exact ZkN h' hn bv hQ hv bD (fun x=>L.giv_none ru bD x)
end
theorem ZoM(n:Nat):L.cg n≤3920:=by unfold L.cg;split <;> (try split) <;> omega
theorem ZgE{t:List VN}{sb k k':Nat}{X:List Nat}{s:St}{w0 w:World}(h:SL t sb k X s w0 w){a:Nat}{φ:L.Asg→Bool}(ha:Val s a φ){l:Int}(hl:Zbm t (l.natAbs:Int))(hk:k'+3920≤k) :
  Calls Tryz.prog 34 #[.pointer (some ⟨sb,0,none⟩),.int .i64 (a:Nat),.int .i64 l] w (Zft t sb k' [] s w0 w (L.giv φ (l.natAbs:Int) (decide (0<l)))):=by
 have hc:=h.chk;have pw:=(Zar hc).1;have hr:=hl.range;have ik:L.Dep (L.Bel t (t.length - 1)) (L.sem s.nodes a):=by have:=Zbd h.inv ha.lt;rw[h.tree]at this;exact this
 have hφ:L.sem s.nodes a=φ:=funext ha.sem;have hcg:=ZoM (L.nv t (t.length - 1));have q1:=ZiM h ha.lt;have dZ:ZcR<w.heap.size∧gTz<w.heap.size:=by obtain⟨B,_,hR,_⟩:=h.on;exact⟨hR.pow.lt,hR.tz.lt'⟩
 have mx:max l (wrap64 (-l))=((l.natAbs:Nat):Int):=by unfold wrap64;omega
 replace hl:=Zpe hl;replace hr:=Zpe hr
 go_enter Tryz.func34,Tryz.ntmps34
 go_wp2_with fail;refine q1.mono ?_;rintro e w2 ⟨xv,gt,ct,gb,pc,pn,f,rfl,aZ,mJ,_,ec,⟨n1,n2,n3⟩,hy,aP⟩;have q2:=aZ.lit hl.out;have ud:=aZ.bel.size;replace aZ:=Zpe aZ;replace mJ:=Zpe mJ;replace ec:=Zpe ec;replace hy:=Zpe hy;clear q1;go_wp2_with fail;refine q2.mono ?_;rintro e w3 ⟨yes,s3,rfl,bd,eD,cD,aR,dG⟩;have jS:=hy.out pn (by simp)
 have hGI:GI t sb (xv :: gt :: gb :: pc :: pn :: X) w0 xv gt ct gb pc pn f l yes k s3 [] w3 :=
  ⟨bd,mJ.out.same (aR xv (by simp)) (aR gt (by simp)) (aR gb (by simp)),ec.out.same (aR pn (by simp)),(fun i j cN=>by cases cN),cD,⟨by simp,by have:=h.bel.size;omega,by omega,by omega⟩⟩
 have wI:Val s3 a φ:=ha.step h.inv eD;have q3:=ZkJ (X:=xv :: gt :: gb :: pc :: pn :: X) ⟨by simp,by simp,by simp⟩ hr.out (t.length - 1) (by omega) a k k' s3 [] w3 hGI wI.lt (by rw[show L.sem s3.nodes a=L.sem s.nodes a by rw[funext wI.sem,hφ]];exact ik) (by omega);rw[show L.sem s3.nodes a=φ from funext wI.sem]at q3;clear q2;replace bd:=Zpe bd;go_wp2_with fail;refine q3.mono ?_;rintro e w4 ⟨r,s4,m4,rfl,ek,fY,eK,cJ⟩;go_wp2_with fail;go_ret2;exact⟨r,s4,rfl,ek.sl.fewer (by simp),eD.trans fY,eK,(fun x hx=>by cases hx),((Zaz.of_below aP).trans dG).trans cJ⟩
theorem ZdO{fm sb r0 cap:Nat}{ba:Option Addr}{l:List Nat}{w:World}(I:Nat→Nat→World→Prop)(hl:l.length≤1048576)
  (ti:∀(c:Array Value) (w:World),(callFunc fm c).run Tryz.prog w= .ok (.enter fm c) w) (h0:I 0 r0 w)
  (aJ:∀j r W,I j r W→∀(hj:j<l.length),∃b o,ba=some ⟨b,o,none⟩∧W.cell? ⟨b,o+j,none⟩=some (.int .i64 (l[j]:Nat)))
  (dr:∀j r W (hj:j<l.length),I j r W→Calls Tryz.prog fm #[.pointer (some ⟨sb,0,none⟩),.int .i64 (r:Nat),.int .i64 (l[j]:Nat)] W fun e W'=>∃r':Nat,e= .returned (.tuple #[.int .i64 (r':Nat),.int .i64 0])∧I (j+1) r' W') :
  Calls Tryz.prog 152 #[.slice ba l.length cap,.func (.func fm) #[.pointer (some ⟨sb,0,none⟩)] #[],.int .i64 (r0:Nat)] w fun e W'=>∃r:Nat,e= .returned (.tuple #[.int .i64 (r:Nat),.int .i64 0])∧I l.length r W':=by
 replace aJ:=Zpe aJ;replace dr:=Zpe dr;replace h0:=Zpe h0
 go_enter Tryz.func152,Tryz.ntmps152
 go_wp2_with fail
 go_loopw [2,13] (fun x i wr=>∃(k r:Nat),k≤l.length∧x= .int .i64 r∧i= .int .i64 k∧I k r wr) (fun x i _=>l.length - (intOf i).toNat)
 case atStart=>exact⟨0,r0,Nat.zero_le _,rfl,rfl,h0.out⟩
 case round =>
  obtain⟨k,r,hk,rfl,rfl,hI⟩:=hrel
  by_cases aE:k<l.length
  ·obtain⟨b,o,rfl,f1⟩:=aJ.out k r wr hI aE
   have q:=dr.out k r wr aE hI;generalize l[k]=x at *;replace hI:=Zpe hI;go_wp2_with fail;refine q.mono ?_;rintro e w2 ⟨r2,rfl,i7⟩;replace i7:=Zpe i7;clear q;go_wp2_with fail;go_roundw
   case rel=>exact⟨k+1,r2,by omega,rfl,by go_num,i7.out⟩
   case measure=>simp[intOf];omega
  ·obtain rfl:k=l.length:=by omega
   replace hI:=Zpe hI;go_wp2_with fail;go_ret2;exact⟨r,rfl,hI.out⟩
theorem SL.grown{t:List VN}{sb k:Nat}{X:List Nat}{s:St}{w0 w w':World}(h:SL t sb k X s w0 w){base n:Nat}{v:Value}{xs:List Value}(ho:w.ownsRow base 3 1 v n xs)(hb:w0.heap.size≤base)(hg:w.grownBy w' v.ownBlock)(hz:ZcR<w0.heap.size∧gTz<w0.heap.size):SL t sb k X s w0 w':=by
 obtain⟨_,⟨rfl,_⟩|⟨g,cap,cur,rfl,bk,bV,_⟩⟩:=ho
 ·exact h.below ⟨hg.os,hg.tape,hg.output,hg.size,fun j hj=>hg.block j hj (by simp[Value.ownBlock])⟩
 ·obtain⟨B,h1,hR,h2,h3⟩:=h.on
  have fA:∀k,k<w.heap.size→k≠g→w'.heap[k]? =w.heap[k]?:=fun k hk aH=>hg.block k hk (fun e=>by simp[Value.ownBlock]at e;exact aH e)
  refine⟨⟨B,h1,hR.grownT bV (by decide) (by decide) (by decide) (by decide) ⟨by omega,by omega⟩ (fun k o h1 h2=>by rw[fA k (Zpi h2).1 h1,h2]),h2,fun x hx=>⟨(h3 x hx).1,Zpq (h3 x hx).2 hg.size⟩⟩,h.room,h.tree,?_⟩;exact⟨hg.os.trans h.bel.os,hg.tape.trans h.bel.tape,hg.output.trans h.bel.output,Zpp h.bel.size hg.size,fun j hj=>(fA j (Zpq hj h.bel.size) (by omega)).trans (h.bel.block j hj)⟩
theorem Zby{w w':World}{base n:Nat}{v:Value}{xs:List Value}(h:w.ownsRow base 3 1 v n xs)(hS:Zaz w w'):w'.ownsRow base 3 1 v n xs:=by
 obtain⟨a,h|⟨g,cap,cur,rfl,bk,bV,hr⟩⟩:=h
 ·exact⟨a,.inl h⟩
 ·exact⟨a,.inr ⟨g,cap,cur,rfl,bk,hS.get bV (by decide) (by decide),hr⟩⟩
theorem ZnM{w:World}{base:Nat}{v:Value}{l:List Nat}(h:w.ownsRow base 3 1 v l.length (l.map Zab)):∃ba cap,v= .slice ba l.length cap∧∀W,Zaz w W→∀j (hj:j<l.length),∃b o,ba=some ⟨b,o,none⟩∧W.cell? ⟨b,o+j,none⟩=some (.int .i64 (l[j]:Nat)):=by
 obtain⟨_,⟨rfl,e⟩|⟨g,cap,cur,rfl,bk,bV,hn,hm,aO,ht⟩⟩:=h
 ·have:l=[]:=List.length_eq_zero_iff.1 e
  subst this;exact⟨none,0,rfl,fun W _ j hj=>by simp at hj⟩
 ·refine⟨_,cap,rfl,fun W hS j hj=>⟨g,0,rfl,?_⟩⟩
  have h1:(l.map Zab)[j]? =some (Zab l[j]):=by rw[List.getElem?_map,Zpl hj];rfl
  rw[←ht,List.getElem?_take]at h1
  split at h1
  ·have h2:cur[j]? =some (Zab l[j]):=by simpa using h1
   simp[World.cell?,hS.get bV (by decide) (by decide),h2,Zab]
  ·simp at h1
theorem Zih{w w' wb:World}{base n:Nat}{v:Value}{xs:List Value}(h:Zaz wb w)(ho:w.ownsRow base 3 1 v n xs)(hb:wb.heap.size≤base)(hg:w.grownBy w' v.ownBlock):Zaz wb w' :=
 ⟨Zpp h.1 hg.size,fun k c ty f hk h1 h2=>by
   have h3:=h.2 k c ty f hk h1 h2;have qP:=(Zpi hk).1;exact(hg.block k (Zpi h3).1 (fun e=>by have:=Zbc ho e.symm;omega)).trans h3⟩
def ClI (t:List VN)(sb k:Nat)(s:St)(w0 w:World)(c:List Int)(j:Nat)(v:Value)(W:World):Prop :=
 ∃(s':St) (xs:List Nat),SL t sb k [] s' w0 W∧L.Step s s'∧Zaz w W∧W.ownsRow w.heap.size 3 1 v j (xs.map Zab)∧xs.length=j∧∀i (h1:i<xs.length) (h2:i<c.length),Val s' xs[i] (ZfK c[i])
theorem Zjj{t:List VN}{sb k k':Nat}{s:St}{w0 w:World}(h:SL t sb k [] s w0 w)(hz:ZcR<w0.heap.size∧gTz<w0.heap.size)(kV:Val s 0 fun _=>false){v:Value}{c:List Int}(hv:SlI w0 v c)(hl:∀l∈c,Zbm t (l.natAbs:Int))(aL:c.length≤128)(hk:k'+71*c.length≤k) :
  Calls Tryz.prog 81 #[.pointer (some ⟨sb,0,none⟩),v] w (Zft t sb k' [] s w0 w (L.clφ c)):=by
 have bI:=hv.ext h.bel;obtain⟨bb,cc,rfl,f2⟩:=hv
 have f3:∀j (hj:j<c.length),∃b o,bb=some ⟨b,o,none⟩∧w0.cell? ⟨b,o+j,none⟩=some (.int .i64 c[j]):=fun j hj=>by
  rcases f2 with ⟨_,rfl,_⟩|⟨b,o,h1,h2⟩
  ·simp at hj
  ·exact⟨b,o,h1,h2 j hj⟩
 have l7:Hid (ClI t sb k s w0 w c 0 (.slice none 0 0) w):=Zpe ⟨s,[],h,L.Step.refl h.inv,Zaz.refl _,⟨rfl,.inl ⟨rfl,rfl⟩⟩,rfl,fun i h1=>by simp at h1⟩;have lq:∀(fn:Fn) (first cap:Array Value) (w:World),(Instr.makeFunc fn first cap).run Tryz.prog w= .ok (.func fn first cap) w:=fun _ _ _ _=>rfl
 have kB:∀(c:Array Value) (w:World),(callFunc 41 c).run Tryz.prog w= .ok (.enter 41 c) w:=fun c w=>by simp[go_sem,Tryz.func41]
 obtain⟨i0,cX,bB,ak,bE⟩:=info_parts ZcS;replace f3:=Zpe f3;replace hl:=Zpe hl;replace h:=Zpe h;clear f2 bI
 go_enter Tryz.func81,Tryz.ntmps81
 go_wp2_with fail
 go_loopw [6,13] (fun x i wr=>∃j:Nat,j≤c.length∧i= .int .i64 j∧Hid (ClI t sb k s w0 w c j x wr)) (fun x i _=>c.length - (intOf i).toNat)
 case atStart=>exact⟨0,Nat.zero_le _,rfl,l7⟩
 case round =>
  obtain⟨j,hj,rfl,hI⟩:=hrel;clear l7;obtain⟨s',xs,hS,hs,aW,ho,js,iK⟩:=hI.out;obtain⟨ba,cap,uZ,aJ⟩:=ZnM (l:=xs) (by rw[js];exact ho);rw[js]at uZ
  by_cases aE:j<c.length
  ·obtain⟨b,o,rfl,f1⟩:=f3.out j aE
   have f1:=(hS.bel.cell (Zpk w0 _ f1)).trans f1;have q:=hS.lit (hl.out _ (Zpz aE));have pZ:∀i (h1:i<xs.length) (h2:i<c.length),Val s' xs[i] (ZfK c[i]):=iK;obtain⟨x,hx⟩:∃x,x=c[j]:=⟨_,rfl⟩;rw[←hx]at f1 q;subst uZ;replace hx:=Zpe hx;replace js:=Zpe js;replace aJ:=Zpe aJ;replace iK:=Zpe iK;replace pZ:=Zpe pZ;replace hS:=Zpe hS;replace hI:=Zpe hI;replace ho:=Zpe ho;replace aW:=Zpe aW;go_wp2_with fail;refine q.mono ?_;rintro e w2 ⟨r,s2,rfl,aZ,bT,ap,_,bU⟩;have jB:=Zby ho.out bU;clear q;replace aZ:=Zpe aZ
   go_wp2_with (at_builtin;refine wpList_append_own _ rfl _ _ 45 rfl w.heap.size 3 i0 (.int .i64 0) 1 8 Tryz.underlying45 cX bB ak bE rfl (by decide) _ _ _ rfl (jB.alloc _) ⟨w2.heap.size,0,none⟩ 1 1 [.int .i64 (r:Nat)] rfl rfl (ZaP _ _ _ _ rfl) (by simp[Value.oneCell']) (by unfold maxLen;omega) (by omega) (by have h1:=aW.out.1;have h2:=bU.1;simp;omega) ?_;intro v3 w3 cZ dS _)
   have sE:(w2.alloc (.cells #[.int .i64 (r:Nat)] 3)).grownBy w3 (Value.slice ba j cap).ownBlock:=dS;have dI:Below w2.heap.size w2 (w2.alloc (.cells #[.int .i64 (r:Nat)] 3)):=(Zpr _ _).alloc (ZpD _) _
   have ag:Hid (ClI t sb k s w0 w c (j+1) v3 w3):=Zpe ⟨s2,xs++[r],(aZ.out.below dI).grown (jB.alloc _) h.out.bel.size sE hz,hs.trans bT,Zih ((aW.out.trans bU).trans (Zaz.of_below dI)) (jB.alloc _) (ZpD _) sE,
    ZaW cZ rfl (by simp[Zab]),by simp[js.out],fun i h1 h2=>by
     by_cases cN:i<xs.length
     ·rw[List.getElem_append_left cN];exact(pZ.out i cN h2).step hS.out.inv bT
     ·have e:i=j:=by have:=js.out;simp at h1;omega
      subst e;rw[List.getElem_append_right (by omega)];simp only[List.getElem_singleton];rw[←hx.out];exact ap⟩
   exact⟨⟨j+1,by omega,rfl,ag⟩,by simp[intOf];omega⟩
  ·obtain rfl:j=c.length:=by omega
   rw[←js]at uZ;subst uZ
   have q:=ZdO (fm:=41) (sb:=sb) (r0:=0) (cap:=cap) (ba:=ba) (l:=xs) (w:=wr) (fun j r W=>∃s2,SL t sb (k'+71*(c.length - j)) [] s2 w0 W∧L.Step s' s2∧Val s2 r (L.clφ (c.take j))∧Zaz wr W) (by omega) kB
    ⟨s',hS.less (by omega),L.Step.refl hS.inv,(kV.step h.out.inv hs).congr fun x=>rfl,Zaz.refl _⟩
    (fun j r W ⟨s2,_,_,_,h4⟩ hj=>aJ W h4 j hj)
    (fun j r W hj ⟨s2,g1,g2,g3,g4⟩=>by
      have iu:j<c.length:=by omega
      refine(g1.orl (k':=k'+71*(c.length - (j+1))) (hl.out _ (Zpz iu)) (by omega) g3 ((iK j hj iu).step hS.inv g2)).mono fun e w' hh=>?_
      obtain⟨r',s3,e1,e2,e3,e4,_,e5⟩:=hh;refine⟨r',e1,s3,e2,g2.trans e3,e4.congr fun x=>?_,g4.trans e5⟩;rw[List.take_succ_eq_append_getElem iu,L.clφ_snoc]
      rfl)
   rw[show (((0:Nat):Nat):Int)=0 from rfl]at q;replace js:=Zpe js;replace hS:=Zpe hS;replace hI:=Zpe hI;replace ho:=Zpe ho;replace aW:=Zpe aW;replace aJ:=Zpe aJ;replace iK:=Zpe iK;go_wp2_with fail;refine q.mono ?_;rintro e w4 ⟨r,rfl,s4,dA,fY,eK,cJ⟩;replace dA:=Zpe dA;clear q;go_wp2_with fail;go_ret2;rw[js.out,List.take_length]at eK;exact⟨r,s4,rfl,dA.out.less (by omega),hs.trans fY,eK,(fun x hx=>by cases hx),aW.out.trans cJ⟩
end Go.Proofs.YtmnjakejhbpkoaaGreatDoor
end
