import Derived.Test.YtmnjakejhbpkoaaGreatDoorVCi6
set_option linter.unusedSimpArgs false
set_option linter.unusedVariables false
set_option maxRecDepth 100000
set_option maxHeartbeats 8000000
namespace Go.Proofs.YtmnjakejhbpkoaaGreatDoor
open Go Go.RowKit Go.Shelf
theorem ZhM{n:Int}{C:List L.Gt}{v:Value}{w:World}(hv:SlC w v C)(h1:C.length≤5000)(h2:∀g∈C,g.inp.length≤200)(ba:Option Addr)(len cap:Nat)(bJ:L.ciChk n C≠0) :
  Calls Tryz.prog 52 #[.agg #[.int .i64 n,v],.slice ba len cap] w fun e w'=>e= .returned (.tuple #[.pointer none,.int .i64 0,.int .i64 (L.ciChk n C)])∧Ext w w':=by
 have aC:=(Ext.refl w).alloc (.cells #[.int .i64 n,v] 84);have q:=Zcc (n:=n) (hv.ext aC.below) h1 h2;obtain⟨eO,c2,rfl,_⟩:=hv;have hd:(L.ciChk n C !=0)=true:=by simpa using bJ
 generalize L.ciChk n C=z at *;clear bJ
 go_enter Tryz.func52,Tryz.ntmps52
 go_wp2_with fail;refine q.mono ?_;rintro e w2 ⟨rfl,aF⟩;clear q;go_wp2_with fail;go_ret3;exact⟨rfl,aC.trans aF⟩
theorem ZeD{n:Int}{C:List L.Gt}{v:Value}{w:World}(hv:SlC w v C)(h2:∀g∈C,g.inp.length≤200){t:List VN}(ba:Option Addr)(cap:Nat)(aq:L.ciChk n C=0){E:Int}(hE:E≠0)
  (lE:∀W,Ext w W→Calls Tryz.prog 79 #[.slice ba t.length cap,.agg #[.int .u64 (lo (L.ciVars C)),.int .u64 (hi (L.ciVars C))]] W fun e w'=>e= .returned (.tuple #[.pointer none,.int .i64 E])∧Below W.heap.size W w') :
  Calls Tryz.prog 52 #[.agg #[.int .i64 n,v],.slice ba t.length cap] w fun e w'=>e= .returned (.tuple #[.pointer none,.int .i64 0,.int .i64 E])∧Below w.heap.size w w':=by
 have h1:=(L.ciChk_ok.1 aq).2.1;have aC:=(Ext.refl w).alloc (.cells #[.int .i64 n,v] 84);have aX:=Zpm w (.cells #[.int .i64 n,v] 84);have q:=Zcc (n:=n) (hv.ext aC.below) (by omega) h2;rw[aq]at q;have hd:(E !=0)=true:=by simpa using hE
 obtain⟨w1,aD⟩:∃w1,w1=w.alloc (.cells #[.int .i64 n,v] 84):=⟨_,rfl⟩;rw[←aD]at aC aX q;have c0:w1.cell? ⟨w.heap.size,0,none⟩=some (.int .i64 n):=by simp[World.cell?,aX]
 have c1:w1.cell? ⟨w.heap.size,1,none⟩=some v:=by simp[World.cell?,aX]
 have pX:=Zpe hv;obtain⟨eO,c2,rfl,_⟩:=hv;replace aq:=Zpe aq;replace h1:=Zpe h1;clear hE aX;replace lE:=Zpe lE;replace h2:=Zpe h2
 go_enter Tryz.func52,Tryz.ntmps52
 go_wp2_with fail;rw[←aD];replace aD:=Zpe aD;refine q.mono ?_;rintro e w2 ⟨rfl,aF⟩;have bK:=aC.trans aF;have qv:=Zfz (n:=n) (pX.out.ext bK.below) h2.out aq.out;have d0:=aF.cell c0;have d1:=aF.cell c1;unfold ZaT at qv;replace aC:=Zpe aC;replace aF:=Zpe aF;clear q c0 c1;go_wp2_with fail;refine qv.mono ?_;rintro e w3 ⟨rfl,aR⟩;have q3:=lE.out w3 (bK.trans aR);clear qv;go_wp2_with fail;refine q3.mono ?_;rintro e w4 ⟨rfl,bF⟩;clear q3;go_wp2_with fail;go_ret3;exact⟨rfl,(bK.trans aR).below.trans (bF.mono (bK.trans aR).below.size)⟩
theorem SL.set{t:List VN}{sb k:Nat}{X:List Nat}{s:St}{w0 w:World}(h:SL t sb k X s w0 w){g:Nat}{cur:Array Value}(hg:w.heap[g]? =some (.cells cur 3 (0,0)))(hb:w0.heap.size≤g)(hz:ZcR<w0.heap.size∧gTz<w0.heap.size)(i:Nat)(v:Value):SL t sb k X s w0 (w.setCell ⟨g,i,none⟩ v):=by
 obtain⟨B,h1,hR,h2,h3⟩:=h.on;have fA:∀k,k≠g→(w.setCell ⟨g,i,none⟩ v).heap[k]? =w.heap[k]?:=fun k aH=>Below.heap_setCell _ _ _ _ aH
 have bD:=h.bel.setCell (p:=⟨g,i,none⟩) hb v;refine⟨⟨B,h1,hR.grownT hg (by decide) (by decide) (by decide) (by decide) ⟨by omega,by omega⟩ (fun k o h1 h2=>by rw[fA k h1,h2]),h2,fun x hx=>⟨(h3 x hx).1,by simpa using (h3 x hx).2⟩⟩,h.room,h.tree,bD⟩
def CiI (t:List VN)(sb gf:Nat)(C:List L.Gt)(w:World)(k:Nat)(W:World):Prop :=
 ∃(s':St) (F:Nat→Nat),SL t sb (300+(C.length - k)*4800) [] s' w W∧L.Step (Za3 t) s'∧ZbK W gf 3 C.length (fun j=>Zab (F j))∧∀j,j<k→Val s' (F j) (L.gφ C j)
theorem ZgQ{n:Int}{i:Nat}{g:L.Gt}(h:L.gOk n i g=true):L.gAllow g.kind g.inp.length=true∧∀z∈g.inp,0≤z∧z<(i:Int):=by
 unfold L.gOk at h;simp only[Zpx,List.all_eq_true,ZpA]at h;exact⟨h.1,h.2.2⟩
theorem Zji{n:Int}{C:List L.Gt}{v:Value}{w:World}(hv:SlC w v C)(b o cap:Nat)(aq:L.ciChk n C=0)(vI:C.length≤60)(bg:∀g∈C,g.inp.length≤12){t:List VN}(eV:Zam w b o t)(hc:Zad t=0)(aY:t.length≤11)(bz:∀u,Zau (L.ciVars C) u=true→Zbm t u)(hT:ZaX w)(hP:Za7 w) :
  Calls Tryz.prog 52 #[.agg #[.int .i64 n,v],.slice (some ⟨b,o,none⟩) t.length cap] w fun e w'=>∃(sb root:Nat) (s:St),e= .returned (.tuple #[.pointer (some ⟨sb,0,none⟩),.int .i64 (root:Nat),.int .i64 0])∧SL t sb 300 [] s w w'∧Val s root (L.ciφ C)∧Below w.heap.size w w':=by
 obtain⟨⟨cO,pE⟩,_,_,aH,aN⟩:=L.ciChk_ok.1 aq;have aC:=(Ext.refl w).alloc (.cells #[.int .i64 n,v] 84);have aX:=Zpm w (.cells #[.int .i64 n,v] 84);have fq:∀g∈C,g.inp.length≤200:=fun g hg=>Zpp (bg g hg) (by decide)
 have q:=Zcc (n:=n) (hv.ext aC.below) (by omega) fq;rw[aq]at q;have hz:ZcR<w.heap.size∧gTz<w.heap.size:=⟨hP.lt,hT.lt'⟩
 have jQ:∀j (hj:j<C.length),C[j].kind=2→Zbm t (C[j].lit.natAbs:Int):=fun j hj hk=>by
  have h1:=L.validB_range pE (ZeP (aN j hj) hk);exact bz _ ((L.hasS_ciVars C _).2 ⟨_,Zpz hj,hk,rfl,h1.1,h1.2.2⟩)
 have dD:=fun (m:Nat) (hm:m≤60) W=>Zbr (by_:=8) Tryz.underlying45 ZcS rfl m (by omega) (by omega) W
 obtain⟨w1,aD⟩:∃w1,w1=w.alloc (.cells #[.int .i64 n,v] 84):=⟨_,rfl⟩;rw[←aD]at aC aX q;have c0:w1.cell? ⟨w.heap.size,0,none⟩=some (.int .i64 n):=by simp[World.cell?,aX]
 have c1:w1.cell? ⟨w.heap.size,1,none⟩=some v:=by simp[World.cell?,aX]
 have pX:=Zpe hv;obtain⟨eO,c2,rfl,aO⟩:=hv.shape;obtain⟨N,hN⟩:∃N,C.length=N+1:=⟨C.length - 1,by have:=List.length_pos_iff.2 aH;omega⟩;have p7:IntKind.i64.wrap ((C.length:Int) - 1)=(N:Int):=by rw[IntWalk.i64_in _ (by omega)];omega
 have hNz:(0:Int)≤(N:Int):=by omega
 have oN:(N:Int)<(C.length:Int):=by omega
 have xS:=dD C.length vI;replace hN:=Zpe hN;replace dD:=Zpe dD;replace aO:=Zpe aO;replace aq:=Zpe aq;replace hc:=Zpe hc;replace hT:=Zpe hT;replace hP:=Zpe hP;replace jQ:=Zpe jQ;replace bg:=Zpe bg;replace fq:=Zpe fq;replace bz:=Zpe bz;replace eV:=Zpe eV;replace aN:=Zpe aN;replace aH:=Zpe aH;clear aX
 go_enter Tryz.func52,Tryz.ntmps52
 go_wp2_with fail;rw[←aD];replace aD:=Zpe aD;refine q.mono ?_;rintro e w2 ⟨rfl,aF⟩;have bK:=aC.trans aF;have qv:=Zfz (n:=n) (pX.out.ext bK.below) fq.out aq.out;have d0:=aF.cell c0;have d1:=aF.cell c1;unfold ZaT at qv;replace aC:=Zpe aC;replace aF:=Zpe aF;clear q c0 c1;go_wp2_with fail;refine qv.mono ?_;rintro e w3 ⟨rfl,aR⟩;have eM:=bK.trans aR;have q3:=Zlh (w0:=w) w3 b o cap (L.ciVars C) (eV.out.ext eM) hc.out bz.out eM.below (hT.out.ext eM) (hP.out.below eM.below) aY;have e1:=aR.cell d1;replace aR:=Zpe aR;replace eM:=Zpe eM;replace bK:=Zpe bK;clear qv d0 d1;go_wp2_with fail;refine q3.mono ?_;rintro e w4 ⟨sb,rfl,dA,v0,v1,bF⟩;have f1:=(bF.cell (Zpk _ _ e1)).trans e1;replace v0:=Zpe v0;replace v1:=Zpe v1;clear q3 e1;have dI:Below w4.heap.size w4 (w4.alloc (.cells (madeCells #[.int .i64 0] C.length) 3)):=(Zpr _ _).alloc (ZpD _) _;have hRf:ZbK (w4.alloc (.cells (madeCells #[.int .i64 0] C.length) 3)) w4.heap.size 3 C.length (fun j=>Zab 0):=Zhf w4 C.length (.int .i64 0) 3 w4.heap.size rfl;have l7:Hid (CiI t sb w4.heap.size C w 0 (w4.alloc (.cells (madeCells #[.int .i64 0] C.length) 3))):=Zpe ⟨Za3 t,fun _=>0,(dA.below dI).less (by omega),L.Step.refl dA.inv,hRf,fun j hj=>absurd hj (Nat.not_lt_zero _)⟩;have nK:w.heap.size≤w4.heap.size:=dA.bel.size;have f2:=(dI.cell (Zpk _ _ f1)).trans f1;obtain⟨gf,mR⟩:∃gf,gf=w4.heap.size:=⟨_,rfl⟩;rw[←mR]at l7 nK;obtain⟨w5,lQ⟩:∃W,W=w4.alloc (.cells (madeCells #[.int .i64 0] C.length) 3):=⟨_,rfl⟩;rw[←lQ]at l7;replace lQ:=Zpe lQ;replace dA:=Zpe dA;replace mR:=Zpe mR;clear dI hRf;go_wp2_with fail;rw[←lQ.out,←mR.out];clear f1 f2 xS
 go_loopw [4,36] (fun y i wr=>∃k:Nat,k≤C.length∧y= .pointer (some ⟨sb,0,none⟩)∧i= .int .i64 (k:Nat)∧Hid (CiI t sb gf C w k wr)) (fun y i _=>C.length - (intOf i).toNat)
 case atStart=>exact⟨0,Nat.zero_le _,rfl,rfl,l7⟩
 case round =>
  clear l7;obtain⟨k,hk,rfl,rfl,hI⟩:=hrel;obtain⟨s',F,hS,hs,hR,hV⟩:=hI.out
  by_cases aE:k<C.length
  ·obtain⟨wo,rfl⟩:∃wo,wo=wr:=⟨wr,rfl⟩
   obtain⟨b',o',bb,cc,rfl,f0,f1,f2,nQ⟩:=aO.out k aE;have g0:=(hS.bel.cell (Zpk _ _ f0)).trans f0;have g1:=(hS.bel.cell (Zpk _ _ f1)).trans f1;have g2:=(hS.bel.cell (Zpk _ _ f2)).trans f2;have hM:=bg.out _ (Zpz aE);obtain⟨eQ,bG⟩:=ZgQ (aN.out k aE);have bh:=jQ.out k aE;have hφk:=fun x=>L.gφ_eq aE x
   have fA:C[k]=⟨C[k].kind,C[k].lit,C[k].inp⟩:=rfl
   have gx:∀m (hm:m<C[k].inp.length),∃b o,bb=some ⟨b,o,none⟩∧w.cell? ⟨b,o+m,none⟩=some (.int .i64 C[k].inp[m]):=fun m hm=>by
    obtain⟨ba,cp,e,h⟩:=nQ
    cases e
    rcases h with ⟨_,h,_⟩|⟨b,o,h1,h2⟩
    ·rw[h]at hm;simp at hm
    ·exact⟨b,o,h1,h2 m hm⟩
   generalize C[k]=g at *;obtain⟨kd,lt,ip⟩:=g
   dsimp only at *
   clear fA f0 f1 f2 nQ aO;have dI:Below wo.heap.size wo (wo.alloc (.cells #[.int .i64 kd,.int .i64 lt,.slice bb ip.length cc] 166)):=(Zpr _ _).alloc (ZpD _) _;have bY:=Zpm wo (.cells #[.int .i64 kd,.int .i64 lt,.slice bb ip.length cc] 166);obtain⟨wa,eE⟩:∃wa,wa=wo.alloc (.cells #[.int .i64 kd,.int .i64 lt,.slice bb ip.length cc] 166):=⟨_,rfl⟩;rw[←eE]at dI bY;obtain⟨ga,jh⟩:∃ga,ga=wo.heap.size:=⟨_,rfl⟩;rw[←jh]at bY;have k0:wa.cell? ⟨ga,0,none⟩=some (.int .i64 kd):=by rw[World.cell?,bY];rfl
   have k1:wa.cell? ⟨ga,1,none⟩=some (.int .i64 lt):=by rw[World.cell?,bY];rfl
   have k2:wa.cell? ⟨ga,2,none⟩=some (.slice bb ip.length cc):=by rw[World.cell?,bY];rfl
   have sV:=dD.out ip.length (by omega);have rO:=hS.below dI;have qG:=hR.below dI;obtain⟨gi,mS⟩:∃gi,gi=ga+1:=⟨_,rfl⟩;have uI:gi=wa.heap.size:=by rw[mS,jh,eE];simp
   have vk:ZbK (wa.alloc (.cells (madeCells #[.int .i64 0] ip.length) 3)) gi 3 ip.length (fun j=>Zab (if j<0 then F (ip.getD j 0).toNat else 0)):=(Zhf wa ip.length (.int .i64 0) 3 gi uI).congr fun j hj=>rfl
   have r8:Below wa.heap.size wa (wa.alloc (.cells (madeCells #[.int .i64 0] ip.length) 3)):=(Zpr _ _).alloc (ZpD _) _;obtain⟨wi,u9⟩:∃wi,wi=wa.alloc (.cells (madeCells #[.int .i64 0] ip.length) 3):=⟨_,rfl⟩;rw[←u9]at vk r8;have hJ0:Hid (ZbK wi gi 3 ip.length (fun j=>Zab (if j<0 then F (ip.getD j 0).toNat else 0))∧Below wa.heap.size wa wi):=Zpe ⟨vk,r8⟩;have l2:=(r8.cell (Zpk _ _ k2)).trans k2;replace uI:=Zpe uI;replace mS:=Zpe mS;replace hS:=Zpe hS;replace hI:=Zpe hI;replace hR:=Zpe hR;replace hV:=Zpe hV;replace bY:=Zpe bY;replace rO:=Zpe rO;replace qG:=Zpe qG;replace hφk:=Zpe hφk;replace gx:=Zpe gx;replace bG:=Zpe bG;replace bh:=Zpe bh;replace eQ:=Zpe eQ;clear vk r8;go_wp2_with fail;rw[←eE,←jh];replace eE:=Zpe eE;replace jh:=Zpe jh;clear g0 g1 g2
   try go_wp2_with fail
   rw[←u9,←mS.out];replace u9:=Zpe u9;clear sV
   try go_wp2_with fail
   clear l2
   go_loopw [48] (fun i wr=>∃m:Nat,m≤ip.length∧i= .int .i64 (m:Nat)∧Hid (ZbK wr gi 3 ip.length (fun j=>Zab (if j<m then F (ip.getD j 0).toNat else 0))∧Below wa.heap.size wa wr)) (fun i _=>ip.length - (intOf i).toNat)
   case atStart=>exact⟨0,Nat.zero_le _,rfl,hJ0⟩
   case round =>
    clear hJ0;obtain⟨m,hm,rfl,hJ⟩:=hrel;obtain⟨oS,kE⟩:=hJ.out
    by_cases en:m<ip.length
    ·obtain⟨b2,o2,rfl,x0⟩:=gx.out m en
     obtain⟨q0,q1⟩:=bG.out _ (Zpz en);have gv:ip.getD m 0=ip[m]:=by rw[Zpt,Zpl en];rfl
     obtain⟨u,hu⟩:∃u:Nat,ip[m]=u:=⟨ip[m].toNat,by omega⟩;rw[hu]at x0 q0 q1;have huk:u<C.length:=by omega
     have o6:Below w.heap.size w wr:=rO.out.bel.trans (kE.mono rO.out.bel.size);have x1:=(o6.cell (Zpk _ _ x0)).trans x0;obtain⟨y0,y1⟩:=(qG.out.same (kE.block _ qG.out.lt)).cell huk;obtain⟨z0,z1⟩:=oS.cell en
     have ag:Hid (ZbK (wr.setCell ⟨gi,m,none⟩ (Zab (F u))) gi 3 ip.length (fun j=>Zab (if j<m+1 then F (ip.getD j 0).toNat else 0))∧Below wa.heap.size wa (wr.setCell ⟨gi,m,none⟩ (Zab (F u)))):=Zpe ⟨(oS.set m _).congr fun j hj=>by
      unfold Zd9
      by_cases e:j=m
      ·subst e;rw[if_pos rfl,if_pos (by omega),gv,hu];rfl
      ·rw[if_neg e]
       show Zab (if j<m then F (ip.getD j 0).toNat else 0)=Zab (if j<m+1 then F (ip.getD j 0).toNat else 0)
       by_cases e2:j<m
       ·rw[if_pos e2,if_pos (by omega)]
       ·rw[if_neg e2,if_neg (by omega)],kE.setCell (by have:=uI.out;show _≤gi;omega) _⟩
     unfold Zab at y0 ag z0;replace gv:=Zpe gv;replace hu:=Zpe hu;replace oS:=Zpe oS;replace kE:=Zpe kE;replace o6:=Zpe o6;have huk':(u:Int)<(C.length:Int):=by omega
     generalize F u=Fu at *;clear x0 hJ;go_wp2_with fail;go_roundw
     case rel=>exact⟨m+1,by omega,by go_num,by unfold Zab;exact ag⟩
     case measure=>simp[intOf];omega
    ·obtain rfl:m=ip.length:=by omega
     have vu:=rO.out.below kE;have oQ:=qG.out.same (kE.block _ qG.out.lt);have aL:ip.length=(ip.map fun z=>F z.toNat).length:=by rw[List.length_map]
     have oR:ZbK wr gi 3 (ip.map fun z=>F z.toNat).length (fun j=>Zab ((ip.map fun z=>F z.toNat).getD j 0)):=by
      rw[List.length_map];refine oS.congr fun j hj=>?_
      rw[if_pos hj]
      congr 1
      rw[Zpt,Zpt,List.getElem?_map,Zpl hj]
      rfl
     have lO:∀j (h1:j<(ip.map fun z=>F z.toNat).length) (h2:j<(ip.map fun z=>L.gφ C z.toNat).length),Val s' (ip.map fun z=>F z.toNat)[j] (ip.map fun z=>L.gφ C z.toNat)[j]:=fun j h1 h2=>by
      rw[List.getElem_map,List.getElem_map];have gT:j<ip.length:=by simpa using h1
      have:=bG.out _ (Zpz gT);exact hV.out _ (by omega)
     have q:=Zmi (lt:=lt) (ip:=ip) (bb:=bb) (M:=ip.length) (cc:=cc) (k':=300+(C.length - (k+1))*4800) vu (v0.out.step dA.out.inv hs) (v1.out.step dA.out.inv hs) (ins:=ip.map fun z=>F z.toNat) (φs:=ip.map fun z=>L.gφ C z.toNat) (by simp) (kd:=kd) (by rw[List.length_map];exact eQ.out) bh.out (by rw[List.length_map];exact hM) oR lO (by rw[List.length_map];omega);rw[←aL]at q;have m0:=(kE.cell (Zpk _ _ k0)).trans k0;have m1:=(kE.cell (Zpk _ _ k1)).trans k1;have m2:=(kE.cell (Zpk _ _ k2)).trans k2;replace aL:=Zpe aL;replace vu:=Zpe vu;replace oQ:=Zpe oQ;replace oS:=Zpe oS;replace oR:=Zpe oR;replace kE:=Zpe kE;replace lO:=Zpe lO;clear k0 k1 k2;go_wp2_with fail;refine q.mono ?_;rintro e w6 ⟨r6,s6,rfl,cE,qV,gL,_,iH⟩;have df:=oQ.out.stays iH;obtain⟨cur,jf,_⟩:=id df;obtain⟨p0,p1⟩:=df.cell aE;have dh:=cE.set jf nK hz k (.int .i64 (r6:Nat))
     have i8:ZbK (w6.setCell ⟨gf,k,none⟩ (.int .i64 (r6:Nat))) gf 3 C.length (fun j=>Zab (if j=k then r6 else F j)):=(df.set k _).congr fun j hj=>by
      unfold Zd9
      by_cases e:j=k
      ·rw[if_pos e,if_pos e];rfl
      ·rw[if_neg e,if_neg e]
     have pV:Val s6 r6 (L.gφ C k):=gL.congr fun x=>by
      rw[hφk.out x,L.gIns_eq (C:=C) (g:=⟨kd,lt,ip⟩) (Nat.le_of_lt aE) bG.out x,List.map_map]
      rfl
     have ag:Hid (CiI t sb gf C w (k+1) (w6.setCell ⟨gf,k,none⟩ (.int .i64 (r6:Nat)))):=Zpe ⟨s6,fun j=>if j=k then r6 else F j,dh,hs.trans qV,i8,fun j hj=>by
      dsimp only
      by_cases e:j=k
      ·rw[if_pos e,e];exact pV
      ·rw[if_neg e];exact(hV.out j (by omega)).step hS.out.inv qV⟩
     replace cE:=Zpe cE;replace dh:=Zpe dh;replace df:=Zpe df;replace i8:=Zpe i8;replace gL:=Zpe gL;replace pV:=Zpe pV;replace jf:=Zpe jf;unfold Zab at p0;clear q m0 m1 m2;go_wp2_with fail;exact⟨⟨k+1,by omega,rfl,rfl,ag⟩,by simp[intOf];omega⟩
  ·obtain rfl:k=C.length:=by omega
   have vd:N<C.length:=by have:=hN.out;omega
   obtain⟨p0,_⟩:=hR.cell vd;unfold Zab at p0;have yI:=hV N vd;have hφN:Hid (L.ciφ C=L.gφ C N):=Zpe (by unfold L.ciφ;rw[hN.out];rfl);have lg:=hS.below ((Zpr _ _).drew);have sj:wr.drew.cell? ⟨gf,N,none⟩=some (.int .i64 (F N:Nat)):=p0;replace hS:=Zpe hS;replace lg:=Zpe lg;replace hV:=Zpe hV;replace yI:=Zpe yI;replace hR:=Zpe hR;clear p0 vd;go_wp2_with fail;(refine wp_region_held_drew (S:=(fun V=>V.cell? ⟨gf,N,none⟩=some (.int .i64 (F N:Nat)))) (by kernel_rfl) ?_ (fun aA=>?_))
   ·exact sj
   (refine ZpE (i:=0) (v:=?_) rfl (by kernel_rfl) (fun _ _ _ h=>h) (Or.inl ⟨by rfl,?_⟩) (by assumption) ?_);rotate_left
   ·(intro w aB;(try dsimp only at aB);go_simp;first|done|with_reducible rfl)
   (try simp only[Act.put,Zpf,Zpg,Zph]);(refine ZpE (i:=1) (v:=?_) rfl (by kernel_rfl) (fun _ _ _ h=>h) (Or.inl ⟨by rfl,?_⟩) (by assumption) ?_);rotate_left
   ·(intro w aB;(try dsimp only at aB);go_simp;first|done|with_reducible rfl)
   (try simp only[Act.put,Zpf,Zpg,Zph]);(refine ZpE (i:=2) (v:=?_) rfl (by kernel_rfl) (fun _ _ _ h=>h) (Or.inl ⟨by rfl,?_⟩) (by assumption) ?_);rotate_left
   ·(intro w aB;(try dsimp only at aB);go_simp;first|done|with_reducible rfl)
   (try simp only[Act.put,Zpf,Zpg,Zph]);(refine ZpE (i:=3) (v:=?_) rfl (by kernel_rfl) (fun _ _ _ h=>h) (Or.inl ⟨by rfl,?_⟩) (by assumption) ?_);rotate_left
   ·(intro w aB;(try dsimp only at aB);go_simp;first|done|with_reducible rfl)
   (try simp only[Act.put,Zpf,Zpg,Zph]);(refine ZpE (i:=4) (v:=?_) rfl (by kernel_rfl) (fun _ _ _ h=>h) (Or.inl ⟨by rfl,?_⟩) (by assumption) ?_);rotate_left
   ·(intro w aB;(try dsimp only at aB);go_simp;first|done|with_reducible rfl)
   (try simp only[Act.put,Zpf,Zpg,Zph]);(refine ZpE (i:=5) (v:=?_) rfl (by kernel_rfl) (fun _ _ _ h=>h) (Or.inl ⟨by rfl,?_⟩) (by assumption) ?_);rotate_left
   ·(intro w aB;(try dsimp only at aB);go_simp;first|done|with_reducible rfl)
   (try simp only[Act.put,Zpf,Zpg,Zph]);(refine ZpE (i:=6) (v:=?_) rfl (by kernel_rfl) (fun _ _ _ h=>h) (Or.inl ⟨by rfl,?_⟩) (by assumption) ?_);rotate_left
   ·(intro w aB;(try dsimp only at aB);go_simp;first|done|with_reducible rfl)
   (try simp only[Act.put,Zpf,Zpg,Zph]);(refine ZpE (i:=7) (v:=?_) rfl (by kernel_rfl) (fun _ _ _ h=>h) (Or.inl ⟨by rfl,?_⟩) (by assumption) ?_);rotate_left
   ·(intro w aB;(try dsimp only at aB);go_simp;first|done|with_reducible rfl)
   (try simp only[Act.put,Zpf,Zpg,Zph]);(refine ZpE (i:=8) (v:=?_) rfl (by kernel_rfl) (fun _ _ _ h=>h) (Or.inl ⟨by rfl,?_⟩) (by assumption) ?_);rotate_left
   ·(intro w aB;(try dsimp only at aB);go_simp;first|done|with_reducible rfl)
   (try simp only[Act.put,Zpf,Zpg,Zph]);(refine ZpE (i:=9) (v:=?_) rfl (by kernel_rfl) (fun _ _ _ h=>h) (Or.inl ⟨by rfl,?_⟩) (by assumption) ?_);rotate_left
   ·(intro w aB;(try dsimp only at aB);go_simp;first|done|with_reducible rfl)
   (try simp only[Act.put,Zpf,Zpg,Zph]);(refine wpAnyH_done (by kernel_rfl) ?_ _);clear aA;go_wp2_with fail;go_ret3;exact⟨sb,F N,s',rfl,lg.out.less (by omega),by rw[hφN.out];exact yI.out,lg.out.bel⟩
end Go.Proofs.YtmnjakejhbpkoaaGreatDoor
