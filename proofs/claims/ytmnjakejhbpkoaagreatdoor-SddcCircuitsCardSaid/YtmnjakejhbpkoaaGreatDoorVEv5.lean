import Derived.Test.YtmnjakejhbpkoaaGreatDoorVCj1
set_option linter.unusedSimpArgs false
set_option linter.unusedVariables false
set_option maxRecDepth 100000
set_option maxHeartbeats 8000000
section
namespace Go.Proofs.YtmnjakejhbpkoaaGreatDoor
open Go Go.RowKit Go.Shelf
theorem Zoh{n:Int}{i:Nat}{g:L.Gt}(h:L.gAllow g.kind g.inp.length=false∨L.gLit n g=false∨∃m,∃hm:m<g.inp.length,g.inp[m] < 0∨(i:Int)≤g.inp[m]):L.gOk n i g=false:=by
 unfold L.gOk;rcases h with h|h|⟨m,hm,h⟩
 ·rw[h];rfl
 ·rw[h];simp
 ·have:(g.inp.all fun k=>decide (0≤k) && decide (k<(i:Int)))=false:=by
   rw[List.all_eq_false];exact⟨_,Zpz hm,by simp;omega⟩
  rw[this];simp
theorem Znt{n:Int}{i:Nat}{g:L.Gt}(h1:L.gAllow g.kind g.inp.length=true)(h2:L.gLit n g=true)(h3:∀m (hm:m<g.inp.length),0≤g.inp[m]∧g.inp[m] < (i:Int)):L.gOk n i g=true:=by
 unfold L.gOk;rw[h1,h2,Bool.true_and,Bool.true_and,List.all_eq_true];intro x hx;obtain⟨m,hm,rfl⟩:=List.getElem_of_mem hx;have:=h3 m hm;simp;omega
theorem Zbg{n:Int}{C:List L.Gt}{v:Value}{w:World}(hv:SlC w v C)(h1:C.length≤5000)(h2:∀g∈C,g.inp.length≤200) :
  Calls Tryz.prog 53 #[.agg #[.int .i64 n,v]] w fun e w'=>e= .returned (.int .i64 (L.ciChk n C))∧Ext w w':=by
 have aC:Ext w (w.alloc (.cells #[.int .i64 n,v] 84)):=(Ext.refl w).alloc _;have aX:=Zpm w (.cells #[.int .i64 n,v] 84);obtain⟨w1,aD⟩:∃w1,w1=w.alloc (.cells #[.int .i64 n,v] 84):=⟨_,rfl⟩;rw[←aD]at aC aX;have c0:w1.cell? ⟨w.heap.size,0,none⟩=some (.int .i64 n):=by simp[World.cell?,aX]
 have c1:w1.cell? ⟨w.heap.size,1,none⟩=some v:=by simp[World.cell?,aX]
 have bI:=hv.ext aC.below;have qs:=Zhe (n:=n) bI h1 h2;obtain⟨ba,cp,rfl,aO⟩:=bI.shape;have yC:L.ciSize C≤200*5000:=Zpp (L.ciSize_le h2) (Nat.mul_le_mul_left _ h1);replace aO:=Zpe aO;replace h2:=Zpe h2;clear aX hv bI;replace aC:=Zpe aC
 by_cases cO:n<0
 ·have d0:decide (n<0)=true:=Zpv cO
  have hr:L.ciChk n C=6:=by unfold L.ciChk;rw[if_pos (.inl cO)]
  rw[hr];clear hr cO
  go_enter Tryz.func53,Tryz.ntmps53
  go_wp2_with fail;rw[←aD];replace aD:=Zpe aD;go_wp2_with fail;go_ret;exact⟨rfl,aC.out⟩
 have d0:decide (n<0)=false:=Zpu cO
 by_cases aX:n > 128
 ·have d1:decide (n > 128)=true:=Zpv aX
  have hr:L.ciChk n C=6:=by unfold L.ciChk;rw[if_pos (.inr aX)]
  rw[hr];clear hr cO aX
  go_enter Tryz.func53,Tryz.ntmps53
  go_wp2_with fail;rw[←aD];replace aD:=Zpe aD;go_wp2_with fail;go_ret;exact⟨rfl,aC.out⟩
 have d1:decide (n > 128)=false:=Zpu aX;have eo:0≤n∧n≤128:=by omega
 by_cases hl:(C.length:Int) > 4096
 ·have d2:decide ((C.length:Int) > 4096)=true:=Zpv hl
  have hr:L.ciChk n C=2:=by unfold L.ciChk;rw[if_neg (by omega),if_pos (by omega)]
  rw[hr];clear hr cO aX hl
  go_enter Tryz.func53,Tryz.ntmps53
  go_wp2_with fail;rw[←aD];replace aD:=Zpe aD;go_wp2_with fail;go_ret;exact⟨rfl,aC.out⟩
 have d2:decide ((C.length:Int) > 4096)=false:=Zpu hl
 by_cases hs:((L.ciSize C:Nat):Int) > 65536
 ·have d3:decide (((L.ciSize C:Nat):Int) > 65536)=true:=Zpv hs
  have hr:L.ciChk n C=2:=by unfold L.ciChk;rw[if_neg (by omega),if_pos (by omega)]
  rw[hr];clear hr cO aX hl hs;generalize L.ciSize C=Z at *
  go_enter Tryz.func53,Tryz.ntmps53
  go_wp2_with fail;rw[←aD];replace aD:=Zpe aD;go_wp2_with fail;refine qs.mono ?_;rintro e w2 ⟨rfl,aF⟩;go_wp2_with fail;go_ret;exact⟨rfl,aC.out.trans aF⟩
 have d3:decide (((L.ciSize C:Nat):Int) > 65536)=false:=Zpu hs
 have dE:Hid (C=[]→L.ciChk n C=1):=Zpe fun he=>by
  have h0:¬ (4096<C.length∨65536<L.ciSize C):=by omega
  unfold L.ciChk;rw[if_neg (by omega),if_neg h0,if_pos he]
 have bQ:=fun (j:Nat) (hj:j<C.length) (hb:L.gOk n j C[j]=false)=>L.ciChk_bad eo (by omega) (by omega) hj hb
 have bf:=fun (he:C≠[]) (h:∀j (hj:j<C.length),L.gOk n j C[j]=true)=>L.ciChk_ok.2 ⟨eo,by omega,by omega,he,h⟩
 have ql:=fun l W=>Zg3 (l:=l) eo.1 eo.2 W
 replace bQ:=Zpe bQ;replace bf:=Zpe bf;replace ql:=Zpe ql;clear cO aX hs;generalize L.ciSize C=Z at *
 go_enter Tryz.func53,Tryz.ntmps53
 go_wp2_with fail;rw[←aD];replace aD:=Zpe aD;go_wp2_with fail;refine qs.mono ?_;rintro e w2 ⟨rfl,aF⟩;clear qs d0 d1 d2;go_wp2_with fail;clear d3
 go_loopw [3] (fun i wr=>∃k:Nat,k≤C.length∧i= .int .i64 k∧(∀j (hj:j<k) (cx:j<C.length),L.gOk n j C[j]=true)∧Ext w1 wr) (fun i _=>C.length - (intOf i).toNat)
 case atStart=>exact⟨0,Nat.zero_le _,rfl,(fun j hj=>by omega),aF⟩
 case round =>
  obtain⟨k,hk,rfl,gv,ax⟩:=hrel;obtain⟨wo,rfl⟩:∃wo,wo=wr:=⟨wr,rfl⟩;have b0:=ax.cell c0;have b1:=ax.cell c1;replace gv:=Zpe gv;have g0:(0:Int)≤k:=by omega
  by_cases aE:k<C.length
  ·have g1:(k:Int)<(C.length:Int):=by omega
   have d0:decide ((k:Int)<(C.length:Int))=true:=Zpv g1;obtain⟨b,o,bb,cc,rfl,f0,f1,f2,nQ⟩:=aO.out k aE;have bJ:=fun h=>bQ.out k aE (Zoh h)
   have jt:L.gAllow C[k].kind C[k].inp.length=true→L.gLit n C[k]=true→(∀m (hm:m<C[k].inp.length),0≤C[k].inp[m]∧C[k].inp[m] < (k:Int))→∀(j:Nat) (hj:j<k+1) (cx:j<C.length),L.gOk n j C[j]=true:=fun h1 h2 h3 j hj cx=>by
    by_cases e:j=k
    ·subst e;exact Znt h1 h2 h3
    ·exact gv.out j (by omega) cx
   have hm:=h2.out _ (Zpz aE);have r0:=ax.cell f0;have r1:=ax.cell f1;have r2:=ax.cell f2
   have gx:∀m (hm:m<C[k].inp.length),∃b o,bb=some ⟨b,o,none⟩∧w1.cell? ⟨b,o+m,none⟩=some (.int .i64 C[k].inp[m]):=fun m hm=>by
    obtain⟨ba,cp,e,h⟩:=nQ
    cases e
    rcases h with ⟨_,h,_⟩|⟨b,o,h1,h2⟩
    ·rw[h]at hm;simp at hm
    ·exact⟨b,o,h1,h2 m hm⟩
   clear nQ f0 f1 f2 aO;generalize C[k]=g at *;obtain⟨kd,lt,ip⟩:=g
   dsimp only at *
   have gM:Ext wo (wo.alloc (.cells #[.int .i64 kd,.int .i64 lt,.slice bb ip.length cc] 166)):=(Ext.refl _).alloc _;have bY:=Zpm wo (.cells #[.int .i64 kd,.int .i64 lt,.slice bb ip.length cc] 166);obtain⟨wa,eE⟩:∃wa,wa=wo.alloc (.cells #[.int .i64 kd,.int .i64 lt,.slice bb ip.length cc] 166):=⟨_,rfl⟩;rw[←eE]at gM bY;replace eE:=Zpe eE;obtain⟨gb,bk⟩:∃gb,gb=wo.heap.size:=⟨_,rfl⟩;rw[←bk]at bY;replace bk:=Zpe bk;have k0:wa.cell? ⟨gb,0,none⟩=some (.int .i64 kd):=by rw[World.cell?,bY];rfl
   have k1:wa.cell? ⟨gb,1,none⟩=some (.int .i64 lt):=by rw[World.cell?,bY];rfl
   have k2:wa.cell? ⟨gb,2,none⟩=some (.slice bb ip.length cc):=by rw[World.cell?,bY];rfl
   have m0:=gM.cell b0;have m1:=gM.cell b1;have qa:=ZhB (k:=kd) (n:=ip.length) wa;have qv:=ql.out lt wa;have bK:=Zpe (ax.trans gM);have rM:L.gLit n ⟨kd,lt,ip⟩=if kd=2 then L.validB n lt else decide (lt=0):=rfl
   obtain⟨P,hP⟩:∃P:Bool,P=L.gLit n ⟨kd,lt,ip⟩:=⟨_,rfl⟩;obtain⟨G,hG⟩:∃G:Bool,G=L.gAllow kd ip.length:=⟨_,rfl⟩;rw[←hP]at bJ jt rM;rw[←hG]at bJ jt qa;replace bJ:=Zpe bJ;replace jt:=Zpe jt;replace hP:=Zpe hP;replace hG:=Zpe hG;replace rM:=Zpe rM;replace gx:=Zpe gx;replace ax:=Zpe ax;replace gM:=Zpe gM;replace bY:=Zpe bY
   cases G
   ·have hr:=Zpe (bJ.out (.inl rfl))
    go_wp2_with fail;rw[←eE.out,←bk.out];clear r0 r1 r2
    try go_wp2_with fail
    refine qa.mono ?_;rintro e w4 ⟨rfl,rfl⟩;go_wp2_with fail;go_ret;exact⟨by rw[hr.out] <;> rfl,aC.out.trans bK.out⟩
   ·have br:P=false→Hid (L.ciChk n C=1):=fun e=>Zpe (bJ.out (.inr (.inl e)))
    by_cases bX:kd=2
    ·subst bX
     have jI:P=L.validB n lt:=rM.out.trans (if_pos rfl);rw[←jI]at qv;clear jI
     cases P
     ·have hr:=br rfl
      clear br;go_wp2_with fail;rw[←eE.out,←bk.out];clear r0 r1 r2
      try go_wp2_with fail
      refine qa.mono ?_;rintro e w4 ⟨rfl,rfl⟩;clear qa;go_wp2_with fail;refine qv.mono ?_;rintro e w5 ⟨rfl,rfl⟩;go_wp2_with fail;go_ret;exact⟨by rw[hr.out] <;> rfl,aC.out.trans bK.out⟩
     ·clear br
      go_wp2_with fail;rw[←eE.out,←bk.out];clear r0 r1 r2
      try go_wp2_with fail
      refine qa.mono ?_;rintro e w4 ⟨rfl,rfl⟩;clear qa;go_wp2_with fail;refine qv.mono ?_;rintro e w5 ⟨rfl,rfl⟩;clear qv;go_wp2_with fail
      go_loopw [5] (fun i wr=>wr=wa∧∃m:Nat,m≤ip.length∧i= .int .i64 (m:Nat)∧Hid (∀j (hj:j<m) (cx:j<ip.length),0≤ip[j]∧ip[j] < (k:Int))) (fun i _=>ip.length - (intOf i).toNat)
      case atStart=>exact⟨rfl,0,Nat.zero_le _,rfl,Zpe fun j hj=>absurd hj (Nat.not_lt_zero _)⟩
      case round =>
       obtain⟨rfl,m,ji,rfl,aN⟩:=hrel;have g2:(0:Int)≤m:=by omega
       by_cases en:m<ip.length
       ·have g3:(m:Int)<(ip.length:Int):=by omega
        have e0:decide ((m:Int)<(ip.length:Int))=true:=Zpv g3;obtain⟨b2,o2,rfl,x0⟩:=gx.out m en;have x1:=(ax.out.trans gM.out).cell x0;have bN:=bJ.out;obtain⟨x,hx⟩:∃x,x=ip[m]:=⟨_,rfl⟩;rw[←hx]at x1;clear x0
        by_cases aV:x<0
        ·have hr:=Zpe (bN (.inr (.inr ⟨m,en,.inl (by rw[←hx];exact aV)⟩)))
         have d5:decide (x<0)=true:=Zpv aV;replace hx:=Zpe hx;clear bN aV;go_wp2_with fail;go_ret;exact⟨by rw[hr.out] <;> rfl,aC.out.trans bK.out⟩
        ·have d5:decide (x<0)=false:=Zpu aV
         by_cases fL:x≥(k:Int)
         ·have hr:=Zpe (bN (.inr (.inr ⟨m,en,.inr (by rw[←hx];exact fL)⟩)))
          have d6:decide (x≥(k:Int))=true:=Zpv fL;replace hx:=Zpe hx;replace aV:=Zpe aV;clear bN fL;go_wp2_with fail;go_ret;exact⟨by rw[hr.out] <;> rfl,aC.out.trans bK.out⟩
         ·have d6:decide (x≥(k:Int))=false:=Zpu fL
          have ag:Hid (∀j (hj:j<m+1) (cx:j<ip.length),0≤ip[j]∧ip[j] < (k:Int)):=Zpe fun j hj cx=>by
           by_cases e:j=m
           ·subst e;rw[←hx];omega
           ·exact aN.out j (by omega) cx
          replace hx:=Zpe hx;replace aV:=Zpe aV;replace fL:=Zpe fL;clear bN;go_wp2_with fail;go_roundw
          case rel=>exact⟨trivial,m+1,by omega,by go_num,ag⟩
          case measure=>simp[intOf];omega
       ·obtain rfl:m=ip.length:=by omega
        have e0:decide ((ip.length:Int)<(ip.length:Int))=false:=Zpu (by omega);have ol:=Zpe (jt.out trivial trivial fun j hj=>aN.out j hj hj);go_wp2_with fail;go_roundw
        case rel=>exact⟨k+1,by omega,by go_num,ol.out,bK.out⟩
        case measure=>simp[intOf];omega
    ·have jI:P=decide (lt=0):=rM.out.trans (if_neg bX)
     have d1:(kd ==2)=false:=by simpa using bX
     have d2:(kd !=2)=true:=by simpa using bX
     clear qv
     by_cases dT:lt=0
     ·subst dT
      have nC:P=true:=jI;subst nC;replace bX:=Zpe bX;clear br jI;go_wp2_with fail;rw[←eE.out,←bk.out];clear r0 r1 r2
      try go_wp2_with fail
      refine qa.mono ?_;rintro e w4 ⟨rfl,rfl⟩;clear qa;go_wp2_with fail
      go_loopw [5] (fun i wr=>wr=wa∧∃m:Nat,m≤ip.length∧i= .int .i64 (m:Nat)∧Hid (∀j (hj:j<m) (cx:j<ip.length),0≤ip[j]∧ip[j] < (k:Int))) (fun i _=>ip.length - (intOf i).toNat)
      case atStart=>exact⟨rfl,0,Nat.zero_le _,rfl,Zpe fun j hj=>absurd hj (Nat.not_lt_zero _)⟩
      case round =>
       obtain⟨rfl,m,ji,rfl,aN⟩:=hrel;have g2:(0:Int)≤m:=by omega
       by_cases en:m<ip.length
       ·have g3:(m:Int)<(ip.length:Int):=by omega
        have e0:decide ((m:Int)<(ip.length:Int))=true:=Zpv g3;obtain⟨b2,o2,rfl,x0⟩:=gx.out m en;have x1:=(ax.out.trans gM.out).cell x0;have bN:=bJ.out;obtain⟨x,hx⟩:∃x,x=ip[m]:=⟨_,rfl⟩;rw[←hx]at x1;clear x0
        by_cases aV:x<0
        ·have hr:=Zpe (bN (.inr (.inr ⟨m,en,.inl (by rw[←hx];exact aV)⟩)))
         have d5:decide (x<0)=true:=Zpv aV;replace hx:=Zpe hx;clear bN aV;go_wp2_with fail;go_ret;exact⟨by rw[hr.out] <;> rfl,aC.out.trans bK.out⟩
        ·have d5:decide (x<0)=false:=Zpu aV
         by_cases fL:x≥(k:Int)
         ·have hr:=Zpe (bN (.inr (.inr ⟨m,en,.inr (by rw[←hx];exact fL)⟩)))
          have d6:decide (x≥(k:Int))=true:=Zpv fL;replace hx:=Zpe hx;replace aV:=Zpe aV;clear bN fL;go_wp2_with fail;go_ret;exact⟨by rw[hr.out] <;> rfl,aC.out.trans bK.out⟩
         ·have d6:decide (x≥(k:Int))=false:=Zpu fL
          have ag:Hid (∀j (hj:j<m+1) (cx:j<ip.length),0≤ip[j]∧ip[j] < (k:Int)):=Zpe fun j hj cx=>by
           by_cases e:j=m
           ·subst e;rw[←hx];omega
           ·exact aN.out j (by omega) cx
          replace hx:=Zpe hx;replace aV:=Zpe aV;replace fL:=Zpe fL;clear bN;go_wp2_with fail;go_roundw
          case rel=>exact⟨trivial,m+1,by omega,by go_num,ag⟩
          case measure=>simp[intOf];omega
       ·obtain rfl:m=ip.length:=by omega
        have e0:decide ((ip.length:Int)<(ip.length:Int))=false:=Zpu (by omega);have ol:=Zpe (jt.out trivial trivial fun j hj=>aN.out j hj hj);go_wp2_with fail;go_roundw
        case rel=>exact⟨k+1,by omega,by go_num,ol.out,bK.out⟩
        case measure=>simp[intOf];omega
     ·have d3:(lt !=0)=true:=by simpa using dT
      have nC:P=false:=jI.trans (Zpu dT);have hr:=br nC;subst nC;replace bX:=Zpe bX;replace dT:=Zpe dT;clear br jI;go_wp2_with fail;rw[←eE.out,←bk.out];clear r0 r1 r2
      try go_wp2_with fail
      refine qa.mono ?_;rintro e w4 ⟨rfl,rfl⟩;clear qa;go_wp2_with fail;go_ret;exact⟨by rw[hr.out] <;> rfl,aC.out.trans bK.out⟩
  ·obtain rfl:k=C.length:=by omega
   have d0:decide ((C.length:Int)<(C.length:Int))=false:=Zpu (by omega);replace ax:=Zpe ax
   by_cases he:C.length=0
   ·have hr:=Zpe (dE.out (List.length_eq_zero_iff.1 he))
    have d4:((C.length:Int) ==0)=true:=by rw[beq_iff_eq];omega
    clear he;go_wp2_with fail;go_ret;exact⟨by rw[hr.out] <;> rfl,aC.out.trans ax.out⟩
   ·have hr:=Zpe (bf.out (fun e=>he (by rw[e];rfl)) fun j hj=>gv.out j hj hj)
    have d4:((C.length:Int) ==0)=false:=by rw[beq_eq_false_iff_ne];omega
    replace he:=Zpe he;go_wp2_with fail;go_ret;exact⟨by rw[hr.out] <;> rfl,aC.out.trans ax.out⟩
def ZbW (C:List L.Gt)(k:Nat):Bool:=decide (C.length≤60) && (C.take k).all fun g=>decide (g.inp.length≤12)
def ZbV (n:Int)(C:List L.Gt):Bool:=decide (C.length≤5000) && (C.all (fun g=>decide (g.inp.length≤200)) && (ZbW C C.length || decide (L.ciChk n C≠0)))
theorem Zg0{n:Int}{C:List L.Gt}(h:ZbV n C=true):C.length≤5000∧(∀g∈C,g.inp.length≤200)∧(L.ciChk n C=0→C.length≤60∧∀g∈C,g.inp.length≤12):=by
 unfold ZbV ZbW at h;simp only[Zpx,Bool.or_eq_true,ZpA,List.all_eq_true,List.take_length]at h;refine⟨h.1,h.2.1,fun e=>?_⟩;rcases h.2.2 with h1|h1
 ·exact h1
 ·exact absurd e h1
theorem Zid{C:List L.Gt}{k:Nat}(hk:k<C.length):ZbW C (k+1)=(ZbW C k && decide ((C[k].inp.length:Int)≤12)):=by
 unfold ZbW;rw[List.take_succ_eq_append_getElem hk,List.all_append,←Bool.and_assoc]
 congr 1
 simp only[List.all_cons,List.all_nil,Bool.and_true];exact decide_eq_decide.2 (by omega)
theorem ZjF{n:Int}{C:List L.Gt}{v:Value}{w:World}(hv:SlC w v C) :
  Calls Tryz.prog 50 #[.agg #[.int .i64 n,v]] w fun e w'=>e= .returned (.bool (ZbV n C))∧Ext w w':=by
 have aC:Ext w (w.alloc (.cells #[.int .i64 n,v] 84)):=(Ext.refl w).alloc _;have aX:=Zpm w (.cells #[.int .i64 n,v] 84);obtain⟨w1,aD⟩:∃w1,w1=w.alloc (.cells #[.int .i64 n,v] 84):=⟨_,rfl⟩;rw[←aD]at aC aX;have c0:w1.cell? ⟨w.heap.size,0,none⟩=some (.int .i64 n):=by simp[World.cell?,aX]
 have c1:w1.cell? ⟨w.heap.size,1,none⟩=some v:=by simp[World.cell?,aX]
 have bI:=hv.ext aC.below;have qc:=fun h1 h2=>Zbg (n:=n) bI h1 h2
 obtain⟨ba,cp,rfl,aO⟩:=bI.shape;replace aO:=Zpe aO;replace qc:=Zpe qc;clear aX hv bI;replace aC:=Zpe aC
 by_cases hl:(C.length:Int) > 5000
 ·have d0:decide ((C.length:Int) > 5000)=true:=Zpv hl
  have hr:Hid (ZbV n C=false):=Zpe (by unfold ZbV;rw[Zpu (by omega:¬ C.length≤5000)];rfl);clear hl
  go_enter Tryz.func50,Tryz.ntmps50
  go_wp2_with fail;rw[←aD];replace aD:=Zpe aD
  try go_wp2_with fail
  go_ret;exact⟨by rw[hr.out] <;> rfl,aC.out⟩
 have d0:decide ((C.length:Int) > 5000)=false:=Zpu hl
 have eI:decide ((C.length:Int)≤60)=ZbW C 0:=by
  unfold ZbW;simp only[List.take_zero,List.all_nil,Bool.and_true];exact decide_eq_decide.2 (by omega)
 have jn:=fun (k:Nat) (hk:k<C.length) (h:C[k].inp.length > 200)=>show ZbV n C=false by
  unfold ZbV
  have:C.all (fun g=>decide (g.inp.length≤200))=false:=by
   rw[List.all_eq_false];exact⟨_,Zpz hk,by simp;omega⟩
  rw[this];simp
 have xu:=fun (h:∀k (hk:k<C.length),C[k].inp.length≤200)=>show ZbV n C=(ZbW C C.length || decide (L.ciChk n C≠0)) by
  unfold ZbV
  have:C.all (fun g=>decide (g.inp.length≤200))=true:=by
   rw[List.all_eq_true];intro g hg;obtain⟨j,hj,rfl⟩:=List.getElem_of_mem hg;simpa using h j hj
  rw[this,Zpv (by omega:C.length≤5000)];simp
 replace jn:=Zpe jn;replace xu:=Zpe xu;generalize bB:ZbW C 0=sm0 at *;replace bB:=Zpe bB
 go_enter Tryz.func50,Tryz.ntmps50
 go_wp2_with fail;rw[←aD];replace aD:=Zpe aD
 try go_wp2_with fail
 clear d0 eI
 go_loopw [3,16] (fun s i wr=>wr=w1∧∃(k:Nat) (b:Bool),k≤C.length∧s= .bool b∧i= .int .i64 (k:Nat)∧Hid (b=ZbW C k∧∀j (hj:j<C.length),j<k→C[j].inp.length≤200)) (fun _ i _=>C.length - (intOf i).toNat)
 case atStart=>exact⟨rfl,0,sm0,Nat.zero_le _,rfl,rfl,Zpe ⟨bB.out.symm,fun j _ hj=>absurd hj (Nat.not_lt_zero _)⟩⟩
 case round =>
  obtain⟨rfl,k,sm,hk,rfl,rfl,hI⟩:=hrel;have g0:(0:Int)≤k:=by omega
  by_cases aE:k<C.length
  ·have g1:(k:Int)<(C.length:Int):=by omega
   have d0:decide ((k:Int)<(C.length:Int))=true:=Zpv g1;obtain⟨b,o,bb,cc,rfl,_,_,f2,_⟩:=aO.out k aE;have bN:=Zid aE;have bJ:=jn.out k aE;have cH:=hI.out.2
   have ag:=fun (h:C[k].inp.length≤200) (j:Nat) (hj:j<C.length) (nR:j<k+1)=>show C[j].inp.length≤200 by
    by_cases e:j=k
    ·subst e;exact h
    ·exact cH j hj (by omega)
   generalize C[k].inp.length=M at *;replace cH:=Zpe cH
   by_cases hM:(M:Int) > 200
   ·have d3:decide ((M:Int) > 200)=true:=Zpv hM
    have hr:=Zpe (bJ (by omega));clear hM bJ ag bN;go_wp2_with fail;go_ret;exact⟨by rw[hr.out] <;> rfl,aC.out⟩
   ·have d3:decide ((M:Int) > 200)=false:=Zpu hM
    have dW:=Zpe (ag (by omega));replace bN:=Zpe bN;clear hM bJ ag
    cases sm
    ·go_wp2_with fail
     go_roundw
     case rel=>exact⟨trivial,k+1,false,by omega,rfl,by go_num,Zpe ⟨by rw[bN.out,←hI.out.1];rfl,dW.out⟩⟩
     case measure=>simp[intOf];omega
    ·go_wp2_with fail
     go_roundw
     case rel=>exact⟨trivial,k+1,_,by omega,rfl,by go_num,Zpe ⟨by rw[bN.out,←hI.out.1];rfl,dW.out⟩⟩
     case measure=>simp[intOf];omega
  ·obtain rfl:k=C.length:=by omega
   have d0:decide ((C.length:Int)<(C.length:Int))=false:=Zpu (by omega);have aN:∀j (hj:j<C.length),C[j].inp.length≤200:=fun j hj=>hI.out.2 j hj hj
   have hr:=xu.out aN;rw[←hI.out.1]at hr;replace hr:=Zpe hr;have q:=qc.out (by omega) (fun g hg=>by obtain⟨j,hj,rfl⟩:=List.getElem_of_mem hg;exact aN j hj);replace aN:=Zpe aN
   cases sm
   ·have hb:Hid ((L.ciChk n C !=0)=decide (L.ciChk n C≠0)):=Zpe (by rw[Bool.eq_iff_iff];simp)
    go_wp2_with fail;refine q.mono ?_;rintro e w3 ⟨rfl,aR⟩;go_wp2_with fail;go_ret;exact⟨by rw[hr.out,←hb.out] <;> simp,aC.out.trans aR⟩
   ·go_wp2_with fail
    go_ret;exact⟨by rw[hr.out] <;> simp,aC.out⟩
def ZnP (a b:Zak):Bool:=decide (a &&& ~~~b=0)
theorem Zi1(a b:Zak):ZnP a b=true↔∀u,Zau a u=true→Zau b u=true:=by
 unfold ZnP;rw[decide_eq_true_iff]
 constructor
 ·intro h u hu
  obtain⟨u1,u2⟩:=L.hasS_range hu;obtain⟨i,hi,rfl⟩:∃i:Nat,i<128∧u=(i:Int)+1:=⟨(u - 1).toNat,by omega,by omega⟩;rw[L.hasS_bit _ _ hi]at hu ⊢;have:=congrArg (fun x:Zak=>x.getLsbD i) h;simp only[BitVec.getLsbD_and,BitVec.getLsbD_not,hi,decide_true,Bool.true_and,hu,BitVec.getLsbD_zero]at this;simpa using this
 ·intro h
  refine L.set_ext fun i hi=>?_
  have e0:(0:Zak).getLsbD i=false:=BitVec.getLsbD_zero;rw[e0,BitVec.getLsbD_and,BitVec.getLsbD_not];have:=h ((i:Int)+1);rw[L.hasS_bit _ _ hi,L.hasS_bit _ _ hi]at this
  cases ha:a.getLsbD i
  ·rfl
  ·rw[this ha];simp
theorem Zk8(a:Zak):(decide (lo a=0) && decide (hi a=0))=decide (a=0):=by
 rw[Bool.eq_iff_iff];simp only[Zpx,ZpA]
 constructor
 ·rintro⟨h1,h2⟩
  refine L.set_ext fun i hi=>?_
  have e0:(0:Zak).getLsbD i=false:=BitVec.getLsbD_zero;rw[e0]
  have z1:a.setWidth 64=0:=by
   apply BitVec.eq_of_toNat_eq
   have h3:(((a.setWidth 64).toNat:Nat):Int)=0:=h1
   show (a.setWidth 64).toNat=0
   omega
  have z2:(a >>> 64).setWidth 64=0:=by
   apply BitVec.eq_of_toNat_eq
   have h3:((((a >>> 64).setWidth 64).toNat:Nat):Int)=0:=h2
   show ((a >>> 64).setWidth 64).toNat=0
   omega
  by_cases h64:i<64
  ·have:=congrArg (fun x:BitVec 64=>x.getLsbD i) z1
   simpa [BitVec.getLsbD_setWidth,h64] using this
  ·have:=congrArg (fun x:BitVec 64=>x.getLsbD (i - 64)) z2
   simp only[BitVec.getLsbD_setWidth,BitVec.getLsbD_ushiftRight]at this;rw[show 64+(i - 64)=i by omega]at this;simpa [show i - 64<64 by omega] using this
 ·rintro rfl;exact⟨by rfl,by rfl⟩
theorem Zfk(a b:Zak)(w:World):Calls Tryz.prog 111 #[ZaT a,ZaT b] w fun e w'=>e= .returned (.bool (ZnP a b))∧Ext w w':=by
 have hz:=Zk8 (a &&& ~~~b);have hq:=fun w=>Zg7 a b w
 unfold ZaT at hq ⊢;unfold ZnP;rw[←hz];clear hz;have hx:=((Ext.refl w).alloc (.cells #[.int .u64 (lo a),.int .u64 (hi a)] 41)).alloc (.cells #[.int .u64 (lo b),.int .u64 (hi b)] 41)
 go_enter Tryz.func111,Tryz.ntmps111
 go_wp2_with fail;refine(hq _).mono ?_;rintro e w1 ⟨rfl,aC⟩;generalize aV:lo (a &&& ~~~b)=x at *;generalize yN:hi (a &&& ~~~b)=y at *;have qW:=Zoy x y 0 0;go_wp2_with fail;go_ret;exact⟨by rw[aV,yN] <;> rfl,hx.trans aC⟩
def ZhA:Nat→Zak
 | 0=>0
 | k+1=>ZaA (ZhA k) ((k:Int)+1)
theorem ZcE(v:Int):∀n,n≤128→(Zau (ZhA n) v=true↔1≤v∧v≤n)
 | 0,_=>by
   rw[ZhA,L.hasS_zero];exact⟨fun h=>(by cases h),fun h=>by omega⟩
 | n+1,hn=>by
   rw[ZhA,L.hasS_with,Bool.or_eq_true,ZcE v n (by omega)];simp only[Zpx,ZpA];omega
theorem ZiC(a b:Zak)(v:Int):Zau (a &&& b) v=(Zau a v && Zau b v):=by
 unfold Zau;rw[BitVec.getLsbD_and]
 cases decide (1≤v) <;> cases decide (v≤128) <;> simp
end Go.Proofs.YtmnjakejhbpkoaaGreatDoor
end
