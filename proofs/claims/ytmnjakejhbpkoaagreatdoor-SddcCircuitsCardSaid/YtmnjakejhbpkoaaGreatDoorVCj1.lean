import Derived.Test.YtmnjakejhbpkoaaGreatDoorVCi1
set_option linter.unusedSimpArgs false
set_option linter.unusedVariables false
set_option maxRecDepth 100000
set_option maxHeartbeats 8000000
section
namespace Go.Proofs.YtmnjakejhbpkoaaGreatDoor
open Go Go.RowKit Go.Shelf
theorem ZhG(l:List Int)(i:Nat):(l.any fun k=>!(decide (0≤k) && decide (k<i)))= !(l.all fun k=>decide (0≤k) && decide (k<i)):=by
 rw[List.all_eq_not_any_not];simp
theorem Zmk{n:Int}{C:List L.Gt}{v:Value}{w:World}(hv:SlC w v C)(hn:0≤n∧n≤128){i:Nat}(hi:i<C.length)(h2:C[i].inp.length≤200) :
  Calls Tryz.prog 176 #[.agg #[.int .i64 n,v],.int .i64 (i:Nat)] w fun e w'=>e= .returned (.bool (L.gOk n i C[i]))∧Ext w w':=by
 obtain⟨ba,cp,rfl,aO⟩:=hv.shape;clear hv;obtain⟨e0,e1⟩:=ZbB w (.cells #[.int .i64 n,.slice ba C.length cp] 84) (.cells #[.int .i64 (i:Nat)] 3);have aF:Ext w ((w.alloc (.cells #[.int .i64 n,.slice ba C.length cp] 84)).alloc (.cells #[.int .i64 (i:Nat)] 3)):=((Ext.refl w).alloc _).alloc _;obtain⟨b,o,bb,cc,rfl,f0,f1,f2,hs⟩:=aO i hi;clear aO;have cw:(i:Int)<C.length:=by omega
 have cX:(0:Int)≤i:=by omega
 generalize C[i]=g at *;obtain⟨kd,lt,ip⟩:=g
 dsimp only at *
 have r0:=aF.cell f0;have r1:=aF.cell f1;have r2:=aF.cell f2;obtain⟨w2,cA⟩:∃w2,w2=(w.alloc (.cells #[.int .i64 n,.slice (some ⟨b,o,none⟩) C.length cp] 84)).alloc (.cells #[.int .i64 (i:Nat)] 3):=⟨_,rfl⟩;rw[←cA]at e0 e1 aF;have c0:w2.cell? ⟨w.heap.size,0,none⟩=some (.int .i64 n):=by rw[World.cell?,e0];rfl
 have c1:w2.cell? ⟨w.heap.size,1,none⟩=some (.slice (some ⟨b,o,none⟩) C.length cp):=by rw[World.cell?,e0];rfl
 have c2:w2.cell? ⟨w.heap.size+1,0,none⟩=some (.int .i64 (i:Nat)):=by rw[World.cell?,e1];rfl
 have g0:=aF.cell f0;have g1:=aF.cell f1;have g2:=aF.cell f2;have aR:Ext w2 (w2.alloc (.cells #[.int .i64 kd,.int .i64 lt,.slice bb ip.length cc] 166)):=(Ext.refl _).alloc _;have kz:=Zpm w2 (.cells #[.int .i64 kd,.int .i64 lt,.slice bb ip.length cc] 166);obtain⟨w3,de⟩:∃w3,w3=w2.alloc (.cells #[.int .i64 kd,.int .i64 lt,.slice bb ip.length cc] 166):=⟨_,rfl⟩;rw[←de]at aR kz;have bT:w2.heap.size=w.heap.size+1+1:=by rw[cA];simp
 rw[bT]at kz;replace bT:=Zpe bT;replace de:=Zpe de;have k0:w3.cell? ⟨w.heap.size+1+1,0,none⟩=some (.int .i64 kd):=by simp[World.cell?,kz]
 have k1:w3.cell? ⟨w.heap.size+1+1,1,none⟩=some (.int .i64 lt):=by simp[World.cell?,kz]
 have k2:w3.cell? ⟨w.heap.size+1+1,2,none⟩=some (.slice bb ip.length cc):=by simp[World.cell?,kz]
 have m0:=aR.cell c0;have m1:=aR.cell c2;have qi:=Zjz (k:=kd) (n:=ip.length) w3;have qv:=fun W=>Zhp (n:=n) (l:=lt) hn.1 hn.2 W
 have kB:∀(c:Array Value) (w:World),(callFunc 208 c).run Tryz.prog w= .ok (.enter 208 c) w:=fun c w=>by simp[go_sem,Tryz.func208]
 have lq:∀(fn:Fn) (first cap:Array Value) (w:World),(Instr.makeFunc fn first cap).run Tryz.prog w= .ok (.func fn first cap) w:=fun _ _ _ _=>rfl
 have eD:=(hs.ext aF.below).ext aR.below;have qf:=fun (W:World) (h:Ext w3 W)=>Zeg (fm:=208) (q:=.pointer (some ⟨w.heap.size+1,0,none⟩)) kB (fun V=>Ext w3 V) (p:=fun k=>!(decide (0≤k) && decide (k<i))) (l:=ip) (v:=.slice bb ip.length cc) (w:=W) (fun V hV=>eD.ext hV.below) (by omega) h (fun j hj V hV=>(ZkO (hV.cell m1)).mono fun e w' hh=>⟨hh.1,by rw[←hh.2];exact hV⟩)
 rw[ZhG]at qf;have fT:L.gOk n i ⟨kd,lt,ip⟩=(L.gAllow kd ip.length && ((if kd=2 then L.validB n lt else decide (lt=0)) && ip.all fun k=>decide (0≤k) && decide (k<i))):=rfl;rw[fT];replace fT:=Zpe fT;replace qf:=Zpe qf;replace qv:=Zpe qv;replace hs:=Zpe hs;replace eD:=Zpe eD;generalize hA:(ip.all fun k=>decide (0≤k) && decide (k<i))=A at *;generalize hG:L.gAllow kd ip.length=G at *;generalize hV:L.validB n lt=B at *;replace hA:=Zpe hA;replace hG:=Zpe hG;replace hV:=Zpe hV;generalize ip.length=M at *;obtain⟨P,hP⟩:∃P:Bool,P=if kd=2 then B else decide (lt=0):=⟨_,rfl⟩
 rw[←hP];replace hP:=Zpe hP;have bK:=Zpe (aF.trans aR);replace kz:=Zpe kz;replace e0:=Zpe e0;replace e1:=Zpe e1;clear f0 f1 f2;replace aF:=Zpe aF;replace aR:=Zpe aR
 cases G
 ·go_enter Tryz.func176,Tryz.ntmps176
  go_wp2_with fail;rw[←cA,←de.out];replace cA:=Zpe cA;clear r0 r1 r2 g0 g1 g2 c0 c1 c2;go_wp2_with fail;refine qi.mono ?_;rintro e w4 ⟨rfl,rfl⟩;go_wp2_with fail;go_ret;exact⟨rfl,bK.out⟩
 ·go_enter Tryz.func176,Tryz.ntmps176
  go_wp2_with fail;rw[←cA,←de.out];replace cA:=Zpe cA;clear r0 r1 r2 g0 g1 g2 c0 c1 c2;go_wp2_with fail;refine qi.mono ?_;rintro e w4 ⟨rfl,rfl⟩;clear qi
  by_cases bX:kd=2
  ·subst bX
   have jI:P=B:=hP.out.trans (if_pos rfl);subst jI;have q:=qv.out w3;go_wp2_with fail;refine q.mono ?_;rintro e w4 ⟨rfl,rfl⟩;clear q
   cases P
   ·go_wp2_with fail
    go_ret;exact⟨rfl,bK.out⟩
   ·have q:=qf.out w3 (Ext.refl _)
    go_wp2_with fail;refine q.mono ?_;rintro e w5 ⟨rfl,eW⟩;go_wp2_with fail;go_ret;exact⟨by cases A <;> rfl,bK.out.trans eW⟩
  ·have jI:P=decide (lt=0):=hP.out.trans (if_neg bX)
   have d1:(kd ==2)=false:=by simpa using bX
   have d2:(kd !=2)=true:=by simpa using bX
   replace bX:=Zpe bX
   by_cases dT:lt=0
   ·subst dT
    have nC:P=true:=jI;subst nC;clear jI;have q:=qf.out w3 (Ext.refl _);go_wp2_with fail;refine q.mono ?_;rintro e w5 ⟨rfl,eW⟩;go_wp2_with fail;go_ret;exact⟨by cases A <;> rfl,bK.out.trans eW⟩
   ·have d3:(lt !=0)=true:=by simpa using dT
    have nC:P=false:=jI.trans (Zpu dT);subst nC;replace dT:=Zpe dT;clear jI;go_wp2_with fail;go_ret;exact⟨rfl,bK.out⟩
theorem Zcc{n:Int}{C:List L.Gt}{v:Value}{w:World}(hv:SlC w v C)(h1:C.length≤5000)(h2:∀g∈C,g.inp.length≤200) :
  Calls Tryz.prog 115 #[.agg #[.int .i64 n,v]] w fun e w'=>e= .returned (.int .i64 (L.ciChk n C))∧Ext w w':=by
 have aC:Ext w (w.alloc (.cells #[.int .i64 n,v] 84)):=(Ext.refl w).alloc _;have aX:=Zpm w (.cells #[.int .i64 n,v] 84);obtain⟨w1,aD⟩:∃w1,w1=w.alloc (.cells #[.int .i64 n,v] 84):=⟨_,rfl⟩;rw[←aD]at aC aX;have c0:w1.cell? ⟨w.heap.size,0,none⟩=some (.int .i64 n):=by simp[World.cell?,aX]
 have c1:w1.cell? ⟨w.heap.size,1,none⟩=some v:=by simp[World.cell?,aX]
 have bI:=hv.ext aC.below;have qs:=fun (W:World) (h:Ext w1 W)=>Zjf (n:=n) (bI.ext h.below) h1 h2
 obtain⟨ba,cp,rfl,_⟩:=hv;have yC:L.ciSize C≤200*5000:=Zpp (L.ciSize_le h2) (Nat.mul_le_mul_left _ h1);replace bI:=Zpe bI;replace h2:=Zpe h2;clear aX;replace aC:=Zpe aC
 by_cases cO:n<0
 ·have d0:decide (n<0)=true:=Zpv cO
  have hr:L.ciChk n C=6:=by unfold L.ciChk;rw[if_pos (.inl cO)]
  rw[hr];clear hr cO
  go_enter Tryz.func115,Tryz.ntmps115
  go_wp2_with fail;rw[←aD];replace aD:=Zpe aD;go_wp2_with fail;go_ret;exact⟨rfl,aC.out⟩
 have d0:decide (n<0)=false:=Zpu cO
 by_cases aX:n > 128
 ·have d1:decide (n > 128)=true:=Zpv aX
  have hr:L.ciChk n C=6:=by unfold L.ciChk;rw[if_pos (.inr aX)]
  rw[hr];clear hr cO aX
  go_enter Tryz.func115,Tryz.ntmps115
  go_wp2_with fail;rw[←aD];replace aD:=Zpe aD;go_wp2_with fail;go_ret;exact⟨rfl,aC.out⟩
 have d1:decide (n > 128)=false:=Zpu aX;have eo:0≤n∧n≤128:=by omega
 by_cases hl:(C.length:Int) > 4096
 ·have d2:decide ((C.length:Int) > 4096)=true:=Zpv hl
  have hr:L.ciChk n C=2:=by unfold L.ciChk;rw[if_neg (by omega),if_pos (by omega)]
  rw[hr];clear hr cO aX hl
  go_enter Tryz.func115,Tryz.ntmps115
  go_wp2_with fail;rw[←aD];replace aD:=Zpe aD;go_wp2_with fail;go_ret;exact⟨rfl,aC.out⟩
 have d2:decide ((C.length:Int) > 4096)=false:=Zpu hl;have q:=qs w1 (Ext.refl _)
 by_cases hs:((L.ciSize C:Nat):Int) > 65536
 ·have d3:decide (((L.ciSize C:Nat):Int) > 65536)=true:=Zpv hs
  have hr:L.ciChk n C=2:=by unfold L.ciChk;rw[if_neg (by omega),if_pos (by omega)]
  rw[hr];clear hr cO aX hl hs;generalize L.ciSize C=Z at *
  go_enter Tryz.func115,Tryz.ntmps115
  go_wp2_with fail;rw[←aD];replace aD:=Zpe aD;go_wp2_with fail;refine q.mono ?_;rintro e w2 ⟨rfl,aF⟩;go_wp2_with fail;go_ret;exact⟨rfl,aC.out.trans aF⟩
 have d3:decide (((L.ciSize C:Nat):Int) > 65536)=false:=Zpu hs
 by_cases he:C=[]
 ·subst he
  have hr:L.ciChk n []=1:=by unfold L.ciChk;rw[if_neg (by omega),if_neg (by simp[L.ciSize]),if_pos rfl]
  rw[hr];clear hr cO aX hl hs;simp only[List.length_nil]at aD c1;generalize L.ciSize []=Z at *
  go_enter Tryz.func115,Tryz.ntmps115
  go_wp2_with fail;rw[←aD];replace aD:=Zpe aD;go_wp2_with fail;refine q.mono ?_;rintro e w2 ⟨rfl,aF⟩;have a0:=aF.cell c0;have a1:=aF.cell c1;go_wp2_with fail;go_ret;exact⟨rfl,aC.out.trans aF⟩
 have d4:((C.length:Int) ==0)=false:=by
  have:=List.length_pos_iff.2 he;rw[beq_eq_false_iff_ne];omega
 have bQ:=fun (j:Nat) (hj:j<C.length) (hb:L.gOk n j C[j]=false)=>L.ciChk_bad eo (by omega) (by omega) hj hb
 have bf:=fun (h:∀j (hj:j<C.length),L.gOk n j C[j]=true)=>L.ciChk_ok.2 ⟨eo,by omega,by omega,he,h⟩
 have qg:=fun (W:World) (h:Ext w1 W) (j:Nat) (hj:j<C.length)=>Zmk (n:=n) (bI.out.ext h.below) eo hj (h2.out _ (Zpz hj))
 replace bQ:=Zpe bQ;replace bf:=Zpe bf;replace qg:=Zpe qg;replace he:=Zpe he;clear cO aX hs;generalize L.ciSize C=Z at *
 go_enter Tryz.func115,Tryz.ntmps115
 go_wp2_with fail;rw[←aD];replace aD:=Zpe aD;go_wp2_with fail;refine q.mono ?_;rintro e w2 ⟨rfl,aF⟩;have a0:=aF.cell c0;have a1:=aF.cell c1;clear q d0 d1 d2;go_wp2_with fail;clear a0 a1 d4 d3
 go_loopw [31] (fun i wr=>∃k:Nat,k≤C.length∧i= .int .i64 k∧(∀j (hj:j<k) (cx:j<C.length),L.gOk n j C[j]=true)∧Ext w1 wr) (fun i _=>C.length - (intOf i).toNat)
 case atStart=>exact⟨0,Nat.zero_le _,rfl,(fun j hj=>by omega),aF⟩
 case round =>
  obtain⟨k,hk,rfl,gv,ax⟩:=hrel;have b0:=ax.cell c0;have b1:=ax.cell c1;replace gv:=Zpe gv
  by_cases aE:k<C.length
  ·have q:=qg.out wr ax k aE
   cases aq:L.gOk n k C[k]
   ·have hr:=Zpe (bQ.out k aE aq)
    rw[aq]at q;clear aq;replace ax:=Zpe ax;go_wp2_with fail;refine q.mono ?_;rintro e w4 ⟨rfl,ah⟩;go_wp2_with fail;go_ret;exact⟨by rw[hr.out] <;> rfl,aC.out.trans (ax.out.trans ah)⟩
   ·have fk:∀j (hj:j<k+1) (cx:j<C.length),L.gOk n j C[j]=true:=fun j hj cx=>by
     by_cases e:j=k
     ·subst e;exact aq
     ·exact gv.out j (by omega) cx
    rw[aq]at q;replace fk:=Zpe fk;clear aq;replace ax:=Zpe ax;go_wp2_with fail;refine q.mono ?_;rintro e w4 ⟨rfl,ah⟩;have yO:=Zpe (ax.out.trans ah);go_wp2_with fail;go_roundw
    case rel=>exact⟨k+1,by omega,by go_num,fk.out,yO.out⟩
    case measure=>simp[intOf];omega
  ·obtain rfl:k=C.length:=by omega
   have hr:=Zpe (bf.out fun j hj=>gv.out j hj hj);replace ax:=Zpe ax;go_wp2_with fail;go_ret;exact⟨by rw[hr.out] <;> rfl,aC.out.trans ax.out⟩
theorem ZhB{k:Int}{n:Nat}(w:World):Calls Tryz.prog 119 #[.int .i64 k,.int .i64 (n:Nat)] w fun e w'=>e= .returned (.bool (L.gAllow k n))∧w=w':=by
 have fin:∀m:Nat,((n:Int) ==(m:Int))=decide (n=m):=fun m=>by
  rw[Bool.eq_iff_iff,beq_iff_eq,ZpA];omega
 have f0:=Zpe (fin 0);have f1:=Zpe (fin 1);have f2:=Zpe (fin 2);have f3:=Zpe (fin 3);clear fin
 by_cases h0:k=0
 ·subst h0
  go_enter Tryz.func119,Tryz.ntmps119
  go_wp2_with fail;go_ret;exact⟨congrArg (fun b=>Ending.returned (.bool b)) f0.out,rfl⟩
 by_cases h1:k=1
 ·subst h1
  go_enter Tryz.func119,Tryz.ntmps119
  go_wp2_with fail;go_ret;exact⟨congrArg (fun b=>Ending.returned (.bool b)) f0.out,rfl⟩
 by_cases h2:k=2
 ·subst h2
  go_enter Tryz.func119,Tryz.ntmps119
  go_wp2_with fail;go_ret;exact⟨congrArg (fun b=>Ending.returned (.bool b)) f0.out,rfl⟩
 by_cases h3:k=3
 ·subst h3
  go_enter Tryz.func119,Tryz.ntmps119
  go_wp2_with fail;go_ret;exact⟨congrArg (fun b=>Ending.returned (.bool b)) f1.out,rfl⟩
 by_cases h7:k=7
 ·subst h7
  go_enter Tryz.func119,Tryz.ntmps119
  go_wp2_with fail;go_ret;exact⟨congrArg (fun b=>Ending.returned (.bool b)) f2.out,rfl⟩
 by_cases h8:k=8
 ·subst h8
  go_enter Tryz.func119,Tryz.ntmps119
  go_wp2_with fail;go_ret;exact⟨congrArg (fun b=>Ending.returned (.bool b)) f3.out,rfl⟩
 have hr:Hid (L.gAllow k n=((k ==4) || (k ==5) || (k ==6))):=Zpe (by
  unfold L.gAllow;rw[if_neg (by omega),if_neg h3,if_neg h7,if_neg h8,Bool.eq_iff_iff];simp[or_assoc])
 have d0:(k ==0)=false:=by simpa using h0
 have d1:(k ==1)=false:=by simpa using h1
 have d2:(k ==2)=false:=by simpa using h2
 have d3:(k ==3)=false:=by simpa using h3
 have d7:(k ==7)=false:=by simpa using h7
 have d8:(k ==8)=false:=by simpa using h8
 clear h0 h1 h2 h3 h7 h8
 cases d4:(k ==4)
 ·cases d5:(k ==5)
  ·rw[d4,d5]at hr
   go_enter Tryz.func119,Tryz.ntmps119
   go_wp2_with fail;go_ret;exact⟨by rw[hr.out] <;> rfl,rfl⟩
  ·rw[d4,d5]at hr
   go_enter Tryz.func119,Tryz.ntmps119
   go_wp2_with fail;go_ret;exact⟨by rw[hr.out] <;> rfl,rfl⟩
 ·rw[d4]at hr
  go_enter Tryz.func119,Tryz.ntmps119
  go_wp2_with fail;go_ret;exact⟨by rw[hr.out] <;> rfl,rfl⟩
theorem Zg3{l n:Int}(cO:0≤n)(aX:n≤128)(w:World):Calls Tryz.prog 120 #[.int .i64 l,.int .i64 n] w fun e w'=>e= .returned (.bool (L.validB n l))∧w=w':=by
 obtain⟨B,hB⟩:∃B,B=L.validB n l:=⟨_,rfl⟩;rw[←hB];have wn:wrap64 (-n)= -n:=by unfold wrap64;omega
 have fT:L.validB n l=(decide (l≠0) && (decide (-n≤l) && decide (l≤n))):=rfl;rw[fT]at hB;clear fT
 by_cases h1:l≥1
 ·have d1:decide (l≥1)=true:=Zpv h1
  by_cases h2:l≤n
  ·have d2:decide (l≤n)=true:=Zpv h2
   have hr:Hid (B=true):=Zpe (by rw[hB,Zpv (by omega:l≠0),Zpv (by omega:-n≤l),d2];rfl);replace h1:=Zpe h1;clear hB h2
   go_enter Tryz.func120,Tryz.ntmps120
   go_wp2_with fail;go_ret;exact⟨by rw[hr.out] <;> rfl,rfl⟩
  ·have d2:decide (l≤n)=false:=Zpu h2
   have d3:decide (l≤-1)=false:=Zpu (by omega);have hr:Hid (B=false):=Zpe (by rw[hB,d2];simp);replace h1:=Zpe h1;clear hB h2
   go_enter Tryz.func120,Tryz.ntmps120
   go_wp2_with fail;go_ret;exact⟨by rw[hr.out] <;> rfl,rfl⟩
 ·have d1:decide (l≥1)=false:=Zpu h1
  by_cases h2:l≤-1
  ·have d2:decide (l≤-1)=true:=Zpv h2
   have hr:Hid (B=decide (l≥-n)):=Zpe (by
    rw[hB,Zpv (by omega:l≠0),Zpv (by omega:l≤n),Bool.true_and,Bool.and_true])
   replace h1:=Zpe h1;replace h2:=Zpe h2;clear hB
   go_enter Tryz.func120,Tryz.ntmps120
   go_wp2_with fail;go_ret;exact⟨by rw[hr.out] <;> rfl,rfl⟩
  ·have d2:decide (l≤-1)=false:=Zpu h2
   have hr:Hid (B=false):=Zpe (by rw[hB,Zpu (by omega:¬ l≠0)];rfl);replace h1:=Zpe h1;replace h2:=Zpe h2;clear hB
   go_enter Tryz.func120,Tryz.ntmps120
   go_wp2_with fail;go_ret;exact⟨by rw[hr.out] <;> rfl,rfl⟩
theorem Zhe{n:Int}{C:List L.Gt}{v:Value}{w:World}(hv:SlC w v C)(h1:C.length≤5000)(h2:∀g∈C,g.inp.length≤200) :
  Calls Tryz.prog 118 #[.agg #[.int .i64 n,v]] w fun e w'=>e= .returned (.int .i64 (L.ciSize C:Nat))∧Ext w w':=by
 obtain⟨ba,cp,rfl,aO⟩:=hv.shape;clear hv;have aC:Ext w (w.alloc (.cells #[.int .i64 n,.slice ba C.length cp] 84)):=(Ext.refl w).alloc _;have aX:=Zpm w (.cells #[.int .i64 n,.slice ba C.length cp] 84);obtain⟨w1,aD⟩:∃w1,w1=w.alloc (.cells #[.int .i64 n,.slice ba C.length cp] 84):=⟨_,rfl⟩;rw[←aD]at aC aX;have c1:w1.cell? ⟨w.heap.size,1,none⟩=some (.slice ba C.length cp):=by simp[World.cell?,aX]
 replace aO:=Zpe aO;replace h2:=Zpe h2;clear aX;replace aC:=Zpe aC
 go_enter Tryz.func118,Tryz.ntmps118
 go_wp2_with fail;rw[←aD];replace aD:=Zpe aD
 try go_wp2_with fail
 go_loopw [3,4] (fun s i wr=>wr=w1∧∃k:Nat,k≤C.length∧s= .int .i64 (L.ciSize (C.take k):Nat)∧i= .int .i64 k) (fun _ i _=>C.length - (intOf i).toNat)
 case atStart=>exact⟨rfl,0,Nat.zero_le _,rfl,rfl⟩
 case round =>
  obtain⟨rfl,k,hk,rfl,rfl⟩:=hrel;have bW:L.ciSize (C.take k)≤200*5000:=Zpp (L.ciSize_le fun g hg=>h2.out g (List.mem_of_mem_take hg)) (Nat.mul_le_mul_left _ (by rw[List.length_take];omega));have g0:(0:Int)≤k:=by omega
  by_cases aE:k<C.length
  ·have d0:decide ((k:Int)<(C.length:Int))=true:=Zpv (by omega)
   have g1:(k:Int)<(C.length:Int):=by omega
   obtain⟨b,o,bb,cc,rfl,_,_,f2,_⟩:=aO.out k aE;have f3:=aC.out.cell f2;have bN:=L.ciSize_take aE;have hm:=h2.out _ (Zpz aE);clear f2 aO;generalize hN:L.ciSize (C.take k)=N at *;generalize C[k].inp.length=M at *;replace bN:=Zpe bN;replace hN:=Zpe hN;go_wp2_with fail;go_roundw
   case rel=>exact⟨trivial,k+1,by omega,by rw[bN.out] <;> go_num,by go_num⟩
   case measure=>simp[intOf];omega
  ·obtain rfl:k=C.length:=by omega
   have d0:decide ((C.length:Int)<(C.length:Int))=false:=Zpu (by omega);rw[List.take_length];go_wp2_with fail;go_ret;exact⟨rfl,aC.out⟩
end Go.Proofs.YtmnjakejhbpkoaaGreatDoor
end
