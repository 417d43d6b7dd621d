import Derived.Test.YtmnjakejhbpkoaaGreatDoorVCi7
set_option linter.unusedSimpArgs false
set_option linter.unusedVariables false
set_option maxRecDepth 100000
set_option maxHeartbeats 16000000
section
namespace Go.Proofs.YtmnjakejhbpkoaaGreatDoor
open Go Go.RowKit Go.Shelf
theorem Zjx{l:Int}(hl:-128≤l∧l≤128)(h0:l≠0)(a:Zak)(w:World):Calls Tryz.prog 209 #[.agg #[.int .u64 (lo a),.int .u64 (hi a)],.int .i64 l] w fun e w'=>e= .returned (.bool (L.liφ l (L.asg a)))∧Ext w w':=by
 have e0:=Zpm w (.cells #[.int .u64 (lo a),.int .u64 (hi a)] 41);have aC:Ext w (w.alloc (.cells #[.int .u64 (lo a),.int .u64 (hi a)] 41)):=(Ext.refl w).alloc _;obtain⟨w1,aD⟩:∃w1,w1=w.alloc (.cells #[.int .u64 (lo a),.int .u64 (hi a)] 41):=⟨_,rfl⟩;rw[←aD]at e0 aC;obtain⟨c0,c1⟩:=Zae e0;have q:=ZbH a (l.natAbs:Int) w1;unfold ZaT at q;have fT:L.liφ l (L.asg a)=(Zau a (l.natAbs:Int) ==decide (0<l)):=rfl;rw[fT]
 by_cases hn:l<0
 ·have d0:decide (l<0)=true:=Zpv hn
  have d1:decide (0<l)=false:=Zpu (by omega);have wn:wrap64 (-l)= -l:=by unfold wrap64;omega
  have mw:(l.natAbs:Int)= -l:=by omega
  rw[d1,mw];rw[mw]at q;clear d1 fT;generalize Zau a (-l)=B at *;replace e0:=Zpe e0;replace hn:=Zpe hn;replace mw:=Zpe mw
  go_enter Tryz.func209,Tryz.ntmps209
  go_wp2_with fail;rw[←aD];replace aD:=Zpe aD
  try go_wp2_with fail
  refine q.mono ?_;rintro e w2 ⟨rfl,aF⟩;go_wp2_with fail;go_ret;exact⟨by cases B <;> rfl,aC.trans aF⟩
 ·have d0:decide (l<0)=false:=Zpu hn
  have d1:decide (0<l)=true:=Zpv (by omega);have mw:(l.natAbs:Int)=l:=by omega
  rw[d1,mw];rw[mw]at q;clear d1 fT;generalize Zau a l=B at *;replace e0:=Zpe e0;replace hn:=Zpe hn;replace mw:=Zpe mw
  go_enter Tryz.func209,Tryz.ntmps209
  go_wp2_with fail;rw[←aD];replace aD:=Zpe aD
  try go_wp2_with fail
  refine q.mono ?_;rintro e w2 ⟨rfl,aF⟩;go_wp2_with fail;go_ret;exact⟨by cases B <;> rfl,aC.trans aF⟩
theorem Zoj{B:List Bool}(h:B.length=1):(!(B.getD 0 false))= !(B.any id):=by
 match B,h with
 | [b],_=>cases b <;> rfl
theorem Zoi{B:List Bool}(h:B.length=2):(B.getD 0 false ==B.getD 1 false)= !(B.foldl (fun o y=>o !=y) false):=by
 match B,h with
 | [b,c],_=>cases b <;> cases c <;> rfl
theorem ZmC{B:List Bool}{m:Nat}(h:m<B.length):(B.take (m+1)).all id=((B.take m).all id && B[m]):=by
 rw[List.take_succ_eq_append_getElem h,List.all_append];simp
theorem ZmD{B:List Bool}{m:Nat}(h:m<B.length):(B.take (m+1)).any id=((B.take m).any id || B[m]):=by
 rw[List.take_succ_eq_append_getElem h,List.any_append];simp
theorem ZmE{B:List Bool}{m:Nat}(h:m<B.length):(B.take (m+1)).foldl (fun o y=>o !=y) false=((B.take m).foldl (fun o y=>o !=y) false !=B[m]):=by
 rw[List.take_succ_eq_append_getElem h,List.foldl_append];simp
theorem Zj0{n kd lt:Int}{ip:List Int}{bb:Option Addr}{cc:Nat}{i:Nat}{w:World}(a:Zak){vb:Option Addr}{vc:Nat}{bs:List Bool}(hn:n≤128)(nQ:SlI w (.slice bb ip.length cc) ip)(iK:∀j (hj:j<bs.length),∃b o,vb=some ⟨b,o,none⟩∧w.cell? ⟨b,o+j,none⟩=some (.bool bs[j]))
  (aq:L.gOk n bs.length ⟨kd,lt,ip⟩=true) (fq:ip.length≤200) (li:bs.length≤5000) :
  Calls Tryz.prog 181 #[.agg #[.int .i64 kd,.int .i64 lt,.slice bb ip.length cc],.agg #[.int .u64 (lo a),.int .u64 (hi a)],.slice vb bs.length vc] w fun e w'=>e= .returned (.bool (L.gVal ⟨kd,lt,ip⟩ (L.gIns ⟨kd,lt,ip⟩ bs) (L.asg a)))∧Ext w w':=by
 obtain⟨eQ,bG⟩:=ZgQ aq;have jQ:=fun h:kd=2=>L.validB_range hn (ZeP aq h)
 dsimp only at eQ bG jQ
 have my:(L.gIns ⟨kd,lt,ip⟩ bs).length=ip.length:=by unfold L.gIns;rw[List.length_map]
 have oD:∀j (hj:j<ip.length),∃u:Nat,ip[j]=(u:Int)∧∃hu:u<bs.length,(L.gIns ⟨kd,lt,ip⟩ bs)[j]? =some bs[u]:=fun j hj=>by
  obtain⟨h0,h1⟩:=bG _ (Zpz hj);refine⟨ip[j].toNat,by omega,by omega,?_⟩;unfold L.gIns;rw[List.getElem?_map,Zpl hj]
  show some (bs.getD (ip[j].toNat) false)=_
  rw[Zpt,Zpl (by omega)]
  rfl
 obtain⟨B,hB⟩:∃B,B=L.gIns ⟨kd,lt,ip⟩ bs:=⟨_,rfl⟩;simp only[←hB]at my oD ⊢;have aC:Ext w ((w.alloc (.cells #[.int .i64 kd,.int .i64 lt,.slice bb ip.length cc] 166)).alloc (.cells #[.int .u64 (lo a),.int .u64 (hi a)] 41)):=((Ext.refl w).alloc _).alloc _;obtain⟨e0,e1⟩:=ZbB w (.cells #[.int .i64 kd,.int .i64 lt,.slice bb ip.length cc] 166) (.cells #[.int .u64 (lo a),.int .u64 (hi a)] 41);obtain⟨w1,aD⟩:∃W,W=(w.alloc (.cells #[.int .i64 kd,.int .i64 lt,.slice bb ip.length cc] 166)).alloc (.cells #[.int .u64 (lo a),.int .u64 (hi a)] 41):=⟨_,rfl⟩;rw[←aD]at e0 e1 aC;have k0:w1.cell? ⟨w.heap.size,0,none⟩=some (.int .i64 kd):=by rw[World.cell?,e0];rfl
 have k1:w1.cell? ⟨w.heap.size,1,none⟩=some (.int .i64 lt):=by rw[World.cell?,e0];rfl
 have k2:w1.cell? ⟨w.heap.size,2,none⟩=some (.slice bb ip.length cc):=by rw[World.cell?,e0];rfl
 have s0:w1.cell? ⟨w.heap.size+1,0,none⟩=some (.int .u64 (lo a)):=by rw[World.cell?,e1];rfl
 have s1:w1.cell? ⟨w.heap.size+1,1,none⟩=some (.int .u64 (hi a)):=by rw[World.cell?,e1];rfl
 have cw:∀j (hj:j<ip.length),∃b o,bb=some ⟨b,o,none⟩∧w1.cell? ⟨b,o+j,none⟩=some (.int .i64 ip[j]):=fun j hj=>by
  obtain⟨ba,cp,e,h⟩:=nQ
  cases e
  rcases h with ⟨_,h,_⟩|⟨b,o,h1,h2⟩
  ·rw[h]at hj;simp at hj
  ·exact⟨b,o,h1,aC.cell (h2 j hj)⟩
 have bI:∀j (hj:j<bs.length),∃b o,vb=some ⟨b,o,none⟩∧w1.cell? ⟨b,o+j,none⟩=some (.bool bs[j]):=fun j hj=>by
  obtain⟨b,o,h1,h2⟩:=iK j hj;exact⟨b,o,h1,aC.cell h2⟩
 have qh:=fun (h:kd=2)=>Zjx (l:=lt) (by have:=jQ h;omega) (by have:=jQ h;omega) a w1
 replace cw:=Zpe cw;replace bI:=Zpe bI;replace oD:=Zpe oD;replace my:=Zpe my;replace hB:=Zpe hB;replace qh:=Zpe qh;replace aC:=Zpe aC;clear e0 e1 nQ iK aq bG jQ
 go_enter Tryz.func181,Tryz.ntmps181
 go_wp2_with fail;rw[←aD];replace aD:=Zpe aD
 try go_wp2_with fail
 go_loopw [7,8,9,10] (fun al an od i wr=>wr=w1∧∃(m:Nat) (A Y O:Bool),m≤ip.length∧al= .bool A∧an= .bool Y∧od= .bool O∧i= .int .i64 (m:Nat)∧Hid (A=(B.take m).all id∧Y=(B.take m).any id∧O=(B.take m).foldl (fun o y=>o !=y) false)) (fun _ _ _ i _=>ip.length - (intOf i).toNat)
 case atStart=>exact⟨rfl,0,true,false,false,Nat.zero_le _,rfl,rfl,rfl,rfl,Zpe ⟨rfl,rfl,rfl⟩⟩
 case round =>
  obtain⟨rfl,m,A,Y,O,hm,rfl,rfl,rfl,rfl,hI⟩:=hrel;have g0:(0:Int)≤(m:Int):=by omega
  by_cases en:m<ip.length
  ·have g1:(m:Int)<(ip.length:Int):=by omega
   have d0:decide ((m:Int)<(ip.length:Int))=true:=Zpv g1;have uP:m<B.length:=by rw[my.out];exact en
   obtain⟨b,o,rfl,f0⟩:=cw.out m en;obtain⟨u,hu,hub,oE⟩:=oD.out m en;have rA:B[m]=bs[u]:=by rw[Zpl uP]at oE;exact Option.some.inj oE
   clear oE;obtain⟨vbb,vo,rfl,f1⟩:=bI.out u hub;rw[hu]at f0;have g2:(0:Int)≤(u:Int):=by omega
   have g3:(u:Int)<(bs.length:Int):=by omega
   have hA:=ZmC uP;have hY:=ZmD uP;have hO:=ZmE uP;rw[rA,←hI.out.1]at hA;rw[rA,←hI.out.2.1]at hY;rw[rA,←hI.out.2.2]at hO;generalize bs[u]=x at *;replace hu:=Zpe hu;replace rA:=Zpe rA;have ag:=Zpe (And.intro hA.symm (And.intro hY.symm hO.symm));clear hA hY hO hI
   cases A <;> cases Y <;> cases O <;> cases x
   all_goals
    go_wp2_with fail;go_roundw
    case rel=>exact⟨trivial,m+1,_,_,_,by omega,rfl,rfl,rfl,by go_num,ag⟩
    case measure=>simp[intOf];omega
  ·obtain rfl:m=ip.length:=by omega
   have d0:decide ((ip.length:Int)<(ip.length:Int))=false:=Zpu (by omega);have ht:B.take ip.length=B:=by rw[←my.out,List.take_length]
   rw[ht]at hI;replace ht:=Zpe ht;obtain⟨hA,hY,hO⟩:=hI.out;replace hA:=Zpe hA;replace hY:=Zpe hY;replace hO:=Zpe hO;clear hI;have ix:=Zd4 eQ;clear eQ;rcases ix with ⟨rfl|rfl|rfl,cO⟩|⟨rfl,aX⟩|⟨rfl,aX⟩|⟨rfl,aX⟩|rfl|rfl|rfl
   ·go_wp2_with fail
    go_ret;exact⟨rfl,aC.out⟩
   ·go_wp2_with fail
    go_ret;exact⟨rfl,aC.out⟩
   ·have q:=qh.out rfl
    go_wp2_with fail;refine q.mono ?_;rintro e w3 ⟨rfl,aR⟩;go_wp2_with fail;go_ret;exact⟨rfl,aC.out.trans aR⟩
   ·have hr:Hid (L.gVal ⟨3,lt,ip⟩ B (L.asg a)= !Y):=Zpe (by rw[hY.out];exact Zoj (by rw[my.out];exact aX))
    go_wp2_with fail;go_ret;exact⟨by rw[hr.out] <;> rfl,aC.out⟩
   ·have hr:Hid (L.gVal ⟨7,lt,ip⟩ B (L.asg a)= !O):=Zpe (by rw[hO.out];exact Zoi (by rw[my.out];exact aX))
    go_wp2_with fail;go_ret;exact⟨by rw[hr.out] <;> rfl,aC.out⟩
   ·obtain⟨b,o,rfl,f0⟩:=cw.out 0 (by omega)
    obtain⟨_,_,e1,f1⟩:=cw.out 1 (by omega)
    cases e1
    obtain⟨_,_,e2,f2⟩:=cw.out 2 (by omega)
    cases e2
    obtain⟨u0,hu0,yF,td⟩:=oD.out 0 (by omega);obtain⟨u1,hu1,yG,jy⟩:=oD.out 1 (by omega);obtain⟨u2,uX,yH,fN⟩:=oD.out 2 (by omega);obtain⟨vbb,vo,rfl,v0⟩:=bI.out u0 yF;obtain⟨_,_,e1,v1⟩:=bI.out u1 yG
    cases e1
    obtain⟨_,_,e2,v2⟩:=bI.out u2 yH
    cases e2
    rw[hu0,Nat.add_zero]at f0;rw[hu1]at f1;rw[uX]at f2;have qy:B.length=3:=by rw[my.out];exact aX
    have hr:L.gVal ⟨8,lt,ip⟩ B (L.asg a)=((bs[u0] && bs[u1]) || (!bs[u0] && bs[u2])):=by
     show ((B.getD 0 false && B.getD 1 false) || (!(B.getD 0 false) && B.getD 2 false))=_
     simp only[Zpt,td,jy,fN]
     rfl
    have q0:(0:Int)<(ip.length:Int):=by omega
    have q1:(1:Int)<(ip.length:Int):=by omega
    have q2:(2:Int)<(ip.length:Int):=by omega
    have p0:(u0:Int)<(bs.length:Int):=by omega
    have p1:(u1:Int)<(bs.length:Int):=by omega
    have p2:(u2:Int)<(bs.length:Int):=by omega
    generalize bs[u0]=x0 at *;generalize bs[u1]=x1 at *;generalize bs[u2]=x2 at *;replace hr:=Zpe hr;replace aX:=Zpe aX;replace qy:=Zpe qy;clear td jy fN hu0 hu1 uX
    cases x0
    ·go_wp2_with fail
     go_ret;exact⟨by rw[hr.out] <;> simp,aC.out⟩
    ·cases x1
     ·go_wp2_with fail
      go_ret;exact⟨by rw[hr.out] <;> simp,aC.out⟩
     ·go_wp2_with fail
      go_ret;exact⟨by rw[hr.out] <;> simp,aC.out⟩
   ·have hr:Hid (L.gVal ⟨4,lt,ip⟩ B (L.asg a)=A):=Zpe (by rw[hA.out];rfl)
    go_wp2_with fail;go_ret;exact⟨by rw[hr.out] <;> rfl,aC.out⟩
   ·have hr:Hid (L.gVal ⟨5,lt,ip⟩ B (L.asg a)=Y):=Zpe (by rw[hY.out];rfl)
    go_wp2_with fail;go_ret;exact⟨by rw[hr.out] <;> rfl,aC.out⟩
   ·have hr:Hid (L.gVal ⟨6,lt,ip⟩ B (L.asg a)=O):=Zpe (by rw[hO.out];rfl)
    go_wp2_with fail;go_ret;exact⟨by rw[hr.out] <;> rfl,aC.out⟩
def vB (b:Bool):Value:=.bool b
theorem Zha{w:World}{base:Nat}{v:Value}{bs:List Bool}(h:w.ownsRow base 4 1 v bs.length (bs.map vB)):∃ba cap,v= .slice ba bs.length cap∧∀j (hj:j<bs.length),∃b o,ba=some ⟨b,o,none⟩∧w.cell? ⟨b,o+j,none⟩=some (.bool bs[j]):=by
 obtain⟨_,⟨rfl,e⟩|⟨g,cap,cur,rfl,bk,bV,hn,hm,aO,ht⟩⟩:=h
 ·have:bs=[]:=List.length_eq_zero_iff.1 e
  subst this;exact⟨none,0,rfl,fun j hj=>by simp at hj⟩
 ·refine⟨_,cap,rfl,fun j hj=>⟨g,0,rfl,?_⟩⟩
  have h1:(bs.map vB)[j]? =some (vB bs[j]):=by rw[List.getElem?_map,Zpl hj];rfl
  rw[←ht,List.getElem?_take]at h1
  split at h1
  ·have h2:cur[j]? =some (vB bs[j]):=by simpa using h1
   simp[World.cell?,bV,h2,vB]
  ·simp at h1
def EL7 (w:World)(n:Int)(u:Value)(a:Zak)(C:List L.Gt)(k:Nat)(v:Value)(W:World):Prop :=
 W.heap[w.heap.size]? =some (.cells #[.int .i64 n,u] 84 (0,0))∧W.heap[w.heap.size+1]? =some (.cells #[.int .u64 (lo a),.int .u64 (hi a)] 41 (0,0))∧W.ownsRow w.heap.size 4 1 v (L.ciVals (C.take k) (L.asg a)).length ((L.ciVals (C.take k) (L.asg a)).map vB)∧Below w.heap.size w W
theorem Zhc{n:Nat}{C:List L.Gt}{v:Value}{w:World}(hv:SlC w v C)(h2:∀g∈C,g.inp.length≤200)(aq:L.ciChk n C=0)(a:Zak)(ha:∀u,Zau a u=true→u≤n) :
  Calls Tryz.prog 122 #[.agg #[.int .i64 (n:Nat),v],.agg #[.int .u64 (lo a),.int .u64 (hi a)]] w fun e w'=>e= .returned (.bool (L.ciφ C (L.asg a)))∧Below w.heap.size w w':=by
 obtain⟨i0,cX,bB,ak,bE⟩:=info_parts ZeT;obtain⟨⟨cO,aX⟩,hT,_,aH,aN⟩:=L.ciChk_ok.1 aq;obtain⟨ba,cp,rfl,aO⟩:=hv.shape;obtain⟨e0,e1⟩:=ZbB w (.cells #[.int .i64 (n:Nat),.slice ba C.length cp] 84) (.cells #[.int .u64 (lo a),.int .u64 (hi a)] 41);have aF:Ext w ((w.alloc (.cells #[.int .i64 (n:Nat),.slice ba C.length cp] 84)).alloc (.cells #[.int .u64 (lo a),.int .u64 (hi a)] 41)):=((Ext.refl w).alloc _).alloc _;obtain⟨w2,cA⟩:∃W,W=(w.alloc (.cells #[.int .i64 (n:Nat),.slice ba C.length cp] 84)).alloc (.cells #[.int .u64 (lo a),.int .u64 (hi a)] 41):=⟨_,rfl⟩;rw[←cA]at e0 e1 aF
 have ao:∀V,Below w2.heap.size w2 V→(V.cell? ⟨w.heap.size,0,none⟩=some (.int .i64 (n:Nat))∧V.cell? ⟨w.heap.size,1,none⟩=some (.slice ba C.length cp))∧V.cell? ⟨w.heap.size+1,0,none⟩=some (.int .u64 (lo a))∧V.cell? ⟨w.heap.size+1,1,none⟩=some (.int .u64 (hi a)):=fun V h=>by
  have f0:=(h.block _ (Zpi e0).1).trans e0;have f1:=(h.block _ (Zpi e1).1).trans e1;exact⟨⟨by rw[World.cell?,f0];rfl,by rw[World.cell?,f0];rfl⟩,by rw[World.cell?,f1];rfl,by rw[World.cell?,f1];rfl⟩
 have qc:=fun (W:World) (h:Below w2.heap.size w2 W)=>Zbg (n:=n) ((hv.ext aF.below).ext h) (by omega) h2
 have qA:=fun W=>ZfO n (by omega) W
 have qS:=fun W=>ZfP a (ZhA n) true ⟨fun _ u hu=>(ZcE u n (by omega)).2 ⟨(L.hasS_range hu).1,ha u hu⟩,fun _=>rfl⟩ W
 obtain⟨N,hN⟩:∃N,C.length=N+1:=⟨C.length - 1,by have:=List.length_pos_iff.2 aH;omega⟩;have p7:IntKind.i64.wrap ((C.length:Int) - 1)=(N:Int):=by rw[IntWalk.i64_in _ (by omega)];omega
 have hNz:(0:Int)≤(N:Int):=by omega
 have oN:(N:Int)<(C.length:Int):=by omega
 replace hN:=Zpe hN;simp only[aq]at qc;replace aq:=Zpe aq;replace ao:=Zpe ao;replace qc:=Zpe qc;replace qA:=Zpe qA;replace qS:=Zpe qS;replace e0:=Zpe e0;replace e1:=Zpe e1;replace aO:=Zpe aO;replace h2:=Zpe h2;replace aN:=Zpe aN;replace ha:=Zpe ha;replace aF:=Zpe aF;have ik:=Zpe ((Zpr w2.heap.size w2).drew);clear hv aH
 go_enter Tryz.func122,Tryz.ntmps122
 go_wp2_with fail;rw[←cA];replace cA:=Zpe cA
 try go_wp2_with fail
 (refine wp_region_held_drew (S:=(fun V=>(V.cell? ⟨w.heap.size,0,none⟩=some (.int .i64 (n:Nat))∧V.cell? ⟨w.heap.size,1,none⟩=some (.slice ba C.length cp))∧V.cell? ⟨w.heap.size+1,0,none⟩=some (.int .u64 (lo a))∧V.cell? ⟨w.heap.size+1,1,none⟩=some (.int .u64 (hi a)))) (by kernel_rfl) ?_ (fun aA=>?_))
 ·exact ao.out _ ik.out
 (refine ZpE (i:=0) (v:=?_) rfl (by kernel_rfl) (fun _ _ _ h=>h) (Or.inl ⟨by rfl,?_⟩) (by assumption) ?_);rotate_left
 ·(intro w aB;(try dsimp only at aB);go_simp;first|done|with_reducible rfl)
 (try simp only[Act.put,Zpf,Zpg,Zph]);(refine wpAnyH_ready (rs:=[1]) (by kernel_rfl) (by simp) ?_);(refine Zaw rfl (fun K hK=>?_))
 ((rw[if_pos (by rfl)]);go_simp;(go_at_call 53);refine(qc.out _ ik.out).mono ?_;rintro e w3 ⟨rfl,aR⟩;have kI:=Zpe (ik.out.trans (aR.below.mono ik.out.size));refine hK.out _ _ (ao.out _ kI.out) (fun aA=>?_);clear aR)
 (clear hK K)
 (try simp only[Act.put,Zpf,Zpg,Zph]);(refine ZpE (i:=2) (v:=?_) rfl (by kernel_rfl) (fun _ _ _ h=>h) (Or.inl ⟨by rfl,?_⟩) (by assumption) ?_);rotate_left
 ·(intro w aB;(try dsimp only at aB);go_simp;first|done|with_reducible rfl)
 (try simp only[Act.put,Zpf,Zpg,Zph]);(refine ZpE (i:=3) (v:=?_) rfl (by kernel_rfl) (fun _ _ _ h=>h) (Or.inl ⟨by rfl,?_⟩) (by assumption) ?_);rotate_left
 ·(intro w aB;(try dsimp only at aB);go_simp;first|done|with_reducible rfl)
 (try simp only[Act.put,Zpf,Zpg,Zph]);(refine ZpE (i:=4) (v:=?_) rfl (by kernel_rfl) (fun _ _ _ h=>h) (Or.inl ⟨by rfl,?_⟩) (by assumption) ?_);rotate_left
 ·(intro w aB;(try dsimp only at aB);go_simp;first|done|with_reducible rfl)
 (try simp only[Act.put,Zpf,Zpg,Zph]);(refine ZpE (i:=5) (v:=?_) rfl (by kernel_rfl) (fun _ _ _ h=>h) (Or.inl ⟨by rfl,?_⟩) (by assumption) ?_);rotate_left
 ·(intro w aB;(try dsimp only at aB);go_simp;first|done|with_reducible rfl)
 (try simp only[Act.put,Zpf,Zpg,Zph]);(refine ZpE (i:=6) (v:=?_) rfl (by kernel_rfl) (fun _ _ _ h=>h) (Or.inl ⟨by rfl,?_⟩) (by assumption) ?_);rotate_left
 ·(intro w aB;(try dsimp only at aB);go_simp;first|done|with_reducible rfl)
 (try simp only[Act.put,Zpf,Zpg,Zph]);(refine wpAnyH_ready (rs:=[7]) (by kernel_rfl) (by simp) ?_);(refine Zaw rfl (fun K hK=>?_))
 ((rw[if_pos (by rfl)]);go_simp;(go_at_call 93);refine(qA.out _).mono ?_;rintro e w4 ⟨rfl,ah⟩;have fh:=Zpe (kI.out.trans (ah.mono kI.out.size));refine hK.out _ _ (ao.out _ fh.out) (fun aA=>?_);clear ah)
 (clear hK K)
 (try simp only[Act.put,Zpf,Zpg,Zph]);(refine wpAnyH_ready (rs:=[8]) (by kernel_rfl) (by simp) ?_);(refine Zaw rfl (fun K hK=>?_))
 ((rw[if_pos (by rfl)]);go_simp;(go_at_call 83);refine(qS.out _).mono ?_;rintro e w5 ⟨rfl,eW⟩;have fj:=Zpe (fh.out.trans (eW.mono fh.out.size));refine hK.out _ _ (ao.out _ fj.out) (fun aA=>?_);clear eW)
 (clear hK K)
 (try simp only[Act.put,Zpf,Zpg,Zph]);(refine ZpE (i:=9) (v:=?_) rfl (by kernel_rfl) (fun _ _ _ h=>h) (Or.inl ⟨by rfl,?_⟩) (by assumption) ?_);rotate_left
 ·(intro w aB;(try dsimp only at aB);go_simp;first|done|with_reducible rfl)
 (try simp only[Act.put,Zpf,Zpg,Zph]);(refine ZpE (i:=10) (v:=?_) rfl (by kernel_rfl) (fun _ _ _ h=>h) (Or.inl ⟨by rfl,?_⟩) (by assumption) ?_);rotate_left
 ·(intro w aB;(try dsimp only at aB);go_simp;first|done|with_reducible rfl)
 (try simp only[Act.put,Zpf,Zpg,Zph]);(refine wpAnyH_done (by kernel_rfl) ?_ _);clear aA;have l7:Hid (EL7 w n (.slice ba C.length cp) a C 0 (.slice none 0 0) w5):=Zpe ⟨(fj.out.block _ (Zpi e0.out).1).trans e0.out,(fj.out.block _ (Zpi e1.out).1).trans e1.out,⟨rfl,.inl ⟨rfl,rfl⟩⟩,aF.out.below.trans (fj.out.mono aF.out.size)⟩;go_wp2_with fail
 go_loopw [5,6] (fun s i wr=>∃k:Nat,k≤C.length∧i= .int .i64 (k:Nat)∧Hid (EL7 w n (.slice ba C.length cp) a C k s wr)) (fun _ i _=>C.length - (intOf i).toNat)
 case atStart=>exact⟨0,Nat.zero_le _,rfl,l7⟩
 case round =>
  clear l7;obtain⟨k,hk,rfl,hI⟩:=hrel;obtain⟨hB,hZ,hO,hb⟩:=hI.out;have d1:wr.cell? ⟨w.heap.size,1,none⟩=some (.slice ba C.length cp):=by rw[World.cell?,hB];rfl
  have g0:(0:Int)≤(k:Int):=by omega
  have bh:(L.ciVals (C.take k) (L.asg a)).length=k:=by rw[L.ciVals_len,List.length_take];omega
  by_cases aE:k<C.length
  ·have g1:(k:Int)<(C.length:Int):=by omega
   have d0:decide ((k:Int)<(C.length:Int))=true:=Zpv g1;obtain⟨b,o,bb,cc,rfl,f0,f1,f2,fin⟩:=aO.out k aE;have fA:=aN.out k aE;have hm:=h2.out _ (Zpz aE);have bN:L.ciVals (C.take (k+1)) (L.asg a)=L.ciVals (C.take k) (L.asg a)++[L.gVal C[k] (L.gIns C[k] (L.ciVals (C.take k) (L.asg a))) (L.asg a)]:=by rw[List.take_succ_eq_append_getElem aE,L.ciVals_snoc]
   generalize C[k]=g at *;obtain⟨kd,lt,ip⟩:=g
   dsimp only at *
   clear aO
   have hS:=fun (V:World) (h:Below wr.heap.size wr V)=>show (V.cell? ⟨w.heap.size,1,none⟩=some (.slice (some ⟨b,o,none⟩) C.length cp)∧V.cell? ⟨w.heap.size+1,0,none⟩=some (.int .u64 (lo a))∧V.cell? ⟨w.heap.size+1,1,none⟩=some (.int .u64 (hi a)))∧V.cell? ⟨b,o+k*3,none⟩=some (.int .i64 kd)∧V.cell? ⟨b,o+k*3+1,none⟩=some (.int .i64 lt)∧V.cell? ⟨b,o+k*3+2,none⟩=some (.slice bb ip.length cc) from by
    have wS:=hb.trans (h.mono hb.size);have hBV:=(h.block _ (Zpi hB).1).trans hB;have hZV:=(h.block _ (Zpi hZ).1).trans hZ;exact⟨⟨by rw[World.cell?,hBV];rfl,by rw[World.cell?,hZV];rfl,by rw[World.cell?,hZV];rfl⟩,(wS.cell (Zpk _ _ f0)).trans f0,(wS.cell (Zpk _ _ f1)).trans f1,(wS.cell (Zpk _ _ f2)).trans f2⟩
   have aG:=fin.ext hb;obtain⟨bs,li⟩:∃bs,bs=L.ciVals (C.take k) (L.asg a):=⟨_,rfl⟩;rw[←li]at hO bh bN;obtain⟨vb,vc,rfl,iK⟩:=Zha hO;have hd:=Zpe ((Zpr wr.heap.size wr).drew);have q:=Zj0 (n:=n) (i:=k) (w:=wr.drew) (kd:=kd) (lt:=lt) (ip:=ip) (bb:=bb) (cc:=cc) a (vb:=vb) (vc:=vc) (bs:=bs) aX (aG.ext hd.out) (fun j hj=>by obtain⟨b,o,h1,h2⟩:=iK j hj;exact⟨b,o,h1,h2⟩) (by rw[bh];exact fA) hm (by omega);rw[bh]at q hO;obtain⟨x,hx⟩:∃x,x=L.gVal ⟨kd,lt,ip⟩ (L.gIns ⟨kd,lt,ip⟩ bs) (L.asg a):=⟨_,rfl⟩;rw[←hx]at q bN;replace hx:=Zpe hx;replace bN:=Zpe bN;replace li:=Zpe li;replace bh:=Zpe bh;replace hB:=Zpe hB;replace hZ:=Zpe hZ;replace hO:=Zpe hO;replace hS:=Zpe hS;replace iK:=Zpe iK;replace aG:=Zpe aG;replace fA:=Zpe fA;clear fin;rw[bh.out];generalize ip.length=M at *;go_wp2_with fail;(refine wp_region_held_drew (S:=(fun V=>(V.cell? ⟨w.heap.size,1,none⟩=some (.slice (some ⟨b,o,none⟩) C.length cp)∧V.cell? ⟨w.heap.size+1,0,none⟩=some (.int .u64 (lo a))∧V.cell? ⟨w.heap.size+1,1,none⟩=some (.int .u64 (hi a)))∧V.cell? ⟨b,o+k*3,none⟩=some (.int .i64 kd)∧V.cell? ⟨b,o+k*3+1,none⟩=some (.int .i64 lt)∧V.cell? ⟨b,o+k*3+2,none⟩=some (.slice bb M cc))) (by kernel_rfl) ?_ (fun aA=>?_))
   ·exact hS.out _ hd.out
   (refine ZpE (i:=0) (v:=?_) rfl (by kernel_rfl) (fun _ _ _ h=>h) (Or.inl ⟨by rfl,?_⟩) (by assumption) ?_);rotate_left
   ·(intro w aB;(try dsimp only at aB);go_simp;first|done|with_reducible rfl)
   (try simp only[Act.put,Zpf,Zpg,Zph]);(refine ZpE (i:=1) (v:=?_) rfl (by kernel_rfl) (fun _ _ _ h=>h) (Or.inl ⟨by rfl,?_⟩) (by assumption) ?_);rotate_left
   ·(intro w aB;(try dsimp only at aB);go_simp;first|done|with_reducible rfl)
   (try simp only[Act.put,Zpf,Zpg,Zph]);(refine ZpE (i:=2) (v:=?_) rfl (by kernel_rfl) (fun _ _ _ h=>h) (Or.inl ⟨by rfl,?_⟩) (by assumption) ?_);rotate_left
   ·(intro w aB;(try dsimp only at aB);go_simp;first|done|with_reducible rfl)
   (try simp only[Act.put,Zpf,Zpg,Zph]);(refine ZpE (i:=3) (v:=?_) rfl (by kernel_rfl) (fun _ _ _ h=>h) (Or.inl ⟨by rfl,?_⟩) (by assumption) ?_);rotate_left
   ·(intro w aB;(try dsimp only at aB);go_simp;first|done|with_reducible rfl)
   (try simp only[Act.put,Zpf,Zpg,Zph]);(refine ZpE (i:=4) (v:=?_) rfl (by kernel_rfl) (fun _ _ _ h=>h) (Or.inl ⟨by rfl,?_⟩) (by assumption) ?_);rotate_left
   ·(intro w aB;(try dsimp only at aB);go_simp;first|done|with_reducible rfl)
   (try simp only[Act.put,Zpf,Zpg,Zph]);(refine ZpE (i:=5) (v:=?_) rfl (by kernel_rfl) (fun _ _ _ h=>h) (Or.inl ⟨by rfl,?_⟩) (by assumption) ?_);rotate_left
   ·(intro w aB;(try dsimp only at aB);go_simp;first|done|with_reducible rfl)
   (try simp only[Act.put,Zpf,Zpg,Zph]);(refine ZpE (i:=6) (v:=?_) rfl (by kernel_rfl) (fun _ _ _ h=>h) (Or.inl ⟨by rfl,?_⟩) (by assumption) ?_);rotate_left
   ·(intro w aB;(try dsimp only at aB);go_simp;first|done|with_reducible rfl)
   (try simp only[Act.put,Zpf,Zpg,Zph]);(refine ZpE (i:=7) (v:=?_) rfl (by kernel_rfl) (fun _ _ _ h=>h) (Or.inl ⟨by rfl,?_⟩) (by assumption) ?_);rotate_left
   ·(intro w aB;(try dsimp only at aB);go_simp;first|done|with_reducible rfl)
   (try simp only[Act.put,Zpf,Zpg,Zph]);(refine wpAnyH_ready (rs:=[8]) (by kernel_rfl) (by simp) ?_);(refine Zaw rfl (fun K hK=>?_))
   ((rw[if_pos (by rfl)]);go_simp;(go_at_call 181);refine q.mono ?_;rintro e w6 ⟨rfl,eX⟩;have gS:=Zpe (hd.out.trans (eX.below.mono hd.out.size));refine hK.out _ _ (hS.out _ gS.out) (fun aA=>?_);clear eX)
   (clear hK K)
   (try simp only[Act.put,Zpf,Zpg,Zph]);have ha7:Below w6.heap.size w6 (w6.alloc (.cells #[.bool x] 4)):=(Zpr _ w6).alloc (ZpD _) _;have bY:(w6.alloc (.cells #[.bool x] 4)).heap[w6.heap.size]? =some (.cells #[.bool x] 4):=Zpm w6 _;have ey:=gS.out.trans (ha7.mono gS.out.size);have lD:=Za0 hO.out (fun g c h=>ey.block g (Zpi h).1);have mO:=World.news_of_block (cs:=#[.bool x]) (t:=4) (fr:=(0,0)) bY;(refine wpAnyH_ready (rs:=[9]) (by kernel_rfl) (by simp) ?_);(refine Zaw rfl (fun K hK=>?_))
   ((rw[if_pos (by rfl)]);go_simp;refine hK.out _ _ (hS.out _ ey) (fun aA=>?_))
   (clear hK K)
   (try simp only[Act.put,Zpf,Zpg,Zph]);obtain⟨wd,p6⟩:∃W,W=w6.alloc (.cells #[.bool x] 4):=⟨_,rfl⟩;rw[←p6]at ha7 bY lD mO ey ⊢;replace p6:=Zpe p6;have ja:=hb.trans (ey.mono hb.size);(refine wpAnyH_ready (rs:=[10]) (by kernel_rfl) (by simp) ?_);(refine Zaw rfl (fun K hK=>?_))
   ((rw[if_pos (by rfl)]);refine wp_append_own _ _ _ 46 rfl w.heap.size 4 i0 (.bool false) 1 1 Tryz.underlying46 cX bB ak bE rfl (by decide) (.slice vb k vc) k (bs.map vB) rfl lD ⟨w6.heap.size,0,none⟩ 1 1 [.bool x] rfl rfl mO (by simp[Value.oneCell']) (by unfold maxLen;omega) (by omega) ja.size (fun v8 w8 ho8 uH _=>?_);have gO:=(ey.block _ (Zpi hB.out).1).trans hB.out;have vK:=(ZaY lD uH gO (by decide)).trans gO;have kZ:=(ey.block _ (Zpi hZ.out).1).trans hZ.out;have tq:=(ZaY lD uH kZ (by decide)).trans kZ;have j9:Below w.heap.size w w8:=Below.grown ja uH ja.size (fun k e=>Zbc lD e);refine hK.out _ _ ⟨⟨(by simp[World.cell?,vK]),(by simp[World.cell?,tq]),(by simp[World.cell?,tq])⟩,(j9.cell (Zpk _ _ f0)).trans f0,(j9.cell (Zpk _ _ f1)).trans f1,(j9.cell (Zpk _ _ f2)).trans f2⟩ (fun aA=>?_))
   (clear hK K)
   (try simp only[Act.put,Zpf,Zpg,Zph]);have ag:Hid (EL7 w n (.slice (some ⟨b,o,none⟩) C.length cp) a C (k+1) v8 w8):=Zpe ⟨vK,tq,by rw[bN.out];exact ZaW ho8 (by rw[Zpo,bh.out];rfl) (by simp[vB]),j9⟩;clear ho8 uH gO kZ vK tq;(refine ZpE (i:=11) (v:=?_) rfl (by kernel_rfl) (fun _ _ _ h=>h) (Or.inl ⟨by rfl,?_⟩) (by assumption) ?_);rotate_left
   ·(intro w aB;(try dsimp only at aB);go_simp;first|done|with_reducible rfl)
   (try simp only[Act.put,Zpf,Zpg,Zph]);(refine wpAnyH_done (by kernel_rfl) ?_ _);clear aA;go_wp2_with fail;go_roundw
   case rel=>exact⟨k+1,by omega,by go_num,ag⟩
   case measure=>simp[intOf];omega
  ·obtain rfl:k=C.length:=by omega
   have d0:decide ((C.length:Int)<(C.length:Int))=false:=Zpu (by omega);rw[List.take_length]at hO bh;obtain⟨vb,vc,rfl,iK⟩:=Zha hO;obtain⟨vbb,vo,rfl,lj⟩:=iK N (by rw[bh];have:=hN.out;omega)
   have hr:Hid (L.ciφ C (L.asg a)=(L.ciVals C (L.asg a))[N]'(by rw[bh];have:=hN.out;omega)):=Zpe (by
    rw[L.ciφ_last,Zpt,Zpl (by rw[bh];have:=hN.out;omega)];simp only[hN.out,Nat.add_sub_cancel]
    rfl)
   generalize (L.ciVals C (L.asg a))[N]'(by rw[bh];have:=hN.out;omega)=x at *;rw[bh];replace bh:=Zpe bh;replace hB:=Zpe hB;replace hZ:=Zpe hZ;replace hO:=Zpe hO;replace iK:=Zpe iK;go_wp2_with fail;go_ret;exact⟨by rw[hr.out] <;> rfl,hb⟩
end Go.Proofs.YtmnjakejhbpkoaaGreatDoor
end
