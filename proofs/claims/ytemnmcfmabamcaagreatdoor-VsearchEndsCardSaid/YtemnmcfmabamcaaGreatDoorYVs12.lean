import Derived.Test.YtemnmcfmabamcaaGreatDoorYVq
set_option linter.unusedSimpArgs false
set_option linter.unusedVariables false
set_option maxRecDepth 100000
set_option maxHeartbeats 4000000
section
namespace Go.Proofs.YtemnmcfmabamcaaGreatDoor
open Go Go.RowKit Go.Shelf
theorem ZfX(a:List UInt8):(⟨a.toArray⟩:ByteArray)=Zco a:=rfl
noncomputable def shB (T:L.Tr) (t:List VN) (φ:L.Asg→Bool):ByteArray:=Zco (L.prT T)++Zco [32]++Zco (Zle t φ)
section
variable {T:L.Tr}{t:List VN}{φ:L.Asg→Bool}{sb r:Nat}{w:World}{l:List Int}
theorem ZmS(h:Zc0 t φ sb r w)(hI:L.IsT L.idc t (t.length - 1) T)(hp:Zaz w)(gq:(L.prT T).length≤100000):Calls Tryz.prog 29 #[.pointer (some ⟨sb,0,none⟩),.int .i64 (r:Nat)] w fun e w'=>e= .returned (.string (shB T t φ))∧Below w.heap.size w w':=by
 have hc:=h.chk;have q1:=h.tree;have q2:=fun W (hb:Below w.heap.size w W) (g cap:Nat) (ht:Zag W g 0 t)=>ZfN (cap:=cap) ht hc hI gq (hp.same (hb.block _ hp.lt))
 have q3:=fun W (hb:Below w.heap.size w W)=>(h.below hb).text
 have mZ:=ZoC h;have hA:=Zb7 (L.prT T);have hB:=Zb7 (Zle t φ);have az:(Zco (L.prT T)).size+1+(Zco (Zle t φ)).size≤5000000:=by omega
 unfold shB;simp only[ZfX]at q2 q3;generalize Zco (L.prT T)=X at *;generalize Zco (Zle t φ)=Y at *;replace hA:=Zrr hA;replace hB:=Zrr hB;replace gq:=Zrr gq;replace mZ:=Zrr mZ;replace q2:=Zrr q2;replace q3:=Zrr q3
 go_enter Tryz.func29,Tryz.ntmps29
 go_wp2_with fail;refine q1.mono ?_;rintro e w1 ⟨g,cap,rfl,_,ht,aF⟩;have cZ:=q2.out w1 aF g cap ht;clear q1 ht;go_wp2_with fail;refine cZ.mono ?_;rintro e w2 ⟨rfl,aL⟩;have b2:=aF.trans (aL.mono aF.size);have q3':=q3.out w2 b2;clear cZ;go_wp2_with fail;refine q3'.mono ?_;rintro e w3 ⟨rfl,aU⟩;clear q3';go_wp2_with fail;go_ret;exact⟨rfl,b2.trans (aU.mono b2.size)⟩
end
def Znt (n:Nat):L.Asg→Bool:=fun y=>(List.range n).all fun i=>y ((i+1:Nat):Int)
theorem Zlx(n:Nat)(y:L.Asg):(Znt n y && Zn9 ((n+1:Nat):Int) y)=Znt (n+1) y:=by
 unfold Znt Zn9;rw[List.range_succ,List.all_append]
 congr 1
 simp only[List.all_cons,List.all_nil,Bool.and_true];rw[ZrI (by omega),show ((((n+1:Nat):Int).natAbs:Nat):Int)=((n+1:Nat):Int) by omega]
 cases y ((n+1:Nat):Int) <;> rfl
def Zq1 (wa:World)(t:List VN)(B:Zar)(w0:World)(r n:Nat)(wr:World):Prop:=∃so,SS t B w0 300000 so wr∧Val so r (Znt n)∧Below wa.heap.size wa wr
theorem Zlw{T:L.Tr}{l:List Int}{n:Nat}{w:World}(hT:ZbI T l)(hz:ZaY w)(hp:Zaz w)(hn:n≤4)(hv:∀i,i<n→((i+1:Nat):Int)∈T.vars) :
  Calls Tryz.prog 31 #[.string (Zco (L.prT T)),.int .i64 (n:Nat)] w fun e w'=>∃sb r:Nat,e= .returned (.tuple #[.pointer (some ⟨sb,0,none⟩),.int .i64 (r:Nat)])∧Zhq T (Znt n) sb r w'∧Below w.heap.size w w':=by
 have q1:=Zh2 (w:=w) hT.nd hT.range (by have:=hT.small;omega) hp;have q2:=fun W (hb:Below w.heap.size w W) (g cap:Nat) (ht:Zag W g 0 (T.post 0))=>ZpN W g 0 cap (hz.same (hb.block _ hz.lt')) (hp.same (hb.block _ hp.lt)) ht hT.chk (by have:=hT.len;omega)
 have tP:∀i,i<n→ZdI (T.post 0) ((i+1:Nat):Int):=fun i hi=>(hT.root.root_mem hT.chk _).1 (hv i hi)
 have h7:=hT.len;obtain⟨t,ht⟩:∃t,t=T.post 0:=⟨_,rfl⟩;unfold Zhq;rw[←ht]at q1 q2 tP h7 ⊢;simp only[ZfX]at q1;generalize Zco (L.prT T)=X at *;replace tP:=Zrr tP;replace q2:=Zrr q2;replace ht:=Zrr ht;replace hT:=Zrr hT;replace hv:=Zrr hv
 go_enter Tryz.func31,Tryz.ntmps31
 go_wp2_with fail;refine q1.mono ?_;rintro e w1 ⟨g,cap,rfl,_,dB,aF⟩;have cZ:=q2.out w1 aF g cap dB;clear q1 dB;go_wp2_with fail;refine cZ.mono ?_;rintro e w2 ⟨B,rfl,bB,_,qD,eY,aL⟩;have b2:=aF.trans (aL.mono aF.size);have h0:Hid (Zq1 w t B w2 1 0 w2):=Zrr ⟨_,bB,qD.congr fun y=>by simp[Znt],b2⟩;have hm:Hid (∀j∈B.mut,w.heap.size≤j):=Zrr fun j hj=>ZrC aF.size (eY j hj)
 replace b2:=Zrr b2;clear cZ bB qD eY aL aF;go_wp2_with fail
 go_loopw [10,11] (fun rv iv wr=>∃(r i:Nat),i≤n∧rv= .int .i64 (r:Nat)∧iv= .int .i64 ((i+1:Nat):Int)∧Hid (Zq1 w t B w2 r i wr)) (fun _ iv _=>n+1 - (intOf iv).toNat)
 case atStart=>exact⟨1,0,by omega,rfl,rfl,h0⟩
 case round =>
  clear h0;obtain⟨r,i,hi,rfl,rfl,hI⟩:=hrel;obtain⟨so,h1,h2,h3⟩:=hI.out;clear hI
  by_cases aD:i<n
  ·have dlt:decide ((i:Int)+1≤(n:Int))=true:=ZrI (by omega)
   have dlt':(i:Int)+1≤(n:Int):=by omega
   have ql:=Zn8 (l:=((i+1:Nat):Int)) h1 (by rw[show ((((i+1:Nat):Int).natAbs:Nat):Int)=((i+1:Nat):Int) by omega];exact tP.out i aD);go_wp2_with fail;refine ql.mono ?_;rintro e w4 ⟨r4,tU,rfl,dK,mx,tO⟩;have qa:=ZnB (k':=300000) (c:=0) dK (Zbm dK.chk h7).1 (by omega) (h2.step h1.inv mx) tO;replace dK:=Zrr dK;clear ql;go_wp2_with fail;refine qa.mono ?_;rintro e w5 ⟨r5,tV,rfl,bO,kL,jz⟩;have aA:Hid (Zq1 w t B w2 r5 (i+1) w5):=Zrr ⟨tV,bO,jz.congr fun y=>Zlx i y,bO.behind b2.out hm.out b2.out.size⟩;clear qa dK bO kL jz h1 h2 h3;go_wp2_with fail;go_roundw
   case rel=>exact⟨r5,i+1,by omega,rfl,by go_num,aA⟩
   case measure=>simp[intOf];omega
  ·have dlt:decide ((i:Int)+1≤(n:Int))=false:=ZrH (by omega)
   obtain rfl:i=n:=by omega
   obtain⟨B4,fC,gY,dK,_⟩:=h1.here;have aM:=Zc0.of dK h2;rw[fC]at aM;replace aM:=Zrr aM;clear h1 h2 dK gY;go_wp2_with fail;go_ret2;exact⟨B.sb,r,rfl,aM.out,h3⟩
theorem ZgN(w:World)(ba:Option Addr)(n cap bits:Nat)(p:Int):∃w1,w1=w.alloc (.cells #[.slice ba n cap,.int .u16 (bits:Nat),.int .i64 p] 26)∧Ext w w1∧w1.cell? ⟨w.heap.size,0,none⟩=some (.slice ba n cap)∧w1.cell? ⟨w.heap.size,1,none⟩=some (.int .u16 (bits:Nat))∧w1.cell? ⟨w.heap.size,2,none⟩=some (.int .i64 p):=by
 have hx:=Zrz w (.cells #[.slice ba n cap,.int .u16 (bits:Nat),.int .i64 p] 26);obtain⟨h0,h1,h2⟩:=Za5 hx;exact⟨_,rfl,(Ext.refl w).alloc _,h0,h1,h2⟩
theorem Zrf{x:Nat}(hx:x<65536)(m:Nat):(bits BinOp.and IntKind.u16 ((x:Int) / 2 ^ min m 16) 1 ==1)=x.testBit m:=by
 have h1:((x:Int) / 2 ^ min m 16)=((x / 2 ^ min m 16:Nat):Int):=by simp
 have h2:x / 2 ^ min m 16<65536:=Nat.lt_of_le_of_lt (Nat.div_le_self _ _) hx;have h3:=Zkk _ 1 h2 (by omega);rw[h1,show (1:Int)=((1:Nat):Int) from rfl,h3,Nat.and_one_is_mod]
 have key:∀y:Nat,((((y % 2:Nat):Int)) ==((1:Nat):Int))=decide (y % 2=1):=fun y=>by
  rw[Bool.eq_iff_iff,beq_iff_eq,decide_eq_true_iff];omega
 rw[key];rcases Nat.lt_or_ge m 16 with h|h
 ·rw[Nat.min_eq_left (by omega),Nat.testBit_eq_decide_div_mod_eq]
 ·rw[Nat.min_eq_right h]
  have e1:x / 2 ^ 16=0:=Nat.div_eq_of_lt (by omega);have e2:x.testBit m=false:=Nat.testBit_lt_two_pow (ZrD hx (ZrC (show 65536≤2 ^ 16 by decide) (Nat.pow_le_pow_right (n:=2) (by decide) h)));rw[e1,e2]
  rfl
theorem ZqT(i b:Nat)(hi:i<9223372036854775808):(bits BinOp.and IntKind.i64 ((i:Int) / 2 ^ b) 1 ==0)= !i.testBit b:=by
 have h1:((i:Int) / 2 ^ b)=((i / 2 ^ b:Nat):Int):=by simp
 have h2:i / 2 ^ b<9223372036854775808:=Nat.lt_of_le_of_lt (Nat.div_le_self _ _) hi;have h3:=ZhH _ 1 h2 (by omega);rw[h1,show (1:Int)=((1:Nat):Int) from rfl,h3,Nat.and_one_is_mod,Nat.testBit_eq_decide_div_mod_eq];rw[Bool.eq_iff_iff];simp;omega
theorem Zpx{t:List VN}(hf:ZnW t=true):∃(T:L.Tr) (l:List Int),Zae t=0∧t.length≤7∧Zf1 t=some l∧l.length≤6∧L.SortedBel t (t.length - 1) l∧L.IsT L.idc t (t.length - 1) T∧ZbI T l:=by
 obtain⟨h7,hc⟩:=Zkt hf;have t0:=(Zam hc).1;obtain⟨l,h1,h2,h3,_⟩:=Zj9 hc (by omega);obtain⟨T,hT⟩:=L.isT_exists hc t.length (t.length - 1) (by omega) (by omega);exact⟨T,l,hc,h7,h1,h2,h3,hT,Zp5 hc h7 h3 hT⟩
theorem ZqR{t:List VN}{l:List Int}(hl:L.SortedBel t (t.length - 1) l)(bits:Nat):L.tabO l (mdφ l bits (2 ^ l.length))=ZcV (2 ^ l.length) fun i=>bits.testBit i:=by
 unfold L.tabO;refine Zbk fun i aD=>?_
 unfold mdφ;rw[L.idxF_asgI hl.sorted aD,ZrI aD,Bool.true_and]
section
variable {t:List VN}{w:World}{ba:Option Addr}{cap bits:Nat}{p:Int}
theorem Zmc(h:t=[]∨∃b o,ba=some ⟨b,o,none⟩∧Zag w b o t):Calls Tryz.prog 11 #[.agg #[.slice ba t.length cap,.int .u16 (bits:Nat),.int .i64 p]] w fun e w'=>e= .returned (.bool (ZnW t))∧Ext w w':=by
 obtain⟨w1,fX,aK,c0,_,_⟩:=ZgN w ba t.length cap bits p
 by_cases h7:t.length≤7
 ·have d7:decide ((t.length:Int)≤7)=true:=ZrI (by omega)
  have q:=Zdv w1 ba cap (h.imp id fun ⟨b,o,e,ht⟩=>⟨b,o,e,ht.ext aK⟩) (by omega)
  have hf:ZnW t=(Zae t ==0):=by
   unfold ZnW;rw[ZrI h7,Bool.true_and];rcases Int.decEq (Zae t) 0 with h|h <;> simp[h]
  rw[hf];replace aK:=Zrr aK;clear hf
  go_enter Tryz.func11,Tryz.ntmps11
  go_wp2_with fail
  try rw[←fX]
  refine q.mono ?_;rintro e w2 ⟨rfl,aO⟩;clear q;go_wp2_with fail;go_ret;exact⟨rfl,aK.out.trans aO⟩
 ·have d7:decide ((t.length:Int)≤7)=false:=ZrH (by omega)
  have hf:ZnW t=false:=by unfold ZnW;rw[ZrH h7];simp
  rw[hf];replace aK:=Zrr aK
  go_enter Tryz.func11,Tryz.ntmps11
  go_wp2_with fail
  try rw[←fX]
  go_ret;exact⟨rfl,aK.out⟩
theorem Zgk{b o:Nat}{l:List Int}(ht:Zag w b o t)(t0:0<t.length)(eH:t.length≤1048576)(iw:Zf1 t=some l)(cE:l.length≤6)(qg:bits<65536) :
  Calls Tryz.prog 17 #[.agg #[.slice (some ⟨b,o,none⟩) t.length cap,.int .u16 (bits:Nat),.int .i64 p]] w (Zhz (ZcV (2 ^ l.length) fun i=>bits.testBit i) w):=by
 obtain⟨w0,lI,aW,c0,c1,_⟩:=ZgN w (some ⟨b,o,none⟩) t.length cap bits p;have q1:=ZcO w0 b o cap l (ht.ext aW) t0 eH iw;have hN:=ZbW cE;have q2:=fun W=>ZlH l.length cE false W
 obtain⟨N,sM⟩:∃N,N=2 ^ l.length:=⟨_,rfl⟩;rw[←sM]at hN q2 ⊢;obtain⟨xb,iI⟩:∃xb,w.heap.size=xb:=⟨_,rfl⟩;rw[iI]at c0 c1;have da:=aW.below;have lk:xb<w0.heap.size:=Zrx _ _ c0;replace sM:=Zrr sM;replace iw:=Zrr iw;replace aW:=Zrr aW
 go_enter Tryz.func17,Tryz.ntmps17
 go_wp2_with fail
 try simp only[iI]
 rw[←lI];refine q1.mono ?_;rintro e w1 ⟨v1,rfl,dX,aF⟩;obtain⟨ga,ca,rfl,_⟩:=Zbi dX;replace dX:=Zrr dX;clear q1;go_wp2_with fail;refine(q2 w1).mono ?_;rintro e w2 ⟨g,cg,cs,rfl,hg,cA,iC,aL⟩;rw[Za0];have iB:=aF.trans (aL.mono aF.size);have qV:=da.trans (iB.mono da.size);have c1':w2.cell? ⟨xb,1,none⟩=some (.int .u16 (bits:Nat)):=(iB.cell (show (⟨xb,1,none⟩:Addr).block<_ from lk)).trans c1;have mW:xb<g:=ZrD lk (ZrC aF.size hg)
 have ac:N≤cs.size:=by
  rcases Nat.eq_zero_or_pos N with h|h
  ·omega
  ·have:=(Zrv (iC (N - 1) (by rw[Za0];omega))).1
   omega
 have h0:Hid (Zdz w g N (fun i=>bits.testBit i) 0 w2∧w2.cell? ⟨xb,1,none⟩=some (.int .u16 (bits:Nat))):=Zrr ⟨⟨ZrC (ZrC da.size aF.size) hg,qV,cs,cA,ac,fun j _ h=>by omega⟩,c1'⟩;clear iC cA qV ac c1' c0 c1;replace mW:=Zrr mW;replace iI:=Zrr iI;go_wp2_with fail
 go_loopw [12] (fun iv wr=>∃i:Nat,i≤N∧iv= .int .i64 i∧Hid (Zdz w g N (fun i=>bits.testBit i) i wr∧wr.cell? ⟨xb,1,none⟩=some (.int .u16 (bits:Nat)))) (fun iv _=>N - (intOf iv).toNat)
 case atStart=>exact⟨0,Nat.zero_le _,rfl,h0⟩
 case round =>
  clear h0;obtain⟨i,hi,rfl,hI⟩:=hrel
  by_cases aD:i<N
  ·have dlt:decide ((i:Int)<(N:Int))=true:=ZrI (by omega)
   obtain⟨hF,dw⟩:=hI.out;obtain⟨⟨u,y1⟩,y2⟩:=hF.cell aD;have jg:=Zrf qg i
   have aA:Hid (Zdz w g N (fun i=>bits.testBit i) (i+1) (wr.setCell ⟨g,i,none⟩ (.bool (bits.testBit i)))∧(wr.setCell ⟨g,i,none⟩ (.bool (bits.testBit i))).cell? ⟨xb,1,none⟩=some (.int .u16 (bits:Nat))):=Zrr ⟨hF.set aD,by
    rw[World.cell?,ZcD _ _ (show xb≠g by have:=mW.out;omega)];exact dw⟩
   have i0:(0:Int)≤i:=by omega
   have i1:(i:Int)<N:=by omega
   clear hF;go_wp2_with fail;go_roundw
   case rel=>exact⟨i+1,by omega,by go_num,aA⟩
   case measure=>simp[intOf];omega
  ·have dlt:decide ((i:Int)<(N:Int))=false:=ZrH (by omega)
   obtain rfl:i=N:=by omega
   have aZ:=hI.out.1.done cg;replace aZ:=Zrr aZ;go_wp2_with fail;go_ret;exact aZ.out
end
theorem ZmY{w:World}{t:List VN}{b o cap bts:Nat}{p:Int}{l:List Int}(hT:ZaY w)(hP:Zaz w)(h:Zag w b o t)(hc:Zae t=0)(h7:t.length≤7)(qg:bts<65536)(hl:Zf1 t=some l) :
  Calls Tryz.prog 13 #[.agg #[.slice (some ⟨b,o,none⟩) t.length cap,.int .u16 (bts:Nat),.int .i64 p]] w fun e w'=>∃sb r:Nat,e= .returned (.tuple #[.pointer (some ⟨sb,0,none⟩),.int .i64 (r:Nat)])∧Zc0 t (mdφ l bts (2 ^ l.length)) sb r w'∧Below w.heap.size w w':=by
 obtain⟨l',eK,cE,cK,tP⟩:=Zj9 hc (by omega);rw[hl]at eK
 cases eK
 have t0:0<t.length:=(Zam hc).1;obtain⟨w0,lI,aW,c0,c1,c2⟩:=ZgN w (some ⟨b,o,none⟩) t.length cap bts p;have da:=aW.below;obtain⟨xb,iI⟩:∃xb,w.heap.size=xb:=⟨_,rfl⟩;rw[iI]at c0 c1 c2;have lk:xb<w0.heap.size:=Zrx _ _ c0;have q1:=ZpN w0 b o cap (hT.same (da.block _ hT.lt')) (hP.same (da.block _ hP.lt)) (h.below da) hc (by omega);have qt:=fun W (hb:Below w.heap.size w W)=>Zgk (bits:=bts) (p:=p) (cap:=cap) (h.below hb) t0 (by omega) hl cE qg
 have rQ:=ZbW cE;obtain⟨N2,hN2⟩:∃N2,N2=2 ^ l.length:=⟨_,rfl⟩;rw[←hN2]at qt rQ ⊢;replace qt:=Zrr qt;replace hN2:=Zrr hN2;replace hl:=Zrr hl;replace hc:=Zrr hc;replace cK:=Zrr cK;replace tP:=Zrr tP;replace da:=Zrr da;replace iI:=Zrr iI;clear aW
 go_enter Tryz.func13,Tryz.ntmps13
 go_wp2_with fail
 try simp only[iI.out]
 rw[←lI];refine q1.mono ?_;rintro e w2 ⟨B,rfl,bB,av,aV,eY,aL⟩;have b2:=da.out.trans (aL.mono da.out.size);have d0:=(aL.cell (show (⟨xb,0,none⟩:Addr).block<_ from lk)).trans c0;have d1:=(aL.cell (show (⟨xb,1,none⟩:Addr).block<_ from lk)).trans c1;have d2:=(aL.cell (show (⟨xb,2,none⟩:Addr).block<_ from lk)).trans c2;have dF:xb<w2.heap.size:=ZrD lk aL.size;have q2:=ZcO w2 b o cap l (h.below b2) t0 (by omega) hl.out;replace bB:=Zrr bB;replace b2:=Zrr b2;clear q1 c0 c1 c2 aL;go_wp2_with fail;refine q2.mono ?_;rintro e w3 ⟨vl,rfl,au,aU⟩;have c0:=(aU.cell (show (⟨xb,0,none⟩:Addr).block<_ from dF)).trans d0;have c1:=(aU.cell (show (⟨xb,1,none⟩:Addr).block<_ from dF)).trans d1;have c2:=(aU.cell (show (⟨xb,2,none⟩:Addr).block<_ from dF)).trans d2;have b3:=b2.out.trans (aU.mono b2.out.size);have q3:=qt.out w3 b3;replace b3:=Zrr b3;replace au:=Zrr au;clear q2 d0 d1 d2;go_wp2_with fail;refine q3.mono ?_;rintro e wq ⟨gt,ct,cst,rfl,hgt,uU,yV,aw⟩;rw[Za0];obtain⟨B3,nS,cX,fL,gL⟩:=(bB.out.below (aU.trans (aw.mono aU.size))).here;obtain⟨bl,cl,rfl,dq⟩:=Zok (Zdr au.out aw) cX;have i6:=b3.out.trans (aw.mono b3.out.size);have uj:∀j∈B3.mut,w.heap.size≤j:=fun j hj=>(gL.new j hj).elim (fun hj=>ZrC da.out.size (eY j hj)) (fun h=>ZrC b2.out.size h)
 have htm:gt∉B3.mut:=cX.not_mut uU (by decide) (by decide)
 have rf:Hid (∀so wr,SS t B3 wq 300000 so wr→∀n,n<N2→wr.cell? ⟨gt,n,none⟩=some (.bool (bts.testBit n))):=Zrr fun so wr hs n hn=>hs.cell (by
  have:=yV n (by rw[Za0];exact hn);rw[Zeb]at this;simp[World.cell?,uU,this]) htm
 have h0:Hid (Zli w t B3 wq (mdφ l bts 0) 0 wq):=Zrr ⟨_,fL,av.congr fun y=>by simp[mdφ],i6⟩;replace dq:=Zrr dq;replace uj:=Zrr uj;clear q3 au cX gL bB fL uU yV htm aU aw;go_wp2_with fail
 go_loopw [7,28] (fun rv i wr=>∃(n r:Nat),n≤N2∧rv= .int .i64 (r:Nat)∧i= .int .i64 (n:Nat)∧Hid (Zli w t B3 wq (mdφ l bts n) r wr)) (fun _ i _=>N2 - (intOf i).toNat)
 case atStart=>exact⟨0,0,by omega,rfl,rfl,h0⟩
 case round =>
  clear h0;obtain⟨n,r,hn,rfl,rfl,hI⟩:=hrel
  by_cases aD:n<N2
  ·have dlt:decide ((n:Int)<(N2:Int))=true:=ZrI (by omega)
   have i0:(0:Int)≤n:=by omega
   have i1:(n:Int)<N2:=by omega
   have jX:wr.cell? ⟨gt,n,none⟩=some (.bool (bts.testBit n)):=by
    obtain⟨so,h1,_,_⟩:=hI.out;exact rf.out so wr h1 n aD
   cases jp:bts.testBit n
   ·rw[jp]at jX
    go_wp2_with fail;obtain⟨so,h1,h2,h3⟩:=hI.out;exact⟨⟨n+1,r,by omega,rfl,by go_num,Zrr ⟨so,h1,h2.congr fun y=>ZjO l bts n jp y,h3⟩⟩,by simp[intOf];omega⟩
   ·rw[jp]at jX
    go_wp2_with fail;obtain⟨so,h1,h2,h3⟩:=hI.out;have hi:=h1.inv;have da:Hid (ZgG w t B3 wq (mdφ l bts n) (mdψ l n 0) r 1 wr):=Zrr ⟨so,h1,h2,⟨by have:=hi.len;omega,fun y=>by rw[hi.sem1];simp[mdψ]⟩,h3⟩;clear h1 h2 h3 hi hI
    go_loopw [10,37] (fun xv kv wr'=>∃(x k:Nat),k≤l.length∧xv= .int .i64 (x:Nat)∧kv= .int .i64 (k:Nat)∧Hid (ZgG w t B3 wq (mdφ l bts n) (mdψ l n k) r x wr')) (fun _ kv _=>l.length - (intOf kv).toNat)
    case atStart=>exact⟨1,0,by omega,rfl,rfl,da⟩
    case round =>
     clear da;obtain⟨x,k,hk,rfl,rfl,hI⟩:=hrel;obtain⟨so,h1,h2,h3,h4⟩:=hI.out;clear hI
     by_cases hkl2:k<l.length
     ·have dk:decide ((k:Int)<(l.length:Int))=true:=ZrI (by omega)
      obtain⟨bb,ob,rfl,aN⟩:=dq.out.at h1 (j:=k) (by rw[List.length_map];exact hkl2);rw[List.getElem_map]at aN;have hvk:=tP.out _ (ZrM hkl2);have iw:=hvk.range;have ar:=Zrr (ZjQ l n k hkl2);have yR:=Zrr (ZqT n (l.length - 1 - k) (by omega));generalize l[k]=z at *;have hcell':wr.cell? ⟨bb,ob+k,none⟩=some (.int .i64 z):=aN;have k0:(0:Int)≤k:=by omega
      have k1:(k:Int)<l.length:=by omega
      have hng:wrap64 (-z)= -z:=by unfold wrap64;omega
      replace aN:=Zrr aN
      cases iC:bits BinOp.and IntKind.i64 (((n:Nat):Int) / 2 ^ (l.length - 1 - k)) 1 ==0
      rotate_left
      ·have om:n.testBit (l.length - 1 - k)=false:=by have e:=yR.out;rw[iC]at e;simpa using e.symm
       go_wp2_with fail;have ql:=Zn8 (l:=-z) h1 (by rw[show (((-z).natAbs:Nat):Int)=z by omega];exact hvk);rw[nS]at ql;refine ql.mono ?_;rintro e w4 ⟨r4,tU,rfl,dK,mx,tO⟩;have qa:=ZnB (k':=300000) (c:=0) dK (Zbm dK.chk h7).1 (by omega) (h3.step h1.inv mx) tO;rw[nS]at qa;have me:=h2.step h1.inv mx;have yo:=dK.inv;replace dK:=Zrr dK;clear ql;go_wp2_with fail;refine qa.mono ?_;rintro e w5 ⟨r5,tV,rfl,bO,kL,jz⟩;have aA:Hid (ZgG w t B3 wq (mdφ l bts n) (mdψ l n (k+1)) r r5 w5):=Zrr ⟨tV,bO,me.step yo kL,jz.congr fun y=>ar.out (-z) (by rw[om];rfl) iw.1 y,bO.behind i6 uj.out i6.size⟩;clear qa dK bO kL jz me yo h1 h2 h3 h4;go_wp2_with fail;go_roundw
       case rel=>exact⟨r5,k+1,by omega,rfl,by go_num,aA⟩
       case measure=>simp[intOf];omega
      ·have om:n.testBit (l.length - 1 - k)=true:=by have e:=yR.out;rw[iC]at e;simpa using e.symm
       go_wp2_with fail;have ql:=Zn8 (l:=z) h1 (by rw[show (((z).natAbs:Nat):Int)=z by omega];exact hvk);rw[nS]at ql;refine ql.mono ?_;rintro e w4 ⟨r4,tU,rfl,dK,mx,tO⟩;have qa:=ZnB (k':=300000) (c:=0) dK (Zbm dK.chk h7).1 (by omega) (h3.step h1.inv mx) tO;rw[nS]at qa;have me:=h2.step h1.inv mx;have yo:=dK.inv;replace dK:=Zrr dK;clear ql;go_wp2_with fail;refine qa.mono ?_;rintro e w5 ⟨r5,tV,rfl,bO,kL,jz⟩;have aA:Hid (ZgG w t B3 wq (mdφ l bts n) (mdψ l n (k+1)) r r5 w5):=Zrr ⟨tV,bO,me.step yo kL,jz.congr fun y=>ar.out (z) (by rw[om];rfl) iw.1 y,bO.behind i6 uj.out i6.size⟩;clear qa dK bO kL jz me yo h1 h2 h3 h4;go_wp2_with fail;go_roundw
       case rel=>exact⟨r5,k+1,by omega,rfl,by go_num,aA⟩
       case measure=>simp[intOf];omega
     ·have dk:decide ((k:Int)<(l.length:Int))=false:=ZrH (by omega)
      have hke:k=l.length:=by omega
      rw[hke]at h3;have qo:=Zrl (k':=300000) (c:=0) (d:=0) h1 (Zbm h1.chk h7).1 (Zbm h1.chk h7).2 (by omega) h2 h3;rw[nS]at qo;go_wp2_with fail;refine qo.mono ?_;rintro e w5 ⟨r5,tV,rfl,bO,kL,jz⟩;have aA:Hid (Zli w t B3 wq (mdφ l bts (n+1)) r5 w5):=Zrr ⟨tV,bO,jz.congr fun y=>ZjP l bts n jp (by rw[←hN2.out];exact aD) y,bO.behind i6 uj.out i6.size⟩;clear qo bO kL jz h1 h2 h3 h4;go_wp2_with fail;go_roundw
      case rel=>exact⟨n+1,r5,by omega,rfl,by go_num,aA⟩
      case measure=>simp[intOf];omega
  ·have dlt:decide ((n:Int)<(N2:Int))=false:=ZrH (by omega)
   obtain rfl:n=N2:=by omega
   obtain⟨so,h1,h2,h3⟩:=hI.out;obtain⟨B4,fC,gY,dK,_⟩:=h1.here;have aM:=Zc0.of dK h2;rw[fC,nS]at aM;replace aM:=Zrr aM;clear h1 h2 dK gY;go_wp2_with fail;go_ret2;exact⟨B.sb,r,rfl,aM.out,h3⟩
end Go.Proofs.YtemnmcfmabamcaaGreatDoor
end
