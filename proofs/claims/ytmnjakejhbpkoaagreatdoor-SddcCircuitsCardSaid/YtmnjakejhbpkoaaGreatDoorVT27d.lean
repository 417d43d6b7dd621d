import Derived.Test.YtmnjakejhbpkoaaGreatDoorVPro27
set_option linter.unusedSimpArgs false
set_option linter.unusedVariables false
set_option maxRecDepth 100000
set_option maxHeartbeats 4000000
section
namespace Go.Proofs.YtmnjakejhbpkoaaGreatDoor
open Go Go.RowKit Go.Shelf
theorem ZlL(x y:BitVec 64)(h:x &&& y=0):IntKind.u64.wrap ((x.toNat:Int)+(y.toNat:Int))=((x ||| y).toNat:Int):=by
 rw[←BitVec.add_eq_or_of_and_eq_zero x y h,BitVec.toNat_add,IntKind.wrap_u64];omega
theorem Zn8{a b:Zak}(h:a &&& b=0):IntKind.u64.wrap (lo a+lo b)=lo (a ||| b):=by
 unfold lo;rw[ZlL _ _ (by rw[←BitVec.setWidth_and,h];rfl),BitVec.setWidth_or]
theorem Zn7{a b:Zak}(h:a &&& b=0):IntKind.u64.wrap (hi a+hi b)=hi (a ||| b):=by
 unfold hi;rw[ZlL _ _ (by rw[←BitVec.setWidth_and,←BitVec.ushiftRight_and_distrib,h];rfl),BitVec.ushiftRight_or_distrib,BitVec.setWidth_or]
theorem Zki{t:List VN}(hc:Zad t=0){k l r:Nat}{y:VN}(hy:t[k]? =some y)(aI:Zaj y=false)(hl:y.left=l)(hr:y.right=r){m n:Zak}(h1:ZbE t l m)(h2:ZbE t r n):m &&& n=0:=by
 refine L.set_ext fun i hi=>?_
 have e0:(0:Zak).getLsbD i=false:=BitVec.getLsbD_zero;rw[e0,BitVec.getLsbD_and]
 cases a:m.getLsbD i
 ·rfl
 ·cases b:n.getLsbD i
  ·rfl
  ·exact(L.Bel.apart hc hy aI hl hr ((h1 i hi).1 a) ((h2 i hi).1 b)).elim
theorem ZgY:((List.range 128).all fun k=>if k<64 then decide (lo (ZaA 0 ((k:Int)+1))=IntKind.u64.wrap (2 ^ k)) && decide (hi (ZaA 0 ((k:Int)+1))=0) else decide (hi (ZaA 0 ((k:Int)+1))=IntKind.u64.wrap (2 ^ (k - 64))) && decide (lo (ZaA 0 ((k:Int)+1))=0))=true:=by kernel_rfl
theorem ZnB{k:Nat}(hk:k<64):lo (ZaA 0 ((k:Int)+1))=IntKind.u64.wrap (2 ^ k)∧hi (ZaA 0 ((k:Int)+1))=0:=by
 have:=List.all_eq_true.1 ZgY k (List.mem_range.2 (by omega));rw[if_pos hk]at this;simpa only[Zpx,ZpA] using this
theorem ZnA{k:Nat}(hk:k<64):hi (ZaA 0 (((k+64:Nat):Int)+1))=IntKind.u64.wrap (2 ^ k)∧lo (ZaA 0 (((k+64:Nat):Int)+1))=0:=by
 have:=List.all_eq_true.1 ZgY (k+64) (List.mem_range.2 (by omega));rw[if_neg (by omega),show k+64 - 64=k by omega]at this;simpa only[Zpx,ZpA] using this
theorem ZaN.setL{w:World}{b n:Nat}{f:Nat→Zak}(h:ZaN w b n f)(i:Nat)(m:Zak)(hh:hi m=hi (f i)):ZaN (w.setCell ⟨b,i*2,none⟩ (.int .u64 (lo m))) b n (Zct f i m):=by
 obtain⟨c,h1,h2,h3⟩:=h;refine⟨_,Zag h1 _ _,by simpa using h2,fun j hj=>?_⟩;obtain⟨h4,h5⟩:=h3 j hj
 by_cases cN:j=i
 ·subst cN
  simp only[Zct,if_pos]
  constructor
  ·rw[Array.getElem?_setIfInBounds,if_pos rfl,if_pos (by omega)]
  ·rw[Array.getElem?_setIfInBounds,if_neg (by omega),h5,hh]
 ·simp only[Zct,if_neg cN]
  constructor
  ·rw[Array.getElem?_setIfInBounds,if_neg (by omega)];exact h4
  ·rw[Array.getElem?_setIfInBounds,if_neg (by omega)];exact h5
theorem ZaN.setH{w:World}{b n:Nat}{f:Nat→Zak}(h:ZaN w b n f)(i:Nat)(m:Zak)(hh:lo m=lo (f i)):ZaN (w.setCell ⟨b,i*2+1,none⟩ (.int .u64 (hi m))) b n (Zct f i m):=by
 obtain⟨c,h1,h2,h3⟩:=h;refine⟨_,Zag h1 _ _,by simpa using h2,fun j hj=>?_⟩;obtain⟨h4,h5⟩:=h3 j hj
 by_cases cN:j=i
 ·subst cN
  simp only[Zct,if_pos]
  constructor
  ·rw[Array.getElem?_setIfInBounds,if_neg (by omega),h4,hh]
  ·rw[Array.getElem?_setIfInBounds,if_pos rfl,if_pos (by omega)]
 ·simp only[Zct,if_neg cN]
  constructor
  ·rw[Array.getElem?_setIfInBounds,if_neg (by omega)];exact h4
  ·rw[Array.getElem?_setIfInBounds,if_neg (by omega)];exact h5
theorem Zbj.ext{w wr w':World}{g k:Nat}{t:List VN}(h:Zbj w g t k wr)(hx:Ext wr w'):Zbj w g t k w':=by
 obtain⟨f,a,b,c,d⟩:=h;exact⟨f,a.trans hx,b.ext hx,c,d⟩
theorem Zbj.leafL{w wr w':World}{g k:Nat}{t:List VN}{f:Nat→Zak}{m:Zak}(hX:Ext w w')(hG:ZaN w' g t.length f)(h1:∀j,j<k→ZbE t j (f j))(h2:∀j,k≤j→f j=0)(hg:w.heap.size≤g)(hm:ZbE t k m)(hh:hi m=0) :
  Zbj w g t (k+1) (w'.setCell ⟨g,k*2,none⟩ (.int .u64 (lo m))):=by
 refine⟨_,hX.setCell (by simpa using hg) _,hG.setL k m (by rw[hh,h2 k (ZpD _)];rfl),fun j hj=>?_,fun j hj=>?_⟩
 ·by_cases e:j=k
  ·subst e;simpa [Zct] using hm
  ·simpa [Zct,e] using h1 j (by omega)
 ·have e:j≠k:=by omega
  simpa [Zct,e] using h2 j (by omega)
theorem Zbj.leafH{w wr w':World}{g k:Nat}{t:List VN}{f:Nat→Zak}{m:Zak}(hX:Ext w w')(hG:ZaN w' g t.length f)(h1:∀j,j<k→ZbE t j (f j))(h2:∀j,k≤j→f j=0)(hg:w.heap.size≤g)(hm:ZbE t k m)(hh:lo m=0) :
  Zbj w g t (k+1) (w'.setCell ⟨g,k*2+1,none⟩ (.int .u64 (hi m))):=by
 refine⟨_,hX.setCell (by simpa using hg) _,hG.setH k m (by rw[hh,h2 k (ZpD _)];rfl),fun j hj=>?_,fun j hj=>?_⟩
 ·by_cases e:j=k
  ·subst e;simpa [Zct] using hm
  ·simpa [Zct,e] using h1 j (by omega)
 ·have e:j≠k:=by omega
  simpa [Zct,e] using h2 j (by omega)
theorem Zgr{t:List VN}(w:World)(b o cap:Nat)(h:Zam w b o t)(hc:Zad t=0) :
  Calls Tryz.prog 94 #[.slice (some ⟨b,o,none⟩) t.length cap] w fun e w'=>∃g f,w.heap.size≤g∧e= .returned (.slice (some ⟨g,0,none⟩) t.length t.length)∧ZaN w' g t.length f∧(∀j,j<t.length→ZbE t j (f j))∧Ext w w':=by
 obtain⟨dT,fJ,sc,au,_⟩:=Zar hc
 have dD:∀w:World,(Instr.makeSlice 134 (.int .i64 t.length) (.int .i64 t.length)).run Tryz.prog w= .ok (.slice (some ⟨w.heap.size,0,none⟩) t.length t.length) (w.alloc (.cells (madeCells #[.int .u64 0,.int .u64 0] (t.length*2)) 41)):=fun w=>by
  obtain⟨i,hi,hz,hs,hb⟩:=info_parts (show (Tryz.prog.info? 41).map (fun i=>(i.zero,i.size,i.bytes))=some (some (.agg #[.int .u64 0,.int .u64 0]),2,16) by kernel_rfl);have hr:=run_make (P:=Tryz.prog) w 134 41 i _ Tryz.underlying134 hi hz .i64 .i64 t.length t.length (by omega) (Int.le_refl _) (by rw[hb];omega) (by omega);rw[hs]at hr;simpa [Value.cells] using hr
 have hq:=ZdV w (some ⟨b,o,none⟩) cap (.inr ⟨b,o,rfl,h⟩) (by omega);rw[hc]at hq;have ja:=Zpe (Zb8 t 0 _ sc au)
 have jQ:Hid (∀k (hk:k<t.length),Zaj t[k]=true→1≤t[k].var∧t[k].var≤128):=Zpe fun k hk hl=>by
  have:=(L.Bel.leaf hc (Zpl hk) hl _).2 rfl;exact this.range
 replace hc:=Zpe hc;clear au
 go_enter Tryz.func94,Tryz.ntmps94
 go_wp2_with fail;refine hq.mono ?_;rintro e w1 ⟨rfl,aC⟩;clear hq;go_wp2_with fail;have aV:Ext w (w1.alloc (.cells (madeCells #[.int .u64 0,.int .u64 0] (t.length*2)) 41)):=aC.alloc _;have aQ:Hid (Zbj w w1.heap.size t 0 (w1.alloc (.cells (madeCells #[.int .u64 0,.int .u64 0] (t.length*2)) 41))):=Zpe ⟨_,aV,Zlz w1 t.length _ rfl,fun j hj=>by omega,fun j _=>rfl⟩;have dC:=aC.size;clear aV aC;generalize w1.alloc (.cells (madeCells #[.int .u64 0,.int .u64 0] (t.length*2)) 41)=w2 at *;generalize w1.heap.size=g at *
 go_loopw [4,5,6,7] (fun i _ _ _ wr=>∃k:Nat,k≤t.length∧i= .int .i64 k∧Hid (Zbj w g t k wr))
  (fun i _ _ _ _=>t.length - (intOf i).toNat)
 case atStart=>exact⟨0,Nat.zero_le _,rfl,aQ⟩
 case round =>
  clear aQ;obtain⟨k,hk,rfl,hI⟩:=hrel;obtain⟨f,hX,hG,h1,h2⟩:=hI.out;clear hI
  by_cases aE:k<t.length
  ·have dlt:decide ((k:Int)<(t.length:Int))=true:=Zpv (by omega)
   obtain⟨n0,n1,n2⟩:=(h.ext hX).node aE;have gR:=ja.out k aE;have az:=jQ.out k aE;have hy:Hid (t[k]? =some t[k]):=Zpe (Zpl aE);generalize t[k]=x at *;obtain⟨xl,xr,xv⟩:=x;simp only[Nat.zero_add]at n0 n1 n2 gR az;have xA:(0:Int)≤k:=by omega
   have hgk1:(k:Int)<t.length:=by omega
   have nF:=Zpe hX;have rD:=Zpe hG;replace h1:=Zpe h1;replace h2:=Zpe h2;clear hG hX;go_wp2_with fail;refine(Ze7 ⟨xl,xr,xv⟩ wr).mono ?_;rintro e w4 ⟨rfl,ah⟩;have ek:=rD.out.ext ah;have mK:=Zpe (nF.out.trans ah);have c0:=ah.cell n0;have c1:=ah.cell n1;have c2:=ah.cell n2;clear n0 n1 n2 rD nF ah
   cases aI:Zaj ⟨xl,xr,xv⟩
   ·obtain⟨_,l0,l1,r0,r1,aH⟩:=gR aI
    clear gR az;obtain⟨ln,rfl⟩:∃n:Nat,xl=n:=⟨xl.toNat,by omega⟩;obtain⟨rn,rfl⟩:∃n:Nat,xr=n:=⟨xr.toNat,by omega⟩;have q0:(0:Int)≤ln:=by omega
    have q1:(ln:Int)<t.length:=by omega
    have q2:(0:Int)≤rn:=by omega
    have q3:(rn:Int)<t.length:=by omega
    have hm:Hid (ZbE t k (f ln ||| f rn)):=Zpe (ZfG hc.out hy.out aI rfl rfl (h1.out ln (by omega)) (h1.out rn (by omega)));have dO:f ln &&& f rn=0:=Zki hc.out hy.out aI rfl rfl (h1.out ln (by omega)) (h1.out rn (by omega));obtain⟨⟨s1,s2⟩,_⟩:=ek.cell (j:=ln) (by omega);obtain⟨⟨s3,s4⟩,_⟩:=ek.cell (j:=rn) (by omega);obtain⟨⟨s5,s6⟩,s7,s8⟩:=ek.cell (j:=k) aE;have a1:=Zn8 dO;have a2:=Zn7 dO;generalize wv:f ln=fa at *;generalize iQ:f rn=fb at *;have dZ:=ek.lt;obtain⟨eA,eB⟩:=ZbB w4 (.cells #[.int .u64 (lo fa),.int .u64 (hi fa)] 41) (.cells #[.int .u64 (lo fb),.int .u64 (hi fb)] 41);have ac:=Zpe ((Zbj.round (wr:=w4) mK.out ek h1.out h2.out dC hm.out).ext (((Ext.refl _).alloc (.cells #[.int .u64 (lo fa),.int .u64 (hi fa)] 41)).alloc (.cells #[.int .u64 (lo fb),.int .u64 (hi fb)] 41)));have eW:Ext w4 (w4.alloc (.cells #[.int .u64 (lo fa),.int .u64 (hi fa)] 41)):=(Ext.refl _).alloc _;have d1:=eW.cell c1;have d3:=eW.cell s3;have d4:=eW.cell s4;clear aI;replace ek:=Zpe ek;replace wv:=Zpe wv;replace iQ:=Zpe iQ;replace dO:=Zpe dO;go_wp2_with fail;go_roundw
    case rel=>exact⟨k+1,by omega,by go_num,ac⟩
    case measure=>simp[intOf];omega
   ·obtain⟨v1,v2⟩:=az aI
    clear gR az;have hm:Hid (ZbE t k (ZaA 0 xv)):=Zpe (ZfF hc.out hy.out aI);obtain⟨⟨s1,s2⟩,s3,s4⟩:=ek.cell aE;rw[h2.out k (ZpD _)]at s1 s2
    by_cases h64:xv≤64
    ·have e1:(xv - 1) / 64=0:=by omega
     have e2:(xv - 1) % 64=xv - 1:=by omega
     obtain⟨u,rfl⟩:∃u:Nat,xv=(u:Int)+1:=⟨(xv - 1).toNat,by omega⟩;obtain⟨k1,k2⟩:=ZnB (k:=u) (by omega);have e3:(u:Int) / 64=0:=by omega
     have e4:(u:Int) % 64=u:=by omega
     have ac:=Zpe (Zbj.leafL (wr:=w4) mK.out ek h1.out h2.out dC hm.out k2);rw[k1]at ac;replace ek:=Zpe ek;replace aI:=Zpe aI;replace k1:=Zpe k1;replace k2:=Zpe k2;go_wp2_with fail;go_roundw
     case rel=>exact⟨k+1,by omega,by go_num,ac⟩
     case measure=>simp[intOf];omega
    ·obtain⟨u,rfl⟩:∃u:Nat,xv=((u+64:Nat):Int)+1:=⟨(xv - 65).toNat,by omega⟩
     obtain⟨k1,k2⟩:=ZnA (k:=u) (by omega);have e3:((u+64:Nat):Int) / 64=1:=by omega
     have e4:((u+64:Nat):Int) % 64=u:=by omega
     have e5:((u:Int)+64) / 64=1:=by omega
     have e6:((u:Int)+64) % 64=u:=by omega
     have ac:=Zpe (Zbj.leafH (wr:=w4) mK.out ek h1.out h2.out dC hm.out k2);rw[k1]at ac;replace ek:=Zpe ek;replace aI:=Zpe aI;replace k1:=Zpe k1;replace k2:=Zpe k2;go_wp2_with fail;go_roundw
     case rel=>exact⟨k+1,by omega,by go_num,ac⟩
     case measure=>simp[intOf];omega
  ·have dlt:decide ((k:Int)<(t.length:Int))=false:=Zpu (by omega)
   obtain rfl:k=t.length:=by omega
   replace hG:=Zpe hG;replace hX:=Zpe hX;replace h1:=Zpe h1;go_wp2_with fail;go_ret;exact⟨g,f,dC,rfl,hG.out,h1.out,hX.out⟩
theorem ZdB{t:List VN}(w:World)(b o cap:Nat)(h:Zam w b o t)(hc:Zad t=0) :
  Calls Tryz.prog 27 #[.slice (some ⟨b,o,none⟩) t.length cap] w fun e w'=>∃v l,e= .returned v∧w'.ownsRow w.heap.size 3 1 v l.length (l.map ZeJ)∧L.SortedBel t (t.length - 1) l∧Below w.heap.size w w':=by
 obtain⟨dT,fJ,_⟩:=Zar hc;obtain⟨n,hn⟩:∃n,t.length=n+1:=⟨t.length - 1,by omega⟩;have p7:IntKind.i64.wrap ((t.length:Int) - 1)=(n:Int):=by rw[hn];rw[IntWalk.i64_in _ (by omega)];omega
 have g0:(0:Int)≤n:=by omega
 have g1:(n:Int)<t.length:=by omega
 have q:=Zgr (cap:=cap) w b o h hc;rw[show t.length - 1=n by omega];replace hn:=Zpe hn
 go_enter Tryz.func27,Tryz.ntmps27
 go_wp2_with fail;refine q.mono ?_;rintro e w2 ⟨g,f,hg,rfl,hS,hf,aF⟩;obtain⟨⟨s1,s2⟩,_⟩:=hS.cell (j:=n) (by have:=hn.out;omega);have hm:=ZgT (hf n (by have:=hn.out;omega));have q2:=Ze8 (f n) w2;unfold ZaT at q2;generalize f n=m at *;replace hf:=Zpe hf;replace hS:=Zpe hS;replace aF:=Zpe aF;clear q;go_wp2_with fail;refine q2.mono ?_;rintro e w3 ⟨v,rfl,ho,aa⟩;clear q2;go_wp2_with fail;go_ret;exact⟨v,_,rfl,ZiS ho aF.out.size,hm,aF.out.below.trans (aa.mono aF.out.size)⟩
theorem Ziv(k i:Nat):(((k:Int) / 2 ^ i) % 2 ==1)=k.testBit i:=by
 have h1:((k:Int) / 2 ^ i)=((k / 2 ^ i:Nat):Int):=by simp
 rw[h1,Nat.testBit_eq_decide_div_mod_eq,Bool.eq_iff_iff];simp;omega
theorem Zl5(k i:Nat):(((k:Int) / 2 ^ i).tmod 2 ==1)=k.testBit i:=by
 rw[Int.tmod_eq_emod_of_nonneg (Int.ediv_nonneg (by omega) (Int.pow_nonneg (by omega))),Ziv]
def Zl1 (l:List Int)(k:Nat)(w1:World)(z i:Nat)(wr:World):Prop :=
 Below z w1 wr∧z<wr.heap.size∧wr.heap[z]? =some (.cells #[.int .u64 (lo (L.setK l k i)),.int .u64 (hi (L.setK l k i))] 41 (0,0))
theorem ZgP{l:List Int}{vl vo:Value}{w:World}(hv:SlI w vl l)(hr:∀v∈l,1≤v∧v≤128)(hl:l.length≤12){bo:Option Addr}{no co:Nat}(pY:vo= .slice bo no co)(k:Nat)(hk:k<4096) :
  Calls Tryz.prog 92 #[.agg #[vl,vo],.int .i64 (k:Nat)] w fun e w'=>e= .returned (.agg #[.int .u64 (lo (L.setK l k l.length)),.int .u64 (hi (L.setK l k l.length))])∧Below w.heap.size w w':=by
 subst pY;obtain⟨e0,e1,e2⟩:=Zcz w (.cells #[vl,.slice bo no co] 48) (.cells #[.int .u64 0,.int .u64 0] 41) (.cells #[.int .u64 0,.int .u64 0] 41);have aS:Below w.heap.size w (((w.alloc (.cells #[vl,.slice bo no co] 48)).alloc (.cells #[.int .u64 0,.int .u64 0] 41)).alloc (.cells #[.int .u64 0,.int .u64 0] 41)):=((((Ext.refl w).alloc _).alloc _).alloc _).below;have cM:(((w.alloc (.cells #[vl,.slice bo no co] 48)).alloc (.cells #[.int .u64 0,.int .u64 0] 41)).alloc (.cells #[.int .u64 0,.int .u64 0] 41)).heap.size=w.heap.size+3:=by simp
 obtain⟨w1,aD⟩:∃w1,w1=((w.alloc (.cells #[vl,.slice bo no co] 48)).alloc (.cells #[.int .u64 0,.int .u64 0] 41)).alloc (.cells #[.int .u64 0,.int .u64 0] 41):=⟨_,rfl⟩;rw[←aD]at e0 e1 e2 aS cM;have bI:=hv.ext aS;obtain⟨ba,cp,rfl,gV⟩:=bI
 have aO:∀j (hj:j<l.length),∃b o,ba=some ⟨b,o,none⟩∧b<w.heap.size∧w1.cell? ⟨b,o+j,none⟩=some (.int .i64 l[j]):=fun j hj=>by
  obtain⟨lY,kU,e,h⟩:=hv;simp only[Value.slice.injEq]at e;obtain⟨rfl,_,rfl⟩:=e;rcases h with ⟨_,h2,_⟩|⟨b,o,rfl,h2⟩
  ·rw[h2]at hj;simp at hj
  ·have:=h2 j hj
   exact⟨b,o,rfl,Zpk w _ this,(aS.cell (Zpk w _ this)).trans this⟩
 have hL0:Hid (Zl1 l k w1 (w.heap.size+1+1) 0 w1):=Zpe ⟨Zpr _ _,by omega,by rw[e2,L.setK];rfl⟩;have hw:=fun s v (h:1≤v∧v≤128) W=>Zic s v W
 unfold ZaT at hw;replace aO:=Zpe aO;replace cM:=Zpe cM;replace e0:=Zpe e0;replace e1:=Zpe e1;replace e2:=Zpe e2;replace hw:=Zpe hw;replace hr:=Zpe hr;clear gV hv
 go_enter Tryz.func92,Tryz.ntmps92
 go_wp2_with fail;rw[←aD];replace aD:=Zpe aD
 go_loopw [6] (fun i wr=>∃j:Nat,j≤l.length∧i= .int .i64 j∧Hid (Zl1 l k w1 (w.heap.size+1+1) j wr)) (fun i _=>l.length - (intOf i).toNat)
 case atStart=>exact⟨0,Nat.zero_le _,rfl,hL0⟩
 case round =>
  clear hL0;obtain⟨j,hj,rfl,hI⟩:=hrel;obtain⟨eF,jV,lU⟩:=hI.out;have f0:=(eF.block w.heap.size (by omega)).trans e0.out;have f1:=(eF.block (w.heap.size+1) (by omega)).trans e1.out;have c0:wr.cell? ⟨w.heap.size,0,none⟩=some (.slice ba l.length cp):=by rw[World.cell?,f0];rfl
  by_cases aE:j<l.length
  ·obtain⟨b,o,rfl,iP,hc⟩:=aO.out j aE
   have ff:wr.cell? ⟨b,o+j,none⟩=some (.int .i64 l[j]):=(World.cell?_of_block (a:=⟨b,o+j,none⟩) (eF.block b (by omega))).trans hc;have dj:decide ((j:Int)<(l.length:Int))=true:=Zpv (by omega);have jj0:(0:Int)≤j:=by omega
   have jj1:(j:Int)<l.length:=by omega
   have aW:L.setK l k (j+1)=if k.testBit j=true then ZaA (L.setK l k j) l[j] else L.setK l k j:=by
    show (if k.testBit j=true then ZaA (L.setK l k j) (l.getD j 0) else L.setK l k j)=_
    rw[Zpt,Zpl aE]
    rfl
   have nZ:=hr.out _ (Zpz aE);have am:=Ziv k j;have kF:=Zl5 k j;generalize l[j]=u at *;generalize L.setK l k j=m at *;generalize k.testBit j=B at *;obtain⟨y0,y1⟩:=Zae lU;replace nZ:=Zpe nZ;replace f1:=Zpe f1;replace f0:=Zpe f0
   cases B
   ·simp only[Bool.false_eq_true,if_false]at aW
    have ac:Hid (Zl1 l k w1 (w.heap.size+1+1) (j+1) wr):=Zpe ⟨eF,jV,by rw[aW];exact lU⟩;replace aW:=Zpe aW;replace lU:=Zpe lU;go_wp2_with fail;go_roundw
    case rel=>exact⟨j+1,by omega,by go_num,ac⟩
    case measure=>simp[intOf];omega
   ·simp only[if_true]at aW
    have q:=hw.out m u nZ.out;rw[ZmL _ _ nZ.out,←aW]at q;generalize ec:L.setK l k (j+1)=m2 at *;replace ec:=Zpe ec;replace q:=Zpe q;replace aW:=Zpe aW;replace lU:=Zpe lU;go_wp2_with fail;(refine ZaQ (S:=(fun V=>Below wr.heap.size wr V∧(V.cell? ⟨w.heap.size+1+1,0,none⟩=some (.int .u64 (lo m))∧V.cell? ⟨w.heap.size+1+1,1,none⟩=some (.int .u64 (hi m)))∧V.cell? ⟨w.heap.size,0,none⟩=some (.slice (some ⟨b,o,none⟩) l.length cp)∧V.cell? ⟨b,o+j,none⟩=some (.int .i64 u))) 7 (by kernel_rfl) ?_ (fun aA=>?_))
    ·exact⟨(Zpr _ _).drew,⟨y0,y1⟩,c0,ff⟩
    (refine Zac (i:=0) (v:=?_) rfl (by kernel_rfl) (by decide) (by kernel_rfl) (by kernel_rfl) (by kernel_rfl) (fun _ _ _ h=>h) (Or.inl ⟨by rfl,?_⟩) (by assumption) ?_);rotate_left
    ·(intro w aB;(try dsimp only at aB);obtain⟨r9,⟨r0,r1⟩,r2,r3⟩:=aB;go_simp;first|done|with_reducible rfl)
    (try simp only[Act.put,Zpf,Zpg,Zph]);(refine Zac (i:=1) (v:=?_) rfl (by kernel_rfl) (by decide) (by kernel_rfl) (by kernel_rfl) (by kernel_rfl) (fun _ _ _ h=>h) (Or.inl ⟨by rfl,?_⟩) (by assumption) ?_);rotate_left
    ·(intro w aB;(try dsimp only at aB);obtain⟨r9,⟨r0,r1⟩,r2,r3⟩:=aB;go_simp;first|done|with_reducible rfl)
    (try simp only[Act.put,Zpf,Zpg,Zph]);(refine Zac (i:=2) (v:=?_) rfl (by kernel_rfl) (by decide) (by kernel_rfl) (by kernel_rfl) (by kernel_rfl) (fun _ _ _ h=>h) (Or.inl ⟨by rfl,?_⟩) (by assumption) ?_);rotate_left
    ·(intro w aB;(try dsimp only at aB);obtain⟨r9,⟨r0,r1⟩,r2,r3⟩:=aB;go_simp;first|done|with_reducible rfl)
    (try simp only[Act.put,Zpf,Zpg,Zph]);(refine Zac (i:=3) (v:=?_) rfl (by kernel_rfl) (by decide) (by kernel_rfl) (by kernel_rfl) (by kernel_rfl) (fun _ _ _ h=>h) (Or.inl ⟨by rfl,?_⟩) (by assumption) ?_);rotate_left
    ·(intro w aB;(try dsimp only at aB);obtain⟨r9,⟨r0,r1⟩,r2,r3⟩:=aB;go_simp;first|done|with_reducible rfl)
    (try simp only[Act.put,Zpf,Zpg,Zph]);(refine Zac (i:=4) (v:=?_) rfl (by kernel_rfl) (by decide) (by kernel_rfl) (by kernel_rfl) (by kernel_rfl) (fun _ _ _ h=>h) (Or.inl ⟨by rfl,?_⟩) (by assumption) ?_);rotate_left
    ·(intro w aB;(try dsimp only at aB);obtain⟨r9,⟨r0,r1⟩,r2,r3⟩:=aB;go_simp;first|done|with_reducible rfl)
    (try simp only[Act.put,Zpf,Zpg,Zph]);(refine Zac (i:=5) (v:=?_) rfl (by kernel_rfl) (by decide) (by kernel_rfl) (by kernel_rfl) (by kernel_rfl) (fun _ _ _ h=>h) (Or.inl ⟨by rfl,?_⟩) (by assumption) ?_);rotate_left
    ·(intro w aB;(try dsimp only at aB);obtain⟨r9,⟨r0,r1⟩,r2,r3⟩:=aB;go_simp;first|done|with_reducible rfl)
    (try simp only[Act.put,Zpf,Zpg,Zph]);(refine ZaI (i:=6) (by kernel_rfl) rfl (fun K hK=>?_))
    ((rw[if_pos (by rfl)]);go_simp;(go_at_call 160);refine(q.out _).mono ?_;rintro e w3 ⟨rfl,aa⟩;refine hK.out _ _ ⟨aA.1.trans (aa.mono aA.1.size),⟨(aa.cell (Zpk _ _ aA.2.1.1)).trans aA.2.1.1,(aa.cell (Zpk _ _ aA.2.1.2)).trans aA.2.1.2⟩,(aa.cell (Zpk _ _ aA.2.2.1)).trans aA.2.2.1,(aa.cell (Zpk _ _ aA.2.2.2)).trans aA.2.2.2⟩ (fun aA=>?_))
    (clear hK K)
    (try simp only[Act.put,Zpf,Zpg,Zph]);have lV:=(aA.1.block _ jV).trans lU.out;have z0:w3.frozen? ⟨w.heap.size+1+1,0,none⟩=false:=by simp[World.frozen?,lV]
    have z1:w3.frozen? ⟨w.heap.size+1+1,1,none⟩=false:=by simp[World.frozen?,lV]
    have z2:=aA.2.1.1;have z3:=aA.2.1.2;have ac:Hid (Zl1 l k w1 (w.heap.size+1+1) (j+1) ((w3.setCell ⟨w.heap.size+1+1,0,none⟩ (.int .u64 (lo m2))).setCell ⟨w.heap.size+1+1,1,none⟩ (.int .u64 (hi m2)))):=Zpe ⟨((eF.trans (aA.1.mono (by omega))).setCell (ZpD _) _).setCell (ZpD _) _,by simp[World.setCell];have:=aA.1.size;omega,by rw[ec.out];exact Zav lV _ _⟩;replace lV:=Zpe lV;clear aA;(refine Zbt (by kernel_rfl) rfl (by kernel_rfl) (fun K hK=>?_))
    ((rw[if_pos (by rfl)]);go_simp;refine hK.out _ _ ?_)
    (clear hK K)
    (try simp only[Act.put,Zpf,Zpg,Zph]);go_wp2_with fail;go_roundw
    case rel=>exact⟨j+1,by omega,by go_num,ac⟩
    case measure=>simp[intOf];omega
  ·obtain rfl:j=l.length:=by omega
   have dj:decide ((l.length:Int)<(l.length:Int))=false:=Zpu (by omega);generalize hR:L.setK l k l.length=R at *;obtain⟨y0,y1⟩:=Zae lU;obtain⟨z0,z1⟩:=Zae f1;have x0:wr.frozen? ⟨w.heap.size+1,0,none⟩=false:=by simp[World.frozen?,f1]
   have x1:wr.frozen? ⟨w.heap.size+1,1,none⟩=false:=by simp[World.frozen?,f1]
   obtain⟨r0,r1⟩:=Zae (Zav f1 (.int .u64 (lo R)) (.int .u64 (hi R)));have am:=((aS.trans (eF.mono (by omega))).setCell (p:=⟨w.heap.size+1,0,none⟩) (by simp) (.int .u64 (lo R))).setCell (p:=⟨w.heap.size+1,1,none⟩) (by simp) (.int .u64 (hi R));replace lU:=Zpe lU;replace f1:=Zpe f1;replace f0:=Zpe f0;replace hR:=Zpe hR;replace am:=Zpe am;go_wp2_with fail;exact bodyPost_ret (v:=.agg #[.int .u64 (lo R),.int .u64 (hi R)]) (by simp[results,Tryz.results92,go_sem,r0,r1]) rfl ⟨by rw[hR.out],am.out⟩
end Go.Proofs.YtmnjakejhbpkoaaGreatDoor
end
