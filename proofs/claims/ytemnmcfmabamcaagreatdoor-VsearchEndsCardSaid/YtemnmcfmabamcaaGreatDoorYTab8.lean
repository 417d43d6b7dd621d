import Derived.Test.YtemnmcfmabamcaaGreatDoorYTab6
set_option linter.unusedSimpArgs false
set_option linter.unusedVariables false
set_option maxRecDepth 100000
set_option maxHeartbeats 8000000
section
namespace Go.Proofs.YtemnmcfmabamcaaGreatDoor
open Go Go.RowKit Go.Shelf
theorem Zjw(a b:List UInt8):(⟨a.toArray⟩:ByteArray)++⟨b.toArray⟩=⟨(a++b).toArray⟩:=by
 apply ByteArray.ext
 simp[ByteArray.data_append]
theorem Zel(l:List UInt8):(⟨l.toArray⟩:ByteArray).size=l.length:=by simp[ByteArray.size]
def ZdF (n:Nat):List UInt8:=[UInt8.ofNat (48+n)]
theorem Ze1(n:Nat)(h:n≤9)(w:World):Calls Tryz.prog 50 #[.int .i64 (n:Int)] w fun e w'=>e= .returned (.string ⟨(ZdF n).toArray⟩)∧w=w':=by
 have hn:n=0∨n=1∨n=2∨n=3∨n=4∨n=5∨n=6∨n=7∨n=8∨n=9:=by omega
 rcases hn with rfl|rfl|rfl|rfl|rfl|rfl|rfl|rfl|rfl|rfl
 all_goals
  go_enter Tryz.func50,Tryz.ntmps50
  go_wp2_with fail;go_ret;exact⟨rfl,rfl⟩
theorem ZjC(n:Nat)(h0:10≤n)(h:n≤99)(w:World):Calls Tryz.prog 50 #[.int .i64 (n:Int)] w fun e w'=>e= .returned (.string ⟨(ZdF (n / 10)++ZdF (n % 10)).toArray⟩)∧w=w':=by
 have d0:decide ((n:Int)<0)=false:=ZrH (by omega);have d1:decide ((n:Int) > 9)=true:=ZrI (by omega);have q1:=fun W=>Ze1 (n / 10) (by omega) W
 have q2:=fun W=>Ze1 (n % 10) (by omega) W
 have e1:((n:Int).tdiv 10)=((n / 10:Nat):Int):=by rw[Int.tdiv_eq_ediv_of_nonneg (by omega)];rfl
 have e2:((n:Int).tmod 10)=((n % 10:Nat):Int):=by rw[Int.tmod_eq_emod_of_nonneg (by omega)];rfl
 have ha:n / 10≤9:=by omega
 have hb:n % 10≤9:=by omega
 have dD:=Zjw (ZdF (n / 10)) (ZdF (n % 10));have hA:(⟨(ZdF (n / 10)).toArray⟩:ByteArray).size≤1:=by rw[Zel];exact ZrQ _
 have hB:(⟨(ZdF (n % 10)).toArray⟩:ByteArray).size≤1:=by rw[Zel];exact ZrQ _
 generalize n / 10=a at *;generalize n % 10=b at *;generalize (⟨(ZdF a).toArray⟩:ByteArray)=A at *;generalize (⟨(ZdF b).toArray⟩:ByteArray)=B at *;generalize (⟨(ZdF a++ZdF b).toArray⟩:ByteArray)=C at *;replace dD:=Zrr dD
 go_enter Tryz.func50,Tryz.ntmps50
 go_wp2_with fail;refine(q1 _).mono ?_;rintro e w1 ⟨rfl,rfl⟩;go_wp2_with fail;refine(q2 _).mono ?_;rintro e w1 ⟨rfl,rfl⟩;go_wp2_with fail;go_ret;exact⟨by rw[←dD.out];rfl,rfl⟩
theorem ZnP(n:Nat)(h0:100≤n)(h:n≤999)(w:World):Calls Tryz.prog 50 #[.int .i64 (n:Int)] w fun e w'=>e= .returned (.string ⟨(ZdF (n / 10 / 10)++ZdF (n / 10 % 10)++ZdF (n % 10)).toArray⟩)∧w=w':=by
 have d0:decide ((n:Int)<0)=false:=ZrH (by omega);have d1:decide ((n:Int) > 9)=true:=ZrI (by omega);have q1:=fun W=>ZjC (n / 10) (by omega) (by omega) W
 have q2:=fun W=>Ze1 (n % 10) (by omega) W
 have e1:((n:Int).tdiv 10)=((n / 10:Nat):Int):=by rw[Int.tdiv_eq_ediv_of_nonneg (by omega)];rfl
 have e2:((n:Int).tmod 10)=((n % 10:Nat):Int):=by rw[Int.tmod_eq_emod_of_nonneg (by omega)];rfl
 have ha:n / 10≤99:=by omega
 have hb:n % 10≤9:=by omega
 have dD:=Zjw (ZdF (n / 10 / 10)++ZdF (n / 10 % 10)) (ZdF (n % 10));have hA:(⟨(ZdF (n / 10 / 10)++ZdF (n / 10 % 10)).toArray⟩:ByteArray).size≤2:=by rw[Zel];exact ZrQ _
 have hB:(⟨(ZdF (n % 10)).toArray⟩:ByteArray).size≤1:=by rw[Zel];exact ZrQ _
 generalize ZdF (n / 10 / 10)++ZdF (n / 10 % 10)=D at *;generalize n / 10=a at *;generalize n % 10=b at *;generalize (⟨D.toArray⟩:ByteArray)=A at *;generalize (⟨(D++ZdF b).toArray⟩:ByteArray)=C at *;generalize (⟨(ZdF b).toArray⟩:ByteArray)=B at *;replace dD:=Zrr dD
 go_enter Tryz.func50,Tryz.ntmps50
 go_wp2_with fail;refine(q1 _).mono ?_;rintro e w1 ⟨rfl,rfl⟩;go_wp2_with fail;refine(q2 _).mono ?_;rintro e w1 ⟨rfl,rfl⟩;go_wp2_with fail;go_ret;exact⟨by rw[←dD.out];rfl,rfl⟩
def Zf8 (n:Nat):List UInt8:=if n≤9 then ZdF n else if n≤99 then ZdF (n / 10)++ZdF (n % 10) else ZdF (n / 10 / 10)++ZdF (n / 10 % 10)++ZdF (n % 10)
def Zq9 (z:Int):List UInt8:=if z<0 then [45]++Zf8 z.natAbs else Zf8 z.natAbs
theorem ZnR:((List.range 257).all fun k=>Zq9 ((k:Int) - 128) ==Lib.itoa ((k:Int) - 128))=true:=by kernel_rfl
theorem ZlI(v:Int)(h:-128≤v∧v≤128):Zq9 v=Lib.itoa v:=by
 have:=List.all_eq_true.1 ZnR (v+128).toNat (List.mem_range.2 (by omega));rw[show (((v+128).toNat:Int) - 128)=v by omega]at this;simpa using this
theorem ZjD(n:Nat)(h:n≤999)(w:World):Calls Tryz.prog 50 #[.int .i64 (n:Int)] w fun e w'=>e= .returned (.string ⟨(Zf8 n).toArray⟩)∧w=w':=by
 unfold Zf8
 split
 ·exact Ze1 n (by assumption) w
 ·split
  ·exact ZjC n (by omega) (by assumption) w
  ·exact ZnP n (by omega) h w
theorem Zfl(z:Int)(h:-128≤z∧z≤128)(w:World):Calls Tryz.prog 50 #[.int .i64 z] w fun e w'=>e= .returned (.string ⟨(Lib.itoa z).toArray⟩)∧w=w':=by
 rw[←ZlI z h];unfold Zq9
 by_cases hz:z<0
 ·obtain⟨n,rfl⟩:∃n:Nat,z= -(n:Int):=⟨z.natAbs,by omega⟩
  have lF:(-(n:Int)).natAbs=n:=by omega
  rw[if_pos hz,lF];have d0:decide (-(n:Int)<0)=true:=ZrI hz;have q1:=fun W=>ZjD n (by omega) W
  have hn:n≤128:=by omega
  have dD:=Zjw [45] (Zf8 n)
  have hB:(⟨(Zf8 n).toArray⟩:ByteArray).size≤3:=by
   rw[Zel];unfold Zf8
   split
   ·simp[ZdF]
   ·split <;> simp[ZdF]
  generalize (⟨([45]++Zf8 n).toArray⟩:ByteArray)=C at *;generalize (⟨(Zf8 n).toArray⟩:ByteArray)=B at *;replace dD:=Zrr dD;clear lF h
  go_enter Tryz.func50,Tryz.ntmps50
  go_wp2_with fail;refine(q1 _).mono ?_;rintro e w1 ⟨rfl,rfl⟩;go_wp2_with fail;go_ret;exact⟨by rw[←dD.out];rfl,rfl⟩
 ·obtain⟨n,rfl⟩:∃n:Nat,z=(n:Int):=⟨z.natAbs,by omega⟩
  rw[if_neg hz];exact ZjD n (by omega) w
theorem Zgs(g:Nat→List UInt8):∀(l:List (Nat × Nat)) (p:Nat × Nat),L.joinT g (l++[p])=L.joinT g l++((if l=[] then [] else [59,32])++(g p.1++[32]++g p.2))
 | [],p=>by simp[L.joinT]
 | q :: r,p=>by simp[L.joinT]
theorem Zl3(g:Nat→List UInt8)(el:List (Nat × Nat)):∀j,j≤el.length→∃r,L.joinT g el=L.joinT g (el.take j)++r:=fun j hj=>by
 induction h:el.length - j generalizing j with
 | zero=>exact⟨[],by rw[List.take_of_length_le (by omega)];simp⟩
 | succ k ih =>
   obtain⟨r,hr⟩:=ih (j+1) (by omega) (by omega);rw[List.take_add_one,Zry (by omega),Option.toList_some,Zgs]at hr;exact⟨_,by rw[hr,List.append_assoc]⟩
def ZiZ (g:Nat→List UInt8)(el:List (Nat × Nat))(j:Nat):List UInt8:=[40]++L.joinT g (el.take j)
theorem ZmA(g:Nat→List UInt8)(el:List (Nat × Nat)){j:Nat}(hj:j<el.length):ZiZ g el (j+1)=(if j=0 then ZiZ g el j else ZiZ g el j++[59,32])++g el[j].1++[32]++g el[j].2:=by
 unfold ZiZ;rw[List.take_add_one,Zry hj,Option.toList_some,Zgs]
 by_cases h0:j=0
 ·subst h0;simp[L.joinT]
 ·have:el.take j≠[]:=fun e=>by
   rcases List.take_eq_nil_iff.1 e with h|h
   ·exact h0 h
   ·rw[h]at hj;simp at hj
  rw[if_neg this,if_neg h0];simp
theorem ZpX(g:Nat→List UInt8)(el:List (Nat × Nat)){j:Nat}(hj:j≤el.length):(ZiZ g el j).length≤([40]++L.joinT g el++[41]).length:=by
 obtain⟨r,hr⟩:=Zl3 g el j hj;rw[hr];unfold ZiZ;simp
theorem ZqQ:∀n,n≤6→L.tB n≤4000000:=by decide
def Zco (l:List UInt8):ByteArray:=⟨l.toArray⟩
theorem Zci(a b:List UInt8):Zco a++Zco b=Zco (a++b):=Zjw a b
theorem Zb7(a:List UInt8):(Zco a).size=a.length:=Zel a
theorem Zm7{s:St}{l:List Int}(hi:L.Inv s)(bu:s.tree.length≤11)(iw:Zf1 s.tree=some l)(cK:L.SortedBel s.tree (s.tree.length - 1) l)(cE:l.length≤6):∀(a:Nat),a<s.nodes.length→∀ {w:World}{b o c:Nat}{vf:Value},Zag w b o s.tree→SlB w vf (L.tabO l (L.sem s.nodes a)) →
  Calls Tryz.prog 21 #[.slice (some ⟨b,o,none⟩) s.tree.length c,vf] w fun e w'=>e= .returned (.string (Zco (L.tx s.nodes a)))∧Below w.heap.size w w':=by
 intro a
 induction a using Nat.strongRecOn with
 | ind a ih =>
   intro ha w b o c vf ht hf;have hd:=hi.tabDep cK ha;have eh:=L.tabO_is cK.sorted hd;have hC:Zfd s.tree l (L.sem s.nodes a) (L.tabO l (L.sem s.nodes a)):=⟨hi.tree,bu,cE,iw,cK,eh,hd⟩;have t0:=(Zam hi.tree).1;have zy:=(L.tx_len hi bu a ha (s.tree.length - 1) (by omega) (Zbb hi ha)).2;have hM:(L.tx s.nodes a).length≤4000000:=ZrC zy (ZqQ _ (by have:=L.nv_le hi.tree (v:=s.tree.length - 1) (by omega);omega));have hNp:0<(L.tabO l (L.sem s.nodes a)).length:=by rw[eh.len];exact Nat.pos_of_ne_zero (by simp)
   have uY:(L.tabO l (L.sem s.nodes a))[0]=L.sem s.nodes a (L.asgI l 0):=by
    rw[←ZgV hNp,eh.get cK.sorted (by rw[←eh.len];exact hNp)]
   have yI:∀v,L.asgI l 0 v=false:=fun v=>by
    unfold L.asgI;rw[List.any_eq_false];intro k _;simp
   generalize hff:L.tabO l (L.sem s.nodes a)=f at *;replace hff:=Zrr hff;replace eh:=Zrr eh;have wI:=hf;obtain⟨bf,of,cf,rfl,jk,lB⟩:=hf;have c0:=lB 0 hNp;rw[uY]at c0;replace lB:=Zrr lB;have i0:(0:Int)<f.length:=by omega
   replace wI:=Zrr wI;rcases hi.kind ha with rfl|rfl|⟨h2,n,hn,hk⟩
   ·have hz:Zqk s.tree (L.sem s.nodes 0) (-1):=.inl ⟨rfl,L.const_hangs (fun x=>hi.sem0 x)⟩
    have q1:=ZdP (c:=c) hC ht wI.out hz;have mD:L.tx s.nodes 0=[70]:=by rw[L.tx_node hi.kids hi.zero];rfl
    rw[hi.sem0]at c0;rw[mD];replace hC:=Zrr hC;replace hi:=Zrr hi;clear uY mD hd
    go_enter Tryz.func21,Tryz.ntmps21
    go_wp2_with fail;refine q1.mono ?_;rintro e w1 ⟨rfl,aF⟩;have c1:=(aF.cell (p:=⟨bf,of+0,none⟩) jk).trans c0;rw[Nat.add_zero]at c1;clear q1;go_wp2_with fail;go_ret;exact⟨rfl,aF⟩
   ·have hz:Zqk s.tree (L.sem s.nodes 1) (-1):=.inl ⟨rfl,L.const_hangs (fun x=>hi.sem1 x)⟩
    have q1:=ZdP (c:=c) hC ht wI.out hz;have mD:L.tx s.nodes 1=[84]:=by rw[L.tx_node hi.kids hi.one];rfl
    rw[hi.sem1]at c0;rw[mD];replace hC:=Zrr hC;replace hi:=Zrr hi;clear uY mD hd
    go_enter Tryz.func21,Tryz.ntmps21
    go_wp2_with fail;refine q1.mono ?_;rintro e w1 ⟨rfl,aF⟩;have c1:=(aF.cell (p:=⟨bf,of+0,none⟩) jk).trans c0;rw[Nat.add_zero]at c1;clear q1;go_wp2_with fail;go_ret;exact⟨rfl,aF⟩
   ·obtain⟨P,hP,ja⟩:=hi.placeOf cK h2 hn
    have q1:=ZdP (c:=c) hC ht wI.out (z:=P) (.inr ⟨P,rfl,ja⟩);have hPt:=ja.lt;have p0:decide ((P:Int)<0)=false:=ZrH (by omega);have p1:(0:Int)≤P:=by omega
    have p2:(P:Int)<s.tree.length:=by omega
    rcases hk with hk|hk
    ·obtain⟨u,y,e1,e2,e3,e4⟩:=hk.leaf
     have eu:u=P:=by omega
     subst eu;have mD:L.tx s.nodes a=Lib.itoa n.lit:=by rw[L.tx_node hi.kids hn,if_pos hk.el,if_pos hk.lit]
     rw[hi.semLit hn hk,yI]at c0;have ak:=fun W (hb:Below w.heap.size w W)=>(ht.below hb).node hPt
     rw[(Zrw e2).2]at ak;obtain⟨yl,yr,yv⟩:=y;simp only[Zai,ZrK,ZrN]at e3;obtain⟨⟨rfl,rfl⟩,hyv⟩:=e3;simp only at e4 ak;have hlit0:=hk.lit;rw[mD];replace ak:=Zrr ak;replace hC:=Zrr hC;replace hi:=Zrr hi;clear uY mD hd
     by_cases nR:0<n.lit
     ·have hv:yv=n.lit:=by omega
      rw[ZrI nR]at c0;subst hv;have qd:=fun W=>Zfl n.lit (by omega) W
      replace hk:=Zrr hk;replace hn:=Zrr hn;replace e2:=Zrr e2;replace e4:=Zrr e4;generalize n.lit=z at *
      go_enter Tryz.func21,Tryz.ntmps21
      go_wp2_with fail;refine q1.mono ?_;rintro e w1 ⟨rfl,aF⟩;have c1:=(aF.cell (p:=⟨bf,of+0,none⟩) jk).trans c0;rw[Nat.add_zero]at c1;obtain⟨n0,n1,n2⟩:=ak.out w1 aF;clear q1;go_wp2_with fail;refine(qd _).mono ?_;rintro e w2 ⟨rfl,rfl⟩;go_wp2_with fail;go_ret;exact⟨rfl,aF⟩
     ·have hv:yv= -n.lit:=by omega
      rw[ZrH nR]at c0;have qd:=fun W=>Zfl n.lit (by omega) W
      have km:wrap64 (-yv)=n.lit:=by unfold wrap64;omega
      have hneg2:IntKind.i64.wrap (-yv)=n.lit:=by rw[IntWalk.i64_in _ (by omega)];omega
      have hneg3:-yv=n.lit:=by omega
      replace hk:=Zrr hk;replace hn:=Zrr hn;replace e2:=Zrr e2;replace e4:=Zrr e4;replace hv:=Zrr hv;have hrz:-128≤n.lit∧n.lit≤128:=by omega
      generalize n.lit=z at *
      go_enter Tryz.func21,Tryz.ntmps21
      go_wp2_with fail;refine q1.mono ?_;rintro e w1 ⟨rfl,aF⟩;have c1:=(aF.cell (p:=⟨bf,of+0,none⟩) jk).trans c0;rw[Nat.add_zero]at c1;obtain⟨n0,n1,n2⟩:=ak.out w1 aF;clear q1;go_wp2_with fail;refine(qd _).mono ?_;rintro e w2 ⟨rfl,rfl⟩;go_wp2_with fail;go_ret;exact⟨rfl,aF⟩
    ·obtain⟨P',y,L',R',e1,e2,e3,e4,e5,l8⟩:=hi.elFit cK hn hk eh.out
     have eu:P'=P:=by omega
     subst eu;have q2:=fun W (hb:Below w.heap.size w W)=>Zj6 (c:=c) hC (ht.below hb) (wI.out.below hb) ja e2 e3 e4
     have jK:∀mk,L.Mask l (L.Bel s.tree L') mk→L.elsN f mk (2 ^ l.length)=n.el.map fun p=>(L.tabO l (L.sem s.nodes p.1),L.tabO l (L.sem s.nodes p.2)):=fun mk hm=>by
      obtain⟨lw,kX⟩:=l8 mk hm;exact L.els_law kX
     obtain⟨L2,R2,eL,eR,_,_,_⟩:=L.inner_ok hi.tree e2 e3;have ak:=fun W (hb:Below w.heap.size w W)=>(ht.below hb).node hPt
     rw[(Zrw e2).2]at ak;obtain⟨yl,yr,yv⟩:=y;simp only at e4 e5 ak eL eR;subst e4;have dl:decide (((L':Nat):Int)<0)=false:=ZrH (by omega)
     have aJ:n.el≠[]:=fun e=>by
      obtain⟨_,_,_,_,_,_,_,_,_,hp⟩:=hk.parts;have:=hp.two;rw[e]at this;simp at this
     have mD:L.tx s.nodes a=[40]++L.joinT (L.tx s.nodes) n.el++[41]:=by rw[L.tx_node hi.kids hn,if_neg aJ]
     have cy:=hk.kids;have ihx:=fun (x:Nat) (hx:x<a) W (hb:Below w.heap.size w W) v (hv:SlB W v (L.tabO l (L.sem s.nodes x)))=>ih x hx (by omega) (c:=c) (ht.below hb) hv
     rw[mD];rw[mD]at hM;have dQ:=fun j (hj:j≤n.el.length)=>ZrC (ZpX (L.tx s.nodes) n.el hj) hM
     have uu:=fun j (hj:j<n.el.length)=>ZmA (L.tx s.nodes) n.el hj
     have o5:ZiZ (L.tx s.nodes) n.el n.el.length++[41]=[40]++L.joinT (L.tx s.nodes) n.el++[41]:=by unfold ZiZ;rw[List.take_length]
     rw[←o5];replace ak:=Zrr ak;replace jK:=Zrr jK;replace cy:=Zrr cy;replace dQ:=Zrr dQ;replace uu:=Zrr uu;replace o5:=Zrr o5;replace ihx:=Zrr ihx;replace q2:=Zrr q2;replace hi:=Zrr hi;replace hn:=Zrr hn;replace hk:=Zrr hk;replace hC:=Zrr hC;replace mD:=Zrr mD;replace hM:=Zrr hM;replace l8:=Zrr l8;replace e2:=Zrr e2;replace e3:=Zrr e3;replace aJ:=Zrr aJ;clear uY hd zy c0 ih
     go_enter Tryz.func21,Tryz.ntmps21
     go_wp2_with fail;refine q1.mono ?_;rintro e w1 ⟨rfl,aF⟩;obtain⟨n0,n1,n2⟩:=ak.out w1 aF;have q3:=q2.out w1 aF;clear q1;go_wp2_with fail;refine q3.mono ?_;rintro e w2 ⟨mk,eZ,v2,rfl,kE,aL⟩;have kW:=Ze3 f mk (2 ^ l.length);have hp64:=ZbW cE;rw[jK.out mk eZ,List.length_map]at kW;rw[jK.out mk eZ]at kE;obtain⟨ba,cp,rfl⟩:∃ba cp,v2= .slice ba (n.el.map fun p=>(L.tabO l (L.sem s.nodes p.1),L.tabO l (L.sem s.nodes p.2))).length cp:=by obtain⟨ba,cp,e,_⟩:=kE;exact⟨ba,cp,e⟩
     have hE2d:Hid (∀j (hj:j<n.el.length),∃g p q,ba=some ⟨g,0,none⟩∧(w2.cell? ⟨g,j*2,none⟩=some p∧w2.cell? ⟨g,j*2+1,none⟩=some q)∧SlB w2 p (L.tabO l (L.sem s.nodes n.el[j].1))∧SlB w2 q (L.tabO l (L.sem s.nodes n.el[j].2))):=Zrr fun j hj=>by
      obtain⟨g,p,q,e,c,s1,s2⟩:=kE.cell (j:=j) (by rw[List.length_map];exact hj);simp only[List.getElem_map]at s1 s2;exact⟨g,p,q,e,c,s1.slB,s2.slB⟩
     rw[List.length_map];have uh:n.el.length≤64:=by omega
     clear kE kW hp64;obtain⟨En,dZ⟩:∃En,En=n.el.length:=⟨_,rfl⟩;rw[←dZ]at uh ⊢;replace dZ:=Zrr dZ;replace eZ:=Zrr eZ;have b2:=Zrr (aF.trans (aL.mono aF.size));have h0:Hid (Below w2.heap.size w2 w2∧Zco [40]=Zco (ZiZ (L.tx s.nodes) n.el 0)):=Zrr ⟨ZrE _ _,rfl⟩;clear q3 n0 n1 n2 aL;go_wp2_with fail
     go_loopw [7,8] (fun sv iv wr=>∃(j:Nat) (S:ByteArray),j≤En∧iv= .int .i64 (j:Nat)∧sv= .string S∧Hid (Below w2.heap.size w2 wr∧S=Zco (ZiZ (L.tx s.nodes) n.el j))) (fun _ iv _=>En - (intOf iv).toNat)
     case atStart=>exact⟨0,Zco [40],Nat.zero_le _,rfl,rfl,h0⟩
     case round =>
      clear h0;obtain⟨j,S,hj,rfl,rfl,hI⟩:=hrel
      by_cases aD:j<En
      ·have dlt:decide ((j:Int)<(En:Int))=true:=ZrI (by omega)
       have db:j<n.el.length:=by have:=dZ.out;omega
       obtain⟨g,vp,vq,rfl,⟨c1,c2⟩,s1,s2⟩:=hE2d.out j db;obtain⟨k1,k2⟩:=cy.out _ (ZrM db);have jP:=uu.out j db;have ey:=dQ.out (j+1) (by omega);rw[jP]at ey;generalize jN:n.el[j]=pq at *;obtain⟨p,q⟩:=pq;simp only at s1 s2 k1 k2 jP ey;have gP:=b2.out.trans (hI.out.1.mono b2.out.size);have fD:=hI.out.1.trans ((ZrE wr.heap.size wr).drew.mono hI.out.1.size);have uM:=b2.out.trans (fD.mono b2.out.size);have d1:wr.drew.cell? ⟨g,j*2,none⟩=some vp:=(fD.cell (Zrx w2 _ c1)).trans c1;have d2:wr.drew.cell? ⟨g,j*2+1,none⟩=some vq:=(fD.cell (Zrx w2 _ c2)).trans c2;have qp:=ihx.out p k1 wr.drew uM vp (s1.below fD);have i1:(0:Int)≤j:=by omega
       have i2:(j:Int)<En:=by omega
       have hS:=hI.out.2;have hX:=Zb7 (L.tx s.nodes p);have hY:=Zb7 (L.tx s.nodes q);replace jN:=Zrr jN;replace gP:=Zrr gP;replace fD:=Zrr fD;replace uM:=Zrr uM;replace s1:=Zrr s1;replace s2:=Zrr s2
       by_cases rC:j=0
       ·rw[if_pos rC]at jP ey
        have dj:decide ((j:Int) > 0)=false:=ZrH (by omega);have dj2:decide (0<j)=false:=ZrH (by omega);have nV:S.size=(ZiZ (L.tx s.nodes) n.el j).length:=by rw[hS,Zb7]
        have dW:Hid (S++Zco (L.tx s.nodes p)++Zco [32]++Zco (L.tx s.nodes q)=Zco (ZiZ (L.tx s.nodes) n.el (j+1))):=Zrr (by rw[jP,hS,Zci,Zci,Zci]);replace rC:=Zrr rC
        have az:S.size+(Zco (L.tx s.nodes p)).size+1+(Zco (L.tx s.nodes q)).size≤4000000:=by
         simp only[ZrB,ZrP,List.length_nil]at ey;omega
        generalize yF:Zco (L.tx s.nodes p)=X at *;generalize uC:Zco (L.tx s.nodes q)=Y at *;replace yF:=Zrr yF;replace uC:=Zrr uC;replace hX:=Zrr hX;replace hY:=Zrr hY;replace hS:=Zrr hS;replace nV:=Zrr nV;replace jP:=Zrr jP;replace ey:=Zrr ey;clear c1 c2;go_wp2_with fail;(refine wp_region_held_drew (S:=(fun W=>W.cell? ⟨g,j*2,none⟩=some vp∧W.cell? ⟨g,j*2+1,none⟩=some vq)) (by kernel_rfl) ?_ (fun aE=>?_))
        ·exact⟨d1,d2⟩
        (refine ZrR (i:=0) (v:=?_) rfl (by kernel_rfl) (fun _ _ _ h=>h) (Or.inl ⟨by rfl,?_⟩) (by assumption) ?_);rotate_left
        ·(intro w aB;(try dsimp only at aB);go_simp;first|done|with_reducible rfl)
        (try simp only[Act.put,Zrs,Zrt,Zru]);(refine ZrR (i:=1) (v:=?_) rfl (by kernel_rfl) (fun _ _ _ h=>h) (Or.inl ⟨by rfl,?_⟩) (by assumption) ?_);rotate_left
        ·(intro w aB;(try dsimp only at aB);go_simp;first|done|with_reducible rfl)
        (try simp only[Act.put,Zrs,Zrt,Zru]);(refine ZrR (i:=2) (v:=?_) rfl (by kernel_rfl) (fun _ _ _ h=>h) (Or.inl ⟨by rfl,?_⟩) (by assumption) ?_);rotate_left
        ·(intro w aB;(try dsimp only at aB);go_simp;first|done|with_reducible rfl)
        (try simp only[Act.put,Zrs,Zrt,Zru]);(refine ZrR (i:=3) (v:=?_) rfl (by kernel_rfl) (fun _ _ _ h=>h) (Or.inl ⟨by rfl,?_⟩) (by assumption) ?_);rotate_left
        ·(intro w aB;(try dsimp only at aB);go_simp;first|done|with_reducible rfl)
        (try simp only[Act.put,Zrs,Zrt,Zru]);(refine ZrR (i:=4) (v:=?_) rfl (by kernel_rfl) (fun _ _ _ h=>h) (Or.inl ⟨by rfl,?_⟩) (by assumption) ?_);rotate_left
        ·(intro w aB;(try dsimp only at aB);go_simp;first|done|with_reducible rfl)
        (try simp only[Act.put,Zrs,Zrt,Zru]);(refine ZrR (i:=5) (v:=?_) rfl (by kernel_rfl) (fun _ _ _ h=>h) (Or.inl ⟨by rfl,?_⟩) (by assumption) ?_);rotate_left
        ·(intro w aB;(try dsimp only at aB);go_simp;first|done|with_reducible rfl)
        (try simp only[Act.put,Zrs,Zrt,Zru]);(refine ZrR (i:=6) (v:=?_) rfl (by kernel_rfl) (fun _ _ _ h=>h) (Or.inl ⟨by rfl,?_⟩) (by assumption) ?_);rotate_left
        ·(intro w aB;(try dsimp only at aB);go_simp;first|done|with_reducible rfl)
        (try simp only[Act.put,Zrs,Zrt,Zru]);(refine ZrR (i:=10) (v:=?_) rfl (by kernel_rfl) (fun _ _ _ h=>h) (Or.inl ⟨by rfl,?_⟩) (by assumption) ?_);rotate_left
        ·(intro w aB;(try dsimp only at aB);go_simp;first|done|with_reducible rfl)
        (try simp only[Act.put,Zrs,Zrt,Zru]);(refine ZrR (i:=11) (v:=?_) rfl (by kernel_rfl) (fun _ _ _ h=>h) (Or.inl ⟨by rfl,?_⟩) (by assumption) ?_);rotate_left
        ·(intro w aB;(try dsimp only at aB);go_simp;first|done|with_reducible rfl)
        (try simp only[Act.put,Zrs,Zrt,Zru]);(refine ZrR (i:=12) (v:=?_) rfl (by kernel_rfl) (fun _ _ _ h=>h) (Or.inl ⟨by rfl,?_⟩) (by assumption) ?_);rotate_left
        ·(intro w aB;(try dsimp only at aB);go_simp;first|done|with_reducible rfl)
        (try simp only[Act.put,Zrs,Zrt,Zru]);(refine ZrR (i:=13) (v:=?_) rfl (by kernel_rfl) (fun _ _ _ h=>h) (Or.inl ⟨by rfl,?_⟩) (by assumption) ?_);rotate_left
        ·(intro w aB;(try dsimp only at aB);go_simp;first|done|with_reducible rfl)
        (try simp only[Act.put,Zrs,Zrt,Zru]);(refine ZrR (i:=14) (v:=?_) rfl (by kernel_rfl) (fun _ _ _ h=>h) (Or.inl ⟨by rfl,?_⟩) (by assumption) ?_);rotate_left
        ·(intro w aB;(try dsimp only at aB);go_simp;first|done|with_reducible rfl)
        (try simp only[Act.put,Zrs,Zrt,Zru]);(refine ZrR (i:=15) (v:=?_) rfl (by kernel_rfl) (fun _ _ _ h=>h) (Or.inl ⟨by rfl,?_⟩) (by assumption) ?_);rotate_left
        ·(intro w aB;(try dsimp only at aB);go_simp;first|done|with_reducible rfl)
        (try simp only[Act.put,Zrs,Zrt,Zru]);(refine wpAnyH_ready (rs:=[7]) (by kernel_rfl) (by simp) ?_);(refine ZaW rfl (fun K hK=>?_))
        ((rw[if_pos (by rfl)]);go_simp;(go_at_call 21);refine qp.mono ?_;rintro e w3 ⟨rfl,aU⟩;refine hK.out _ _ ⟨(aU.cell (Zrx _ _ d1)).trans d1,(aU.cell (Zrx _ _ d2)).trans d2⟩ (fun aE=>?_))
        (clear hK K)
        (try simp only[Act.put,Zrs,Zrt,Zru]);have jf:=fD.out.trans (aU.mono fD.out.size);have i6:=b2.out.trans (jf.mono b2.out.size);have tY:w3.cell? ⟨g,j*2,none⟩=some vp:=(aU.cell (Zrx _ _ d1)).trans d1;have tZ:w3.cell? ⟨g,j*2+1,none⟩=some vq:=(aU.cell (Zrx _ _ d2)).trans d2;have qq:=ihx.out q k2 w3 i6 vq (s2.out.below jf);rw[uC.out]at qq;clear qp d1 d2;(refine ZrR (i:=8) (v:=?_) rfl (by kernel_rfl) (fun _ _ _ h=>h) (Or.inl ⟨by rfl,?_⟩) (by assumption) ?_);rotate_left
        ·(intro w aB;(try dsimp only at aB);go_simp;first|done|with_reducible rfl|(rw[if_neg (by omega)]))
        (try simp only[Act.put,Zrs,Zrt,Zru]);(refine ZrR (i:=9) (v:=?_) rfl (by kernel_rfl) (fun _ _ _ h=>h) (Or.inl ⟨by rfl,?_⟩) (by assumption) ?_);rotate_left
        ·(intro w aB;(try dsimp only at aB);go_simp;first|done|with_reducible rfl|(rw[if_neg (by omega)]))
        (try simp only[Act.put,Zrs,Zrt,Zru]);(refine wpAnyH_ready (rs:=[16]) (by kernel_rfl) (by simp) ?_);(refine ZaW rfl (fun K hK=>?_))
        ((rw[if_pos (by rfl)]);go_simp;(go_at_call 21);refine qq.mono ?_;rintro e w4 ⟨rfl,aw⟩;refine hK.out _ _ ⟨(aw.cell (Zrx _ _ tY)).trans tY,(aw.cell (Zrx _ _ tZ)).trans tZ⟩ (fun aE=>?_))
        (clear hK K)
        (try simp only[Act.put,Zrs,Zrt,Zru]);(refine ZrR (i:=17) (v:=?_) rfl (by kernel_rfl) (fun _ _ _ h=>h) (Or.inl ⟨by rfl,?_⟩) (by assumption) ?_);rotate_left
        ·(intro w aB;(try dsimp only at aB);go_simp;first|done|with_reducible rfl|(rw[if_neg (by omega)]))
        (try simp only[Act.put,Zrs,Zrt,Zru]);(refine ZrR (i:=18) (v:=?_) rfl (by kernel_rfl) (fun _ _ _ h=>h) (Or.inl ⟨by rfl,?_⟩) (by assumption) ?_);rotate_left
        ·(intro w aB;(try dsimp only at aB);go_simp;first|done|with_reducible rfl)
        (try simp only[Act.put,Zrs,Zrt,Zru]);(refine wpAnyH_done (by kernel_rfl) ?_ _);have uH:=jf.trans (aw.mono jf.size);clear qq tY tZ;go_wp2_with fail;go_roundw
        case rel=>exact⟨j+1,_,by omega,by go_num,rfl,Zrr ⟨uH,by rw[←dW.out];rfl⟩⟩
        case measure=>simp[intOf];omega
       ·rw[if_neg rC]at jP ey
        have dj:decide ((j:Int) > 0)=true:=ZrI (by omega);have dj2:decide (0<j)=true:=ZrI (by omega);have nV:S.size=(ZiZ (L.tx s.nodes) n.el j).length:=by rw[hS,Zb7]
        have dW:Hid (S++Zco [59,32]++Zco (L.tx s.nodes p)++Zco [32]++Zco (L.tx s.nodes q)=Zco (ZiZ (L.tx s.nodes) n.el (j+1))):=Zrr (by rw[jP,hS,Zci,Zci,Zci,Zci]);replace rC:=Zrr rC
        have az:S.size+2+(Zco (L.tx s.nodes p)).size+1+(Zco (L.tx s.nodes q)).size≤4000000:=by
         simp only[ZrB,ZrP,List.length_nil]at ey;omega
        generalize yF:Zco (L.tx s.nodes p)=X at *;generalize uC:Zco (L.tx s.nodes q)=Y at *;replace yF:=Zrr yF;replace uC:=Zrr uC;replace hX:=Zrr hX;replace hY:=Zrr hY;replace hS:=Zrr hS;replace nV:=Zrr nV;replace jP:=Zrr jP;replace ey:=Zrr ey;clear c1 c2;go_wp2_with fail;(refine wp_region_held_drew (S:=(fun W=>W.cell? ⟨g,j*2,none⟩=some vp∧W.cell? ⟨g,j*2+1,none⟩=some vq)) (by kernel_rfl) ?_ (fun aE=>?_))
        ·exact⟨d1,d2⟩
        (refine ZrR (i:=0) (v:=?_) rfl (by kernel_rfl) (fun _ _ _ h=>h) (Or.inl ⟨by rfl,?_⟩) (by assumption) ?_);rotate_left
        ·(intro w aB;(try dsimp only at aB);go_simp;first|done|with_reducible rfl)
        (try simp only[Act.put,Zrs,Zrt,Zru]);(refine ZrR (i:=1) (v:=?_) rfl (by kernel_rfl) (fun _ _ _ h=>h) (Or.inl ⟨by rfl,?_⟩) (by assumption) ?_);rotate_left
        ·(intro w aB;(try dsimp only at aB);go_simp;first|done|with_reducible rfl)
        (try simp only[Act.put,Zrs,Zrt,Zru]);(refine ZrR (i:=2) (v:=?_) rfl (by kernel_rfl) (fun _ _ _ h=>h) (Or.inl ⟨by rfl,?_⟩) (by assumption) ?_);rotate_left
        ·(intro w aB;(try dsimp only at aB);go_simp;first|done|with_reducible rfl)
        (try simp only[Act.put,Zrs,Zrt,Zru]);(refine ZrR (i:=3) (v:=?_) rfl (by kernel_rfl) (fun _ _ _ h=>h) (Or.inl ⟨by rfl,?_⟩) (by assumption) ?_);rotate_left
        ·(intro w aB;(try dsimp only at aB);go_simp;first|done|with_reducible rfl)
        (try simp only[Act.put,Zrs,Zrt,Zru]);(refine ZrR (i:=4) (v:=?_) rfl (by kernel_rfl) (fun _ _ _ h=>h) (Or.inl ⟨by rfl,?_⟩) (by assumption) ?_);rotate_left
        ·(intro w aB;(try dsimp only at aB);go_simp;first|done|with_reducible rfl)
        (try simp only[Act.put,Zrs,Zrt,Zru]);(refine ZrR (i:=5) (v:=?_) rfl (by kernel_rfl) (fun _ _ _ h=>h) (Or.inl ⟨by rfl,?_⟩) (by assumption) ?_);rotate_left
        ·(intro w aB;(try dsimp only at aB);go_simp;first|done|with_reducible rfl)
        (try simp only[Act.put,Zrs,Zrt,Zru]);(refine ZrR (i:=6) (v:=?_) rfl (by kernel_rfl) (fun _ _ _ h=>h) (Or.inl ⟨by rfl,?_⟩) (by assumption) ?_);rotate_left
        ·(intro w aB;(try dsimp only at aB);go_simp;first|done|with_reducible rfl)
        (try simp only[Act.put,Zrs,Zrt,Zru]);(refine ZrR (i:=10) (v:=?_) rfl (by kernel_rfl) (fun _ _ _ h=>h) (Or.inl ⟨by rfl,?_⟩) (by assumption) ?_);rotate_left
        ·(intro w aB;(try dsimp only at aB);go_simp;first|done|with_reducible rfl)
        (try simp only[Act.put,Zrs,Zrt,Zru]);(refine ZrR (i:=11) (v:=?_) rfl (by kernel_rfl) (fun _ _ _ h=>h) (Or.inl ⟨by rfl,?_⟩) (by assumption) ?_);rotate_left
        ·(intro w aB;(try dsimp only at aB);go_simp;first|done|with_reducible rfl)
        (try simp only[Act.put,Zrs,Zrt,Zru]);(refine ZrR (i:=12) (v:=?_) rfl (by kernel_rfl) (fun _ _ _ h=>h) (Or.inl ⟨by rfl,?_⟩) (by assumption) ?_);rotate_left
        ·(intro w aB;(try dsimp only at aB);go_simp;first|done|with_reducible rfl)
        (try simp only[Act.put,Zrs,Zrt,Zru]);(refine ZrR (i:=13) (v:=?_) rfl (by kernel_rfl) (fun _ _ _ h=>h) (Or.inl ⟨by rfl,?_⟩) (by assumption) ?_);rotate_left
        ·(intro w aB;(try dsimp only at aB);go_simp;first|done|with_reducible rfl)
        (try simp only[Act.put,Zrs,Zrt,Zru]);(refine ZrR (i:=14) (v:=?_) rfl (by kernel_rfl) (fun _ _ _ h=>h) (Or.inl ⟨by rfl,?_⟩) (by assumption) ?_);rotate_left
        ·(intro w aB;(try dsimp only at aB);go_simp;first|done|with_reducible rfl)
        (try simp only[Act.put,Zrs,Zrt,Zru]);(refine ZrR (i:=15) (v:=?_) rfl (by kernel_rfl) (fun _ _ _ h=>h) (Or.inl ⟨by rfl,?_⟩) (by assumption) ?_);rotate_left
        ·(intro w aB;(try dsimp only at aB);go_simp;first|done|with_reducible rfl)
        (try simp only[Act.put,Zrs,Zrt,Zru]);(refine wpAnyH_ready (rs:=[7]) (by kernel_rfl) (by simp) ?_);(refine ZaW rfl (fun K hK=>?_))
        ((rw[if_pos (by rfl)]);go_simp;(go_at_call 21);refine qp.mono ?_;rintro e w3 ⟨rfl,aU⟩;refine hK.out _ _ ⟨(aU.cell (Zrx _ _ d1)).trans d1,(aU.cell (Zrx _ _ d2)).trans d2⟩ (fun aE=>?_))
        (clear hK K)
        (try simp only[Act.put,Zrs,Zrt,Zru]);have jf:=fD.out.trans (aU.mono fD.out.size);have i6:=b2.out.trans (jf.mono b2.out.size);have tY:w3.cell? ⟨g,j*2,none⟩=some vp:=(aU.cell (Zrx _ _ d1)).trans d1;have tZ:w3.cell? ⟨g,j*2+1,none⟩=some vq:=(aU.cell (Zrx _ _ d2)).trans d2;have qq:=ihx.out q k2 w3 i6 vq (s2.out.below jf);rw[uC.out]at qq;clear qp d1 d2;(refine ZrR (i:=8) (v:=?_) rfl (by kernel_rfl) (fun _ _ _ h=>h) (Or.inl ⟨by rfl,?_⟩) (by assumption) ?_);rotate_left
        ·(intro w aB;(try dsimp only at aB);go_simp;first|done|with_reducible rfl|(rw[if_neg (by omega)]))
        (try simp only[Act.put,Zrs,Zrt,Zru]);(refine ZrR (i:=9) (v:=?_) rfl (by kernel_rfl) (fun _ _ _ h=>h) (Or.inl ⟨by rfl,?_⟩) (by assumption) ?_);rotate_left
        ·(intro w aB;(try dsimp only at aB);go_simp;first|done|with_reducible rfl|(rw[if_neg (by omega)]))
        (try simp only[Act.put,Zrs,Zrt,Zru]);(refine wpAnyH_ready (rs:=[16]) (by kernel_rfl) (by simp) ?_);(refine ZaW rfl (fun K hK=>?_))
        ((rw[if_pos (by rfl)]);go_simp;(go_at_call 21);refine qq.mono ?_;rintro e w4 ⟨rfl,aw⟩;refine hK.out _ _ ⟨(aw.cell (Zrx _ _ tY)).trans tY,(aw.cell (Zrx _ _ tZ)).trans tZ⟩ (fun aE=>?_))
        (clear hK K)
        (try simp only[Act.put,Zrs,Zrt,Zru]);(refine ZrR (i:=17) (v:=?_) rfl (by kernel_rfl) (fun _ _ _ h=>h) (Or.inl ⟨by rfl,?_⟩) (by assumption) ?_);rotate_left
        ·(intro w aB;(try dsimp only at aB);go_simp;first|done|with_reducible rfl|(rw[if_neg (by omega)]))
        (try simp only[Act.put,Zrs,Zrt,Zru]);(refine ZrR (i:=18) (v:=?_) rfl (by kernel_rfl) (fun _ _ _ h=>h) (Or.inl ⟨by rfl,?_⟩) (by assumption) ?_);rotate_left
        ·(intro w aB;(try dsimp only at aB);go_simp;first|done|with_reducible rfl)
        (try simp only[Act.put,Zrs,Zrt,Zru]);(refine wpAnyH_done (by kernel_rfl) ?_ _);have uH:=jf.trans (aw.mono jf.size);clear qq tY tZ;go_wp2_with fail;go_roundw
        case rel=>exact⟨j+1,_,by omega,by go_num,rfl,Zrr ⟨uH,by rw[←dW.out];rfl⟩⟩
        case measure=>simp[intOf];omega
      ·have dlt:decide ((j:Int)<(En:Int))=false:=ZrH (by omega)
       obtain rfl:En=j:=by omega
       have hS:=hI.out.2;have ey:=dQ.out En (by have:=dZ.out;omega);have nV:S.size≤4000000:=by rw[hS,Zb7];exact ey
       have aa:Hid (S++Zco [41]=Zco (ZiZ (L.tx s.nodes) n.el n.el.length++[41])):=Zrr (by rw[hS,Zci,dZ.out]);have gP:=b2.out.trans (hI.out.1.mono b2.out.size);replace hS:=Zrr hS;replace ey:=Zrr ey;go_wp2_with fail;go_ret;exact⟨by rw[←aa.out];rfl,gP⟩
end Go.Proofs.YtemnmcfmabamcaaGreatDoor
end
