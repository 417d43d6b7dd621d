import Derived.Test.YtemnmcfmabamcaaGreatDoorYVs8
import Derived.Test.YtemnmcfmabamcaaGreatDoorYVs12
set_option linter.unusedSimpArgs false
set_option linter.unusedVariables false
set_option maxRecDepth 100000
set_option maxHeartbeats 4000000
section
namespace Go.Proofs.YtemnmcfmabamcaaGreatDoor
open Go Go.RowKit Go.Shelf
def Znv (w:World)(v:Value)(ms:List (Nat × Nat)):Prop:=∃(ba:Option Addr) (cp:Nat),v= .slice ba ms.length cp∧(ms=[]∨∃g,ba=some ⟨g,0,none⟩∧g<w.heap.size∧∀j (hj:j<ms.length),w.cell? ⟨g,j*2,none⟩=some (.int .i64 (ms[j].1:Nat))∧w.cell? ⟨g,j*2+1,none⟩=some (.int .i64 (ms[j].2:Nat)))
theorem Znv.below{w w':World}{v:Value}{ms:List (Nat × Nat)}(h:Znv w v ms)(hb:Below w.heap.size w w'):Znv w' v ms:=by
 obtain⟨ba,cp,rfl,h|⟨g,rfl,hg,hc⟩⟩:=h
 ·exact⟨ba,cp,rfl,.inl h⟩
 ·exact⟨_,cp,rfl,.inr ⟨g,rfl,ZrD hg hb.size,fun j hj=>⟨(hb.cell (show (⟨g,j*2,none⟩:Addr).block<w.heap.size from hg)).trans (hc j hj).1,(hb.cell (show (⟨g,j*2+1,none⟩:Addr).block<w.heap.size from hg)).trans (hc j hj).2⟩⟩⟩
theorem Zms{w:World}{N n:Nat}{v:Value}{ms:List (Nat × Nat)}(h:w.ownsRow N 45 2 v n (ZbL ms))(hn:n=ms.length):Znv w v ms:=by
 subst hn;rcases ZaT h with ⟨e,h0⟩|⟨g,cp,rfl⟩
 ·exact⟨none,0,by rw[h0];exact e,.inl (List.eq_nil_of_length_eq_zero h0)⟩
 ·refine⟨_,cp,rfl,.inr ⟨g,rfl,(Zap h rfl).1,fun j hj=>?_⟩⟩
  obtain⟨h1,h2⟩:=ZfH ms j hj;exact⟨by rw[h.cellAt (j*2) (by omega),h1],by rw[h.cellAt (j*2+1) (by omega),h2]⟩
theorem Znv.some{w:World}{v:Value}{ms:List (Nat × Nat)}(h:Znv w v ms)(h0:0<ms.length):∃g cp,v= .slice (some ⟨g,0,none⟩) ms.length cp∧g<w.heap.size∧∀j (hj:j<ms.length),w.cell? ⟨g,j*2,none⟩=some (.int .i64 (ms[j].1:Nat))∧w.cell? ⟨g,j*2+1,none⟩=some (.int .i64 (ms[j].2:Nat)):=by
 obtain⟨ba,cp,rfl,h|⟨g,rfl,hg,hc⟩⟩:=h
 ·rw[h]at h0;simp at h0
 ·exact⟨g,cp,rfl,hg,hc⟩
theorem Zro(a b c d:Int)(w:World):(Op.equalIn 10000 45 (.agg #[.int .i64 a,.int .i64 b]) (.agg #[.int .i64 c,.int .i64 d])).run Tryz.prog w= .ok (decide (a=c) && decide (b=d)) w:=by
 rw[run_equalIn_agg w _ _ _ _ (by kernel_rfl) (by kernel_rfl)];simp[go_sem]
 by_cases h1:a=c <;> by_cases h2:b=d <;> simp[h1,h2]
def wkT:L.Tr:=.node (.node (.leaf 1) (.leaf 2)) (.leaf 3)
def wkU:L.Tr:=.node (.leaf 1) (.node (.leaf 2) (.leaf 3))
theorem Znl:ZbI wkT [1,2,3]:=⟨by decide,by decide,by decide,by decide,fun v=>by simp[wkT,L.Tr.vars]⟩
theorem Zrq:L.searchT [1,2,3] (L.tabO [1,2,3] (Znt 3)) (wkT.post 0).length 1 (wkT,[])=(wkU,[(4,1)]):=by kernel_rfl
def Zo5:ByteArray:=⟨#[40,49,32,40,50,32,51,41,41,32,40,45,49,32,70,59,32,49,32,40,45,50,32,70,59,32,50,32,51,41,41]⟩
theorem ZoK:shB wkU (wkU.post 0) (Znt 3)=Zo5:=by
 unfold shB;rw[show wkU.post 0=t4v from rfl,ZoI (φ:=Znt 3) (fun y=>by simp[Znt,List.range_succ])]
 rfl
theorem Zjk(w:World)(hz:ZaY w)(hp:Zaz w):Calls Tryz.prog 12 #[] w fun e w'=>e= .returned (.bool true)∧Below w.heap.size w w':=by
 have q1:=Zlw (n:=3) Znl hz hp (by omega) (fun i hi=>by
  obtain rfl|rfl|rfl:i=0∨i=1∨i=2:=by omega
  all_goals simp[wkT,L.Tr.vars])
 rw[show Zco (L.prT wkT)=⟨#[40,40,49,32,50,41,32,51,41]⟩ from rfl]at q1
 go_enter Tryz.func12,Tryz.ntmps12
 go_wp2_with fail;refine q1.mono ?_;rintro e w1 ⟨sb1,r1,rfl,h1,aF⟩;have q2:=ZgA (k:=1) h1 Znl.root Znl (hz.same (aF.block _ hz.lt')) (hp.same (aF.block _ hp.lt)) (by omega);unfold ZdT at q2;rw[Zrq]at q2;clear q1;go_wp2_with fail;refine q2.mono ?_;rintro e w2 ⟨sb2,r2,v2,rfl,h2,zQ,aV,aL⟩;have b2:=aF.trans (aL.mono aF.size);have eY:=Zms aV rfl;have q3:=ZmS h2 zQ.root (hp.same (b2.block _ hp.lt)) zQ.pr;rw[ZoK]at q3;unfold Zo5 at q3;obtain⟨g2,cp2,rfl,_,fM⟩:=eY.some (by decide);have c20:=(fM 0 (by decide)).1;have c21:=(fM 0 (by decide)).2;have dF:=Zrx _ _ c20;simp only[ZrP,List.length_nil,List.getElem_cons_zero]at c20 c21 dF ⊢;replace h2:=Zrr h2;clear q2 eY aV fM;go_wp2_with fail;refine q3.mono ?_;rintro e w3 ⟨rfl,aU⟩;have d20:=(aU.cell dF).trans c20;have d21:=(aU.cell dF).trans c21;have pv:=fun W=>Zro 4 1 4 1 W
 clear q3;go_wp2_with fail;go_ret;exact⟨rfl,b2.trans (aU.mono b2.size)⟩
theorem Zj2(X:ByteArray):(X ==X)=true:=by
 obtain⟨d⟩:=X
 show (d ==d)=true
 exact beq_self_eq_true d
theorem ZjH(l:List Int)(f:List Bool):∀(is:List Nat) (s:L.Tr × List (Nat × Nat)),(is.foldl (L.stepT l f) s).2.length≤s.2.length+is.length
 | [],s=>by simp
 | i :: r,s=>by
   rw[List.foldl_cons];have h:=ZjH l f r (L.stepT l f s i)
   have h2:(L.stepT l f s i).2.length≤s.2.length+1:=by
    rcases L.stepT_or l f s i with ⟨e,_⟩|⟨kd,U,e,_⟩
    ·rw[e];omega
    ·rw[e];simp
   simp only[ZrP];omega
theorem ZfS(l:List Int)(f:List Bool)(n:Nat):∀(k:Nat) (s:L.Tr × List (Nat × Nat)),(L.searchT l f n k s).2.length≤s.2.length+k*n
 | 0,s=>by simp[L.searchT]
 | k+1,s=>by
   have hp:(L.passT l f n s).2.length≤s.2.length+n:=by
    have:=ZjH l f (List.range n) s;rw[List.length_range]at this;exact this
   have he:(k+1)*n=k*n+n:=Nat.succ_mul k n;unfold L.searchT;simp only
   split
   ·omega
   ·have:=ZfS l f n k (L.passT l f n s)
    omega
def Zrj (p:Option Addr)(err:Int)(G:List Int→Prop)(w:World):Prop :=
 ∀(W:World) (v:Value) (l:List Int),Below w.heap.size w W→SlI W v l→l.length≤2→G l→Calls Tryz.prog 39 #[.pointer p,v] W fun e w'=>e= .returned (.int .i64 err)∧Ext W w'
theorem Zrj.ext{p:Option Addr}{err:Int}{G:List Int→Prop}{w w':World}(h:Zrj p err G w)(hx:Below w.heap.size w w'):Zrj p err G w' :=fun W v l hb=>h W v l (hx.trans (hb.mono hx.size))
theorem Zqs{p:Option Addr}{err:Int}{G:List Int→Prop}{w:World}{a:Int}(hR:Zrj p err G w)(hg:G [a])(he:(err !=0)=true) :
  Calls Tryz.prog 41 #[.pointer p,.int .i64 a] w fun e w'=>e= .returned (.tuple #[.int .i64 0,.int .i64 err])∧Ext w w':=by
 have hx:=(Ext.refl w).alloc (.cells #[.int .i64 a] 3);have hz:=Zrz w (.cells #[.int .i64 a] 3)
 go_enter Tryz.func41,Tryz.ntmps41
 go_wp2_with fail;generalize w.alloc (.cells #[.int .i64 a] 3)=w1 at *;have hq:=hR w1 _ _ hx.below (ZdO hz) (by simp) hg;clear hz;refine hq.mono ?_;rintro e w2 ⟨rfl,aO⟩;go_wp2_with fail;go_ret2;exact⟨rfl,hx.trans aO⟩
def Zln (err:Int)(w:World)(e:Ending)(w':World):Prop:=e= .returned (.tuple #[.pointer none,.int .i64 0,.slice none 0 0,.int .i64 err])∧Below w.heap.size w w'
theorem ZpY{t:List VN}{φ:L.Asg→Bool}{sb r0:Nat}{w:World}{r:Int}(h:Zc0 t φ sb r0 w)(hR:Zrj (some ⟨sb,0,none⟩) 1 (fun l=>r∈l) w)(k:Int):Calls Tryz.prog 15 #[.pointer (some ⟨sb,0,none⟩),.int .i64 r,.int .i64 k] w (Zln 1 w):=by
 have t0:=(Zam h.chk).1;have dne:((t.length:Int) ==0)=false:=by rw[beq_eq_false_iff_ne];omega
 have q1:=h.tree;have q2:=fun W (hb:Below w.heap.size w W)=>Zqs (hR.ext hb) (a:=r) (by simp) (by decide)
 replace q2:=Zrr q2
 go_enter Tryz.func15,Tryz.ntmps15
 go_wp2_with fail
 go_step3
 go_wp2_with fail;refine q1.mono ?_;rintro e w1 ⟨g1,c1,rfl,_,_,aF⟩;have cZ:=q2.out w1 aF;clear q1;go_wp2_with fail;refine cZ.mono ?_;rintro e w2 ⟨rfl,aO⟩;clear cZ;go_wp2_with fail
 try rw[Exit.noGoto_ret]
 refine bodyPost_ret (v:=.tuple #[.pointer none,.int .i64 0,.slice none 0 0,.int .i64 1]) (by simp[results,Tryz.results15,go_sem]) rfl ⟨rfl,aF.trans (aO.below.mono aF.size)⟩
theorem Zjc{t:List VN}{φ:L.Asg→Bool}{sb r:Nat}{w:World}(h:Zc0 t φ sb r w)(k:Int)(hk:k<0∨100<k):Calls Tryz.prog 15 #[.pointer (some ⟨sb,0,none⟩),.int .i64 (r:Nat),.int .i64 k] w (Zln 1 w):=by
 have t0:=(Zam h.chk).1;have dne:((t.length:Int) ==0)=false:=by rw[beq_eq_false_iff_ne];omega
 have q1:=h.tree;have q2:=fun W (hb:Below w.heap.size w W)=>(h.below hb).at
 replace q2:=Zrr q2
 by_cases h0:k<0
 ·have d0:decide (k<0)=true:=ZrI h0
  go_enter Tryz.func15,Tryz.ntmps15
  go_wp2_with fail
  go_step3
  go_wp2_with fail;refine q1.mono ?_;rintro e w1 ⟨g1,c1,rfl,_,_,aF⟩;obtain⟨z,cZ⟩:=q2.out w1 aF;clear q1;go_wp2_with fail;refine cZ.mono ?_;rintro e w2 ⟨rfl,aL⟩;clear cZ;go_wp2_with fail
  try rw[Exit.noGoto_ret]
  refine bodyPost_ret (v:=.tuple #[.pointer none,.int .i64 0,.slice none 0 0,.int .i64 1]) (by simp[results,Tryz.results15,go_sem]) rfl ⟨rfl,aF.trans (aL.mono aF.size)⟩
 ·have d0:decide (k<0)=false:=ZrH h0
  have h1:100<k:=by omega
  have d1:decide (k > 100)=true:=ZrI h1
  go_enter Tryz.func15,Tryz.ntmps15
  go_wp2_with fail
  go_step3
  go_wp2_with fail;refine q1.mono ?_;rintro e w1 ⟨g1,c1,rfl,_,_,aF⟩;obtain⟨z,cZ⟩:=q2.out w1 aF;clear q1;go_wp2_with fail;refine cZ.mono ?_;rintro e w2 ⟨rfl,aL⟩;clear cZ;go_wp2_with fail
  try rw[Exit.noGoto_ret]
  refine bodyPost_ret (v:=.tuple #[.pointer none,.int .i64 0,.slice none 0 0,.int .i64 1]) (by simp[results,Tryz.results15,go_sem]) rfl ⟨rfl,aF.trans (aL.mono aF.size)⟩
structure ZaJ (w:World) (v:Value) (w':World) (v':Value):Prop where
 size:w.heap.size≤w'.heap.size
 block:∀k,k<w.heap.size→v.ownBlock≠some k→w'.heap[k]? =w.heap[k]?
 row:∀g,v'.ownBlock=some g→v.ownBlock=some g∨w.heap.size≤g
theorem ZaJ.trans{w w1 w2:World}{v v1 v2:Value}(h:ZaJ w v w1 v1)(k:ZaJ w1 v1 w2 v2):ZaJ w v w2 v2 where
 size:=ZrC h.size k.size
 block:=fun i hi hv=>(k.block i (ZrD hi h.size) (fun e=>by rcases h.row i e with e'|e';exact hv e';omega)).trans (h.block i hi hv)
 row:=fun g e=>by
  rcases k.row g e with e'|e'
  ·exact h.row g e'
  ·exact .inr (ZrC h.size e')
theorem ZaJ.below{w w':World}(v:Value)(h:Below w.heap.size w w'):ZaJ w v w' v:=⟨h.size,fun k hk _=>h.block k hk,fun _ e=>.inl e⟩
theorem ZcP{w0 w1 w2:World}{out:List VN}{x:VN}{v:Value}{g cp:Nat}(hb:Below w0.heap.size w0 w1)(hr:w1.ownsRow w0.heap.size 78 3 v out.length (Zal out))(ho:w2.ownsRow w0.heap.size 78 3 (.slice (some ⟨g,0,none⟩) (out.length+1) cp) (out.length+1) (Zal out++[.int .i64 x.left,.int .i64 x.right,.int .i64 x.var]))
  (hg:w1.grownBy w2 v.ownBlock) (hgg:v.ownBlock=some g∨g=w1.heap.size) :
  Below w0.heap.size w0 w2∧w2.ownsRow w0.heap.size 78 3 (.slice (some ⟨g,0,none⟩) (out.length+1) cp) (out++[x]).length (Zal (out++[x]))∧ZaJ w1 v w2 (.slice (some ⟨g,0,none⟩) (out.length+1) cp):=by
 refine⟨Below.grown hb hg hb.size (fun k hk=>Zay hr hk),Zak ho (by simp) (by rw[Zat]),⟨hg.size,fun k hk hv=>hg.block k hk (fun e=>hv e.symm),fun k hk=>?_⟩⟩;have:k=g:=(Option.some.inj hk).symm;subst this;exact hgg.imp id (fun e=>by omega)
def Zq6 (w0:World)(t:List VN)(b o c:Nat)(U:L.Tr):Prop:=∀(i:Nat) (out:List VN) (v:Value) (wr:World),L.IsT L.idc t i U→Below w0.heap.size w0 wr→wr.ownsRow w0.heap.size 78 3 v out.length (Zal out)→out.length+U.size≤255 →
 Calls Tryz.prog 78 #[.slice (some ⟨b,o,none⟩) t.length c,.int .i64 (i:Int),v] wr
  fun e w'=>∃g cp,e= .returned (.slice (some ⟨g,0,none⟩) (out.length+U.size) cp)∧w'.ownsRow w0.heap.size 78 3 (.slice (some ⟨g,0,none⟩) (out.length+U.size) cp) (out++U.post out.length).length (Zal (out++U.post out.length))∧Below w0.heap.size w0 w'∧ZaJ wr v w' (.slice (some ⟨g,0,none⟩) (out.length+U.size) cp)
theorem Zd7{w0:World}{t:List VN}{b o c:Nat}(ht:Zag w0 b o t):∀U,Zq6 w0 t b o c U
 | .leaf lv=>by
   intro i out v wr hT hB hR ac
   cases hT with
   | @leaf _ y h1 h2 =>
     obtain⟨hi,hy⟩:=Zrw h1;obtain⟨n0,n1,n2⟩:=(ht.below hB).node hi;rw[hy]at n0 n1 n2;obtain⟨iv,dN,cP,cI,dM⟩:=info_parts Zcn;obtain⟨yl,yr,yv⟩:=y;simp only at n0 n1 n2;have jn:yl= -1∧yr= -1:=by simp only[Zai,ZrK,ZrN]at h2;exact h2.1
     have aF:=(ZrE wr.heap.size wr).alloc (ZrQ _) (.cells #[.int .i64 yl,.int .i64 yr,.int .i64 yv] 78);have aC:=Zrz wr (.cells #[.int .i64 yl,.int .i64 yr,.int .i64 yv] 78);have ew:(0:Int)≤i:=by omega
     have jx:(i:Int)<t.length:=by omega
     have aI:=fun W=>Za7 ⟨yl,yr,yv⟩ W
     rw[h2]at aI;have ax:=Zrr (hB.trans (aF.mono hB.size));have aQ:=Zrr (hR.alloc (.cells #[.int .i64 yl,.int .i64 yr,.int .i64 yv] 78));obtain⟨k0,k1,k2⟩:=Za5 aC;have dh:=Zrr (ZaJ.below v aF);clear aF;replace aC:=Zrr aC;replace jn:=Zrr jn;obtain⟨nl,bU⟩:∃nl,nl=out.length:=⟨_,rfl⟩;have iH:nl+1≤255:=by rw[bU];exact ac
     replace bU:=Zrr bU;replace hR:=Zrr hR;clear h1 h2 ac hy
     go_enter Tryz.func78,Tryz.ntmps78
     go_wp2_with fail;generalize eJ:wr.alloc (.cells #[.int .i64 yl,.int .i64 yr,.int .i64 yv] 78)=w1 at *;clear eJ;generalize wr.heap.size=p at *;refine(aI _).mono ?_;rintro e w2 ⟨rfl,aO⟩;clear aI n0 n1 n2;have aS:=aO.below;have ay:=ax.out.trans (aS.mono ax.out.size);have bA:=Zaa aQ.out (fun _ hg=>aS.block _ (Zap aQ.out hg).1);have rx:=aO.cell k0;have dS:=aO.cell k1;have eD:=aO.cell k2;have eU:=(ZrE w2.heap.size w2).alloc (ZrQ _) (.cells #[.int .i64 yl,.int .i64 yr,.int .i64 yv] 78);have lM:=ay.trans (eU.mono ay.size);have cU:=bA.alloc (.cells #[.int .i64 yl,.int .i64 yr,.int .i64 yv] 78);have aH:∀u∈[Value.int .i64 yl,.int .i64 yr,.int .i64 yv],u.oneCell'=true:=by simp[Value.oneCell']
     have aG:=World.news_of_block (cs:=#[.int .i64 yl,.int .i64 yr,.int .i64 yv]) (t:=78) (fr:=(0,0)) (Zrz w2 (.cells #[.int .i64 yl,.int .i64 yr,.int .i64 yv] 78));have gL:=Zrr (dh.out.trans ((ZaJ.below v aS).trans (ZaJ.below v eU)));have io:=ay.size;rw[←bU.out]at cU;replace lM:=Zrr lM;clear eU aS ay bA k0 k1 k2
     go_wp2_with (at_builtin;(refine wpList_append_lies _ rfl _ _ 23 rfl w0.heap.size 78 iv _ 3 24 Tryz.underlying23 dN cP cI dM rfl (by decide) _ nl (Zal out) rfl cU ⟨w2.heap.size,0,none⟩ 1 1 [.int .i64 yl,.int .i64 yr,.int .i64 yv] rfl rfl aG aH (by omega) (by unfold maxLen;omega) (by omega) (by simp <;> omega) _ rfl ?_;intro g7 gK w7 bh cm bQ _))
     have dA:=cU;rw[bU.out]at bh dA;have aP:=ZcP (x:=⟨yl,yr,yv⟩) lM.out dA bh cm bQ;go_ret;refine⟨g7,gK,?_,?_,aP.1,?_⟩
     ·rw[bU.out];rfl
     ·have:=aP.2.1
      obtain⟨rfl,rfl⟩:=jn.out;exact this
     ·exact gL.out.trans aP.2.2
 | .node l r=>by
   intro i out v wr hT hB hR ac;have ihl:=Zd7 (c:=c) ht l;have ihr:=Zd7 (c:=c) ht r
   cases hT with
   | @node _ a b' y _ _ h1 h2 h3 h4 g1 g2 =>
     obtain⟨hi,hy⟩:=Zrw h1;obtain⟨n0,n1,n2⟩:=(ht.below hB).node hi;rw[hy]at n0 n1 n2;obtain⟨iv,dN,cP,cI,dM⟩:=info_parts Zcn;obtain⟨yl,yr,yv⟩:=y;simp only[L.idc]at n0 n1 n2 h3 h4;subst h3 h4;have yy:=l.pos;have hrp:=r.pos;have iH:out.length+(l.size+r.size+1)≤255:=ac;have aF:=(ZrE wr.heap.size wr).alloc (ZrQ _) (.cells #[.int .i64 (a:Nat),.int .i64 (b':Nat),.int .i64 yv] 78);have aC:=Zrz wr (.cells #[.int .i64 (a:Nat),.int .i64 (b':Nat),.int .i64 yv] 78);have ew:(0:Int)≤i:=by omega
     have jx:(i:Int)<t.length:=by omega
     have aI:=fun W=>Za7 ⟨(a:Nat),(b':Nat),yv⟩ W
     rw[h2]at aI;have ax:=Zrr (hB.trans (aF.mono hB.size));have aQ:=Zrr (hR.alloc (.cells #[.int .i64 (a:Nat),.int .i64 (b':Nat),.int .i64 yv] 78));have gI:v.ownBlock≠some wr.heap.size:=fun e=>by have:=(Zap hR e).1;omega
     obtain⟨k0,k1,k2⟩:=Za5 aC;have dh:=Zrr (ZaJ.below v aF);clear aF;replace aC:=Zrr aC;replace hR:=Zrr hR;replace gI:=Zrr gI;clear h1 h2 hy
     go_enter Tryz.func78,Tryz.ntmps78
     go_wp2_with fail;generalize eJ:wr.alloc (.cells #[.int .i64 (a:Nat),.int .i64 (b':Nat),.int .i64 yv] 78)=w1 at *;clear eJ;generalize wr.heap.size=p at *;refine(aI _).mono ?_;rintro e w2 ⟨rfl,aO⟩;clear aI n0 n1 n2;have aS:=aO.below;have ay:=ax.out.trans (aS.mono ax.out.size);have bA:=Zaa aQ.out (fun _ hg=>aS.block _ (Zap aQ.out hg).1);have rx:=aO.cell k0;have dS:=aO.cell k1;have eD:=aO.cell k2;have ae:=(aS.block p (Zrv aC.out).1).trans aC.out;have eQ:=Zrr (dh.out.trans (ZaJ.below v aS));have ql:=ihl a out v w2 g1 ay bA (by omega);replace ae:=Zrr ae;clear aS ay bA k0 k1 k2 ax aQ aC;go_wp2_with fail;refine ql.mono ?_;rintro e w3 ⟨gl,cl,rfl,cX,eI,cj⟩;have fh:=(cj.block p (Zrv ae.out).1 gI.out).trans ae.out
     have hvp3:(Value.slice (some ⟨gl,0,none⟩) (out.length+l.size) cl).ownBlock≠some p:=fun e=>by
      rcases cj.row p e with e'|e'
      ·exact gI.out e'
      ·have:=(Zrv ae.out).1;omega
     obtain⟨k0,k1,k2⟩:=Za5 fh;have cF:(out++l.post out.length).length=out.length+l.size:=by rw[ZrB,L.Tr.post_len]
     have qr:=ihr b' (out++l.post out.length) (.slice (some ⟨gl,0,none⟩) (out.length+l.size) cl) w3 g2 eI cX (by rw[cF];omega);rw[cF]at qr;have fX:IntKind.i64.wrap (((out.length+l.size:Nat):Int) - 1)=((out.length+l.size - 1:Nat):Int):=by rw[IntWalk.i64_in _ (by omega)];omega
     have bS:IntKind.i64.wrap (((out.length+l.size+r.size:Nat):Int) - 1)=((out.length+l.size+r.size - 1:Nat):Int):=by rw[IntWalk.i64_in _ (by omega)];omega
     obtain⟨zl,dC⟩:∃z:Int,z=((out.length+l.size - 1:Nat):Int):=⟨_,rfl⟩;obtain⟨zr,iz⟩:∃z:Int,z=((out.length+l.size+r.size - 1:Nat):Int):=⟨_,rfl⟩;rw[←dC]at fX;rw[←iz]at bS;obtain⟨bY,am⟩:∃o6,o6=out++l.post out.length++r.post (out.length+l.size):=⟨_,rfl⟩;have cE:bY.length=out.length+l.size+r.size:=by rw[am,ZrB,cF,L.Tr.post_len]
     rw[←am]at qr;have uK:=Zrr fh;have eS:=Zrr (eQ.out.trans cj);obtain⟨n3,eo⟩:∃n3,n3=out.length+l.size:=⟨_,rfl⟩;rw[←eo]at fX bS qr eS hvp3 cE;rw[←eo];obtain⟨n6,lE⟩:∃n6,n6=n3+r.size:=⟨_,rfl⟩;rw[←lE]at bS qr cE;have zG:n6+1≤255:=by omega
     replace dC:=Zrr dC;replace iz:=Zrr iz;replace am:=Zrr am;replace cF:=Zrr cF;replace cE:=Zrr cE;replace eo:=Zrr eo;replace lE:=Zrr lE;clear ql cX eI cj fh rx dS eD ac iH;go_wp2_with fail;refine qr.mono ?_;rintro e w6 ⟨gr,cr,rfl,du,ej,gM⟩;have dq0:=(ZrE w6.heap.size w6).alloc (ZrQ _) (.cells #[.int .i64 zl,.int .i64 zr,.int .i64 0] 78)
     have iT:=ej.trans (dq0.mono ej.size);have cU:=du.alloc (.cells #[.int .i64 zl,.int .i64 zr,.int .i64 0] 78);have aH:∀u∈[Value.int .i64 zl,.int .i64 zr,.int .i64 0],u.oneCell'=true:=by simp[Value.oneCell']
     have aG:=World.news_of_block (cs:=#[.int .i64 zl,.int .i64 zr,.int .i64 0]) (t:=78) (fr:=(0,0)) (Zrz w6 (.cells #[.int .i64 zl,.int .i64 zr,.int .i64 0] 78));have gL:=Zrr ((eS.out.trans gM).trans (ZaJ.below _ dq0));have io:=ej.size;rw[cE.out]at cU;replace iT:=Zrr iT;clear dq0 ej gM du qr k0 k1 k2 uK ae
     go_wp2_with (at_builtin;(refine wpList_append_lies _ rfl _ _ 23 rfl w0.heap.size 78 iv _ 3 24 Tryz.underlying23 dN cP cI dM rfl (by decide) _ n6 (Zal bY) rfl cU ⟨w6.heap.size,0,none⟩ 1 1 [.int .i64 zl,.int .i64 zr,.int .i64 0] rfl rfl aG aH (by omega) (by unfold maxLen;omega) (by omega) (by simp <;> omega) _ rfl ?_;intro g7 gK w7 bh cm bQ _))
     have dA:=cU;rw[←cE.out]at bh dA;have aP:=ZcP (x:=⟨zl,zr,0⟩) iT.out dA bh cm bQ;go_ret;have ft:out.length+(L.Tr.node l r).size=bY.length+1:=by rw[cE.out,lE.out,eo.out];simp only[L.Tr.size];omega
     have dD:out++(L.Tr.node l r).post out.length=bY++[⟨zl,zr,0⟩]:=by
      rw[am.out,dC.out,iz.out];simp[L.Tr.post]
     rw[ft,dD];have kI:=gL.out;rw[←cE.out]at kI;refine⟨g7,gK,?_,aP.2.1,aP.1,kI.trans aP.2.2⟩;rw[cE.out];rfl
theorem Zi6{w:World}{t:List VN}{b o c:Nat}{T:L.Tr}(ht:Zag w b o t)(hT:L.IsT L.idc t (t.length - 1) T)(eH:t.length≤255)(hs:T.size≤255) :
  Calls Tryz.prog 44 #[.slice (some ⟨b,o,none⟩) t.length c] w fun e w'=>∃g cp,e= .returned (.slice (some ⟨g,0,none⟩) (T.post 0).length cp)∧Zag w' g 0 (T.post 0)∧w.heap.size≤g∧Below w.heap.size w w':=by
 have t0:=hT.lt;have q:=Zd7 (c:=c) ht T (t.length - 1) [] (.slice none 0 0) w hT (ZrE _ _) (World.ownsRow_nil _ _ _ _) (by simpa using hs);have rp:IntKind.i64.wrap ((t.length:Int) - 1)=((t.length - 1:Nat):Int):=by rw[IntWalk.i64_in _ (by omega)];omega
 have d0:((t.length:Int) ==0)=false:=beq_eq_false_iff_ne.2 (by omega);have dQ:=L.Tr.post_len T 0;rw[List.nil_append,List.length_nil,Nat.zero_add,←dQ]at q;replace dQ:=Zrr dQ;replace hT:=Zrr hT
 go_enter Tryz.func44,Tryz.ntmps44
 go_wp2_with fail;refine q.mono ?_;rintro e w1 ⟨g,cp,rfl,hR,hB,_⟩;obtain⟨g',fR,e',jb,hg⟩:=Zha hR (by rw[dQ.out];exact T.pos)
 cases e'
 replace hR:=Zrr hR;replace jb:=Zrr jb;clear q;go_wp2_with fail;go_ret;exact⟨g,cp,rfl,jb.out,hg,hB⟩
end Go.Proofs.YtemnmcfmabamcaaGreatDoor
end
