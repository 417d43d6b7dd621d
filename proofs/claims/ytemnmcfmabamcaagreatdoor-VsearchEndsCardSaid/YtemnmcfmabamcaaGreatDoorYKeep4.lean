import Derived.Test.YtemnmcfmabamcaaGreatDoorYKeep3
set_option linter.unusedSimpArgs false
set_option linter.unusedVariables false
set_option maxRecDepth 100000
set_option maxHeartbeats 8000000
namespace Go.Proofs.YtemnmcfmabamcaaGreatDoor
open Go Go.RowKit Go.Shelf
def Zlm (B:Zar)(s:St)(l:List Nat)(w:World)(e:Ending)(w':World):Prop :=
 ∃(b:List Nat) (v:Value) (B':Zar),e= .returned (.tuple #[v,.int .i64 0])∧L.Closed s.nodes b∧(∀a∈l,a∈b)∧(∀x∈b,∃a∈0 :: 1 :: l,x≤a)∧w'.ownsRow w.heap.size 3 1 v l.length ((l.map (L.rankN b)).map ZbP)∧Rep B' (L.keepS s b) w'∧Stp [] B w B' w'
theorem Zmn{w:World}{sb o:Nat}{x0:Option Addr}{n0 c0:Nat}{m1 m3 m4 m5:Option Nat}{k:IntKind}{z:Int}{nv:Value}(ot:∀k z,nv≠.int k z)(h:w.heap[sb]? =some (.cells #[.slice x0 n0 c0,.map m1,nv,.map m3,.map m4,.map m5] ZaD (0,0)))(hc:w.cell? ⟨sb,o,none⟩=some (.int k z)):False:=by
 simp only[World.cell?,h]at hc
 match o with
 | 0=>simp at hc
 | 1=>simp at hc
 | 2=>simp at hc;exact ot _ _ hc
 | 3=>simp at hc
 | 4=>simp at hc
 | 5=>simp at hc
 | o+6=>simp at hc
def Zq3 (b l:List Nat)(w7:World)(k:Nat)(wr:World):Prop :=
 Below w7.heap.size w7 wr∧∃cs:Array Value,wr.heap[w7.heap.size]? =some (.cells cs 3 (0,0))∧cs.size=l.length∧∀j (hj:j<l.length),j<k→cs[j]? =some (.int .i64 (L.rankN b l[j]:Nat))
theorem Zn2{B:Zar}{s:St}{w:World}{v:Value}{l:List Nat}(h:Rep B s w)(ht:s.tree≠[])(lg:L.Inv s)(hv:SlI w v (l.map fun n:Nat=>(n:Int)))(hl:l.length≤1000000)(wR:∀a∈l,a<s.nodes.length) :
  Calls Tryz.prog 93 #[.pointer (some ⟨B.sb,0,none⟩),v] w (Zlm B s l w):=by
 obtain⟨i0,bz,bH,aj,av⟩:=info_parts Zdn;obtain⟨iN,hiN,hzN,hsN,hbN⟩:=info_parts ZhR;have bN:=h.small.1;have eH:=(Zam lg.tree).1
 obtain⟨o,vK,dX,aV,au,_,eG,zN⟩:=L.visAll_spec lg bN (f:=s.tree.length+1) (ZrQ _) (fun a ha=>⟨s.tree.length - 1,by omega,Zbb lg ha⟩) (0 :: 1 :: l) [] (fun a ha=>by
  have:=lg.len;rcases List.mem_cons.1 ha with rfl|ha
  ·omega
  ·rcases List.mem_cons.1 ha with rfl|ha
   ·omega
   ·exact wR a ha) List.nodup_nil (fun _ h=>by cases h) (fun _ h=>by cases h)
 have pB:o.length≤1048576:=ZrC (L.nodup_lt o _ dX aV) bN;have xH:0∈o:=eG 0 (by simp);have h1o:1∈o:=eG 1 (by simp)
 have gQ:Zgn s.nodes.length (l.map fun n:Nat=>(n:Int))=0:=by
  unfold Zgn;rw[if_pos];rw[List.all_eq_true];intro z hz;obtain⟨n,hn,rfl⟩:=List.mem_map.1 hz;have:=wR n hn;simp only[ZrK,ZrN];omega
 have q1:=Zdc h ht hv (by rw[List.length_map];omega);rw[gQ]at q1;obtain⟨ba,c,rfl,gA⟩:=hv;have ax:Below w.heap.size w (w.alloc (.cells #[.int .i64 0,.int .i64 1] 3)):=(ZrE _ _).alloc (ZrQ _) _
 have qF:(ba=none∧(l.map fun n:Nat=>(n:Int))=[]∧c=0)∨∃b o,ba=some ⟨b,o,none⟩∧∀j (hj:j<(l.map fun n:Nat=>(n:Int)).length),(w.alloc (.cells #[.int .i64 0,.int .i64 1] 3)).cell? ⟨b,o+j,none⟩=some (.int .i64 (l.map fun n:Nat=>(n:Int))[j]) :=
  gA.imp id (fun ⟨b,o,e,hc⟩=>⟨b,o,e,fun j hj=>(ax.cell (Zrx w _ (hc j hj))).trans (hc j hj)⟩)
 have aT:(w.alloc (.cells #[.int .i64 0,.int .i64 1] 3)).ownsRow w.heap.size 3 1 (.slice (some ⟨w.heap.size,0,none⟩) 2 2) 2 [.int .i64 0,.int .i64 1]:=World.ownsRow_lit w #[.int .i64 0,.int .i64 1] 2 (ZrQ _) (by unfold maxLen;omega) rfl;rw[List.length_map]at q1 ⊢;have ui:(l.map fun n:Nat=>(n:Int)).length=l.length:=List.length_map ..;have jy:∀(n:Nat) (w:World),(Instr.makeMap 62 (some (.int .i64 (n:Int)))).run Tryz.prog w= .ok (.map (some w.heap.size)) (w.alloc (.map #[] 0)):=fun n w=>rfl
 have iO:∀(n:Nat),n≤1048576→∀w:World,(Instr.makeSlice 63 (.int .i64 (n:Int)) (.int .i64 (n:Int))).run Tryz.prog w= .ok (.slice (some ⟨w.heap.size,0,none⟩) n n) (w.alloc (.cells (madeCells #[.int .i64 0,.int .i64 0,.slice none 0 0,.int .u64 0,.int .u64 0] (n*5)) 101)):=fun n hn w=>by
  have h1:=run_make (P:=Tryz.prog) w 63 101 iN _ Tryz.underlying63 hiN hzN .i64 .i64 n n (by omega) (Int.le_refl _) (by rw[hbN];omega) (by omega);simp only[Int.toNat_natCast,hsN]at h1;exact h1
 replace h:=Zrr h;replace lg:=Zrr lg;replace gQ:=Zrr gQ;replace vK:=Zrr vK;replace wR:=Zrr wR;replace iO:=Zrr iO;replace gA:=Zrr gA
 go_enter Tryz.func93,Tryz.ntmps93
 go_wp2_with fail;refine q1.mono ?_;rintro e w1 ⟨rfl,rfl⟩;clear q1
 go_wp2_with (at_builtin;refine ZeF rfl _ _ rfl w.heap.size i0 bz bH aj av _ 2 _ rfl aT ba c (l.map fun n:Nat=>(n:Int)) (by rw[ui];rfl) qF (by omega) ax.size ?_;intro v4 w4 an cB)
 have fC:Below w.heap.size w w4:=Below.grown ax cB ax.size (fun k e=>(Zay aT e));have zn:SlI w4 v4 ((0 :: 1 :: l).map fun n:Nat=>(n:Int)):=Zbi (Zak an (by simp;omega) (by simp[Zce]));have hq4:=ZhF (h.out.below fC) zn (by simp;omega) vK.out;clear an cB qF aT zn;refine hq4.mono ?_;rintro e w5 ⟨v5,rfl,us,ah⟩;have kC:=fC.trans (ah.mono fC.size);have hq5:=Zov us (by intro e;rw[e]at xH;cases xH) pB;clear hq4;go_wp2_with fail;refine hq5.mono ?_;rintro e w6 ⟨rfl,b,yP,fk,sw,wL⟩;have ej:Below w.heap.size w w6:=Below.grown kC wL kC.size (fun k e=>ZrC fC.size (by have:=Zay us e;omega));have kx:=L.closed_of dX aV au xH h1o yP fk;have rG:∀a∈l,a∈b:=fun a ha=>yP.mem_iff.2 (eG a (by simp[ha]))
 have dv:b.length≤1048576:=by rw[yP.length_eq];exact pB
 have si:Hid (∀x∈b,∃a∈0 :: 1 :: l,x≤a):=Zrr fun x hx=>(zN x (yP.mem_iff.1 hx)).resolve_left (fun h=>by cases h)
 clear zN;have du:=h.out.below ej;have hmk6:=iO.out b.length dv
 obtain⟨gb,cb,hvb,jX⟩:∃gb cb,v5= .slice (some ⟨gb,0,none⟩) b.length cb∧w.heap.size≤gb∧∃cs fz,w6.heap[gb]? =some (.cells cs 3 fz)∧∀j (hj:j<b.length),cs[j]? =some (.int .i64 (b[j]:Nat)):=by
  rcases sw.2 with ⟨_,e⟩|⟨gb,cb,cur,e1,e2,e3,e4,e5,e6,e7⟩
  ·have:b.length=o.length:=yP.length_eq
   have h2:0<o.length:=List.length_pos_iff.2 (by intro e;rw[e]at xH;cases xH);omega
  ·refine⟨gb,cb,e1,ZrC fC.size (by omega),cur,_,e3,fun j hj=>?_⟩
   have:(b.map ZbP)[j]? =some (ZbP b[j]):=by rw[List.getElem?_map,Zry hj];rfl
   rw[←e7,List.getElem?_take]at this
   split at this
   ·simpa [ZbP] using this
   ·cases this
 subst hvb;clear hq5 us sw wL;have z0:((w6.alloc (.map #[] 0)).alloc (.cells (madeCells #[.int .i64 0,.int .i64 0,.slice none 0 0,.int .u64 0,.int .u64 0] (b.length*5)) 101)).heap[w6.heap.size]? =some (.map #[] 0):=(Below.heap_alloc _ _ _ (by simp)).trans (Zrz _ _);have z1:((w6.alloc (.map #[] 0)).alloc (.cells (madeCells #[.int .i64 0,.int .i64 0,.slice none 0 0,.int .u64 0,.int .u64 0] (b.length*5)) 101)).heap[w6.heap.size+1]? =some (.cells (madeCells #[.int .i64 0,.int .i64 0,.slice none 0 0,.int .u64 0,.int .u64 0] (b.length*5)) 101 (0,0)):=Zaq _ _ _ (by simp);have rq:Ext w6 ((w6.alloc (.map #[] 0)).alloc (.cells (madeCells #[.int .i64 0,.int .i64 0,.slice none 0 0,.int .u64 0,.int .u64 0] (b.length*5)) 101)):=((Ext.refl w6).alloc _).alloc _;have nw:((w6.alloc (.map #[] 0)).alloc (.cells (madeCells #[.int .i64 0,.int .i64 0,.slice none 0 0,.int .u64 0,.int .u64 0] (b.length*5)) 101)).heap.size=w6.heap.size+2:=by simp
 go_wp2_with fail;generalize (w6.alloc (.map #[] 0)).alloc (.cells (madeCells #[.int .i64 0,.int .i64 0,.slice none 0 0,.int .u64 0,.int .u64 0] (b.length*5)) 101)=w8 at *;have kg:Hid (Zo8 s.nodes b w8 w6.heap.size (w6.heap.size+1) 0 w8):=Zrr ⟨⟨[],ZbG _ _ z0,fun j hj h=>by omega⟩,⟨_,[],z1,by simp[madeCells],rfl,fun j u hj=>by simp[Zcl]at hj,fun j hj=>by simp at hj,fun v hv=>by cases hv⟩,Fr.refl _ _⟩;have gN:=rq.below;generalize de:w6.heap.size=pm at *;have dV:Hid (∀wr,Fr [pm,pm+1] w8 wr→Below pm w6 wr):=Zrr fun wr hf=>⟨hf.os.trans gN.os,hf.tape.trans gN.tape,hf.output.trans gN.output,by rw[de];exact ZrC (by omega) hf.size,fun k hk=>(hf.block k (by omega) (by simp;omega)).trans (gN.block k hk)⟩
 obtain⟨sX,csb,fzb,qh,aN⟩:=jX;have hgbl:gb<pm:=by rw[←de];exact(Zrv qh).1
 have aT:Hid (∀wr,Fr [pm,pm+1] w8 wr→∀j (hj:j<b.length),wr.cell? ⟨gb,j,none⟩=some (.int .i64 (b[j]:Nat))):=Zrr fun wr hf j hj=>by
  have:=((dV.out wr hf).block gb hgbl).trans qh;have hc:=aN j hj;simp[World.cell?,this,hc]
 have hwp:w.heap.size≤pm:=by rw[←de];exact ej.size
 replace du:=Zrr du;replace aN:=Zrr aN;replace de:=Zrr de;replace qh:=Zrr qh;replace ej:=Zrr ej;replace kx:=Zrr kx;replace rG:=Zrr rG;replace nw:=Zrr nw;clear z0 z1 rq gN hmk6 kC fC
 go_loopw [39] (fun iv wr=>∃i:Nat,i≤b.length∧iv= .int .i64 i∧Hid (Zo8 s.nodes b w8 pm (pm+1) i wr)) (fun iv _=>b.length - (intOf iv).toNat)
 case atStart=>exact⟨0,Nat.zero_le _,rfl,kg⟩
 case round =>
  clear kg;obtain⟨i,hib,rfl,hI⟩:=hrel;obtain⟨⟨m,hm,wU⟩,⟨cs,vs,cA,nG,j6,jk,cN,mV⟩,et⟩:=hI.out;clear hI
  by_cases aD:i<b.length
  ·have ag:b[i]∈b:=ZrM aD
   obtain⟨n,hn⟩:=kx.out.node ag;have jY:(L.keepNodes s.nodes b)[i]? =some (L.renN b n):=L.keep_get (Zry aD) hn;have jw:=aT.out wr et i aD;obtain⟨uv,jG⟩:=hm.putI b[i] i
   have cy:∀p∈n.el,p.1∈b∧p.2∈b∧L.rankN b p.1<i∧L.rankN b p.2<i:=fun p hp=>by
    obtain⟨s1,s2⟩:=kx.out.shut _ ag n hn p hp;obtain⟨k1,k2⟩:=lg.out.kids _ n hn p hp;have e:L.rankN b b[i]=i:=kx.out.rank (Zry aD);refine⟨s1,s2,?_,?_⟩
    ·have:=(kx.out.mono s1 ag).1 k1;omega
    ·have:=(kx.out.mono s2 ag).1 k2;omega
   have mc:∀j (hj:j<b.length),j<i+1→asc ((b[i],i) :: m) b[j]=some j:=fun j hj wP=>by
    rw[ZaH];unfold upd
    by_cases e:b[j]=b[i]
    ·rw[if_pos e]
     have e1:=kx.out.rank (Zry hj);have e2:=kx.out.rank (Zry aD);rw[e]at e1
     congr 1;omega
    ·rw[if_neg e]
     exact wU j hj (by
      rcases Nat.lt_or_ge j i with h1|h1
      ·exact h1
      ·have:j=i:=by omega
       subst this;exact absurd rfl e)
   have mf:∀a∈b,L.rankN b a<i→ZdA ((b[i],i) :: m) a=L.rankN b a:=fun a ha hr=>by
    have hg:=L.rank_at ha;obtain⟨l1,e1⟩:=Zrw hg;have:=mc _ l1 (by omega);rw[e1]at this;unfold ZdA;rw[this]
   have kP:b[i] < s.nodes.length:=kx.out.lt _ ag;generalize bT:b[i]=a at *;have hf9:=et.seq (Zh4 3 wr pm (Zad a) (Zad i)) (fun x hx=>.inl (by simp at hx;simp[hx]));have bK:∀k,k≠pm→(Zas 3 Tryz.prog wr pm (Zad a) (Zad i)).heap[k]? =wr.heap[k]?:=fun k hk=>Zan _ _ _ _ _ k hk
   have hs9:(Zas 3 Tryz.prog wr pm (Zad a) (Zad i)).heap.size=wr.heap.size:=Zaw _ _ _ _ _;generalize Zas 3 Tryz.prog wr pm (Zad a) (Zad i)=w9 at *;have fZ:=du.out.below (de.out ▸ dV.out w9 hf9);obtain⟨v0,nz,_,n0,n1,n2,n3,n4⟩:=fZ.node hn;obtain⟨cap9,_,_,c9,_⟩:=fZ.cells;have ny:=(fZ.small.2 n (List.mem_of_getElem? hn));have hel9:n.el.length≤1048576:=ny.2.2.2.2.1;obtain⟨bv,cv,rfl,hv0'⟩:=id nz;clear hv0';have aC:=Zrz w9 (.cells #[.int .i64 n.pl,.int .i64 n.lit,.slice bv n.el.length cv,.int .u64 (lo n.le),.int .u64 (hi n.le)] 101);have hv10:Zcp (w9.alloc (.cells #[.int .i64 n.pl,.int .i64 n.lit,.slice bv n.el.length cv,.int .u64 (lo n.le),.int .u64 (hi n.le)] 101)) (.slice bv n.el.length cv) n.el:=nz.stay fun b hb _=>Below.heap_alloc _ _ _ hb
   have sT:=ZnN hv10 hel9;have fe:Below w9.heap.size w9 (w9.alloc (.cells #[.int .i64 n.pl,.int .i64 n.lit,.slice bv n.el.length cv,.int .u64 (lo n.le),.int .u64 (hi n.le)] 101)):=(ZrE _ _).alloc (ZrQ _) _;have uy:(w9.alloc (.cells #[.int .i64 n.pl,.int .i64 n.lit,.slice bv n.el.length cv,.int .u64 (lo n.le),.int .u64 (hi n.le)] 101)).heap.size=w9.heap.size+1:=by simp
   have d0:decide ((a:Int)<s.nodes.length)=true:=ZrI (by omega);have d1:decide (0≤(a:Int))=true:=ZrI (by omega);have hs9':pm+2≤w9.heap.size:=by have:=nw.out;have:=de.out;have:=et.size;omega
   replace hm:=Zrr hm;replace wU:=Zrr wU;replace cA:=Zrr cA;replace nG:=Zrr nG;replace j6:=Zrr j6;replace jk:=Zrr jk;replace cN:=Zrr cN;replace mV:=Zrr mV;replace et:=Zrr et;replace jY:=Zrr jY;replace hn:=Zrr hn;replace cy:=Zrr cy;replace mc:=Zrr mc;replace mf:=Zrr mf;replace bT:=Zrr bT;replace hf9:=Zrr hf9;replace bK:=Zrr bK;replace hs9:=Zrr hs9;replace fZ:=Zrr fZ;replace jG:=Zrr jG;replace aC:=Zrr aC;replace uy:=Zrr uy;replace ny:=Zrr ny;clear nz hv10;go_wp2_with fail;generalize rj:w9.alloc (.cells #[.int .i64 n.pl,.int .i64 n.lit,.slice bv n.el.length cv,.int .u64 (lo n.le),.int .u64 (hi n.le)] 101)=jB at *;replace rj:=Zrr rj;refine sT.mono ?_;rintro e sA ⟨bc,cc,rfl,uG,kN⟩;generalize hx:w9.heap.size=x at *;have hs10':jB.heap.size=x+1:=uy.out;have l5:=(kN.block x (by omega)).trans aC.out;obtain⟨x0,x1,x2,x3,x4,xf⟩:=Zbt l5;have xf2:=xf 2;have l6:=Zaj l5 2 (.slice bc n.el.length cc);have qV:Below (x+1) jB sA:=kN.mono (by omega)
   have xR:Hid (ElL n.el (fun p=>(L.rankN b p.1,L.rankN b p.2)) (sA.setCell ⟨x,2,none⟩ (.slice bc n.el.length cc)) bc (x+1) 0 (sA.setCell ⟨x,2,none⟩ (.slice bc n.el.length cc))):=Zrr
    ⟨ZrE _ _,uG.imp (fun h=>⟨h.1,h.2.1⟩) (fun ⟨g,cs,e1,e2,e3,e4⟩=>⟨g,cs,e1,by omega,(Below.heap_setCell _ _ _ _ (by show g≠x;omega)).trans e3,fun j u hj=>e4 j u (by simpa using hj)⟩)⟩
   have iC:Hid ((n.el=[]∧bc=none∧cc=0)∨∃g:Nat,bc=some ⟨g,0,none⟩):=Zrr (uG.imp id (fun ⟨g,_,e1,_⟩=>⟨g,e1⟩));have pD:Hid (∀k,k<x→(sA.setCell ⟨x,2,none⟩ (.slice bc n.el.length cc)).heap[k]? =w9.heap[k]?):=Zrr fun k hk=>(Below.heap_setCell _ _ _ _ (by show k≠x;omega)).trans ((kN.block k (by omega)).trans (fe.block k (by omega)))
   have hs12:x+1≤(sA.setCell ⟨x,2,none⟩ (.slice bc n.el.length cc)).heap.size:=by have:=kN.size;simp[World.setCell];omega
   have jq:Hid ((sA.setCell ⟨x,2,none⟩ (.slice bc n.el.length cc)).os=w9.os∧(sA.setCell ⟨x,2,none⟩ (.slice bc n.el.length cc)).tape=w9.tape∧(sA.setCell ⟨x,2,none⟩ (.slice bc n.el.length cc)).output=w9.output):=Zrr ⟨kN.os.trans fe.os,kN.tape.trans fe.tape,kN.output.trans fe.output⟩;replace l6:=Zrr l6;clear uG sT qV xf fe n0 n1 n2 n3 n4 c9;go_wp2_with fail;clear x0 x1 x2 x3 x4 xf2 l5 kN;generalize sA.setCell ⟨x,2,none⟩ (.slice bc n.el.length cc)=tX at *
   go_loopw [61] (fun kv wi=>∃k:Nat,k≤n.el.length∧kv= .int .i64 k∧Hid (ElL n.el (fun p=>(L.rankN b p.1,L.rankN b p.2)) tX bc (x+1) k wi)) (fun kv _=>n.el.length - (intOf kv).toNat)
   case atStart=>exact⟨0,Nat.zero_le _,rfl,xR⟩
   case round =>
    clear xR;obtain⟨k,hke,rfl,hI⟩:=hrel;obtain⟨dv,mt⟩:=hI.out;clear hI;have al:=(dv.block x (by omega)).trans l6.out;have ph:=jG.out.same (w':=wr) ((dv.block pm (by omega)).trans (pD.out pm (by omega)))
    by_cases dq:k<n.el.length
    ·obtain⟨h',sJ,rfl,wT,hh,mS⟩:=mt.resolve_left (fun e=>by have:=e.1;rw[this]at dq;simp at dq)
     have rF:=cy.out _ (ZrM dq);have pI:=mf.out _ rF.1 rF.2.2.1;have tF:=mf.out _ rF.2.1 rF.2.2.2;have si:=ZpK n.el (fun p=>(L.rankN b p.1,L.rankN b p.2)) k dq;obtain⟨jM,hmg⟩:=ZpJ n.el (fun p=>(L.rankN b p.1,L.rankN b p.2)) k dq;obtain⟨f1,f2⟩:=Za3 _ k jM;rw[hmg]at f1 f2;have e1:=mS _ _ f1;have e2:=mS _ _ f2;have eN:=ZlW jM si mS;have u9:h'<wr.heap.size:=(Zrv hh).1;have z1:wr.cell? ⟨h',k*2,none⟩=some (.int .i64 (n.el[k].1:Nat)):=by simp[World.cell?,hh,e1]
     have z2:wr.cell? ⟨h',k*2+1,none⟩=some (.int .i64 (n.el[k].2:Nat)):=by simp[World.cell?,hh,e2]
     have xc:wr.cell? ⟨x,2,none⟩=some (.slice (some ⟨h',0,none⟩) n.el.length cc):=by simp[World.cell?,al]
     generalize gG:n.el[k].1=p1 at *;generalize gH:n.el[k].2=p2 at *;have hlk1:=(ph.same (w':=wr.alloc (.cells #[.int .i64 (p1:Nat),.int .i64 (p2:Nat)] 130)) (Below.heap_alloc _ _ _ ph.lt)).lookD p1;have fO:=(ph.same (w':=wr.alloc (.cells #[.int .i64 (p1:Nat),.int .i64 (p2:Nat)] 130)) (Below.heap_alloc _ _ _ ph.lt)).lookD p2;rw[pI]at hlk1;rw[tF]at fO;have jS:x<wr.heap.size:=(Zrv al).1;have y3:wr.frozen? ⟨h',k*2,none⟩=false:=by simp[World.frozen?,hh]
     have y4:wr.frozen? ⟨h',k*2+1,none⟩=false:=by simp[World.frozen?,hh]
     have aA:Hid (ElL n.el (fun p=>(L.rankN b p.1,L.rankN b p.2)) tX (some ⟨h',0,none⟩) (x+1) (k+1) (((wr.setCell ⟨h',k*2,none⟩ (.int .i64 (L.rankN b p1:Nat))).setCell ⟨h',k*2+1,none⟩ (.int .i64 (L.rankN b p2:Nat))).alloc (.cells #[.int .i64 (p1:Nat),.int .i64 (p2:Nat)] 130))):=Zrr
      ⟨((dv.setCell wT _).setCell wT _).alloc (by simp[World.setCell];omega) _,.inr ⟨h',_,rfl,wT,(Below.heap_alloc _ _ _ (by simp[World.setCell];omega)).trans (Zaj (Zaj hh _ _) _ _),by simp only[gG,gH]at eN;exact eN⟩⟩
     replace al:=Zrr al;replace hh:=Zrr hh;replace ph:=Zrr ph;replace gG:=Zrr gG;replace gH:=Zrr gH;replace dv:=Zrr dv;clear mS eN si f1 f2 e1 e2 hmg mt pI tF;go_wp2_with fail;go_roundw
     case rel=>exact⟨k+1,by omega,by go_num,aA⟩
     case measure=>simp[intOf];omega
    ·obtain rfl:k=n.el.length:=by omega
     have oU:wr.heap[x]? =some (.cells #[.int .i64 n.pl,.int .i64 n.lit,.slice bc n.el.length cc,.int .u64 (lo n.le),.int .u64 (hi n.le)] 101 (0,0)):=al;obtain⟨x0,x1,x2,x3,x4,_⟩:=Zbt oU;have qj:Fr [] w9 wr:=⟨dv.os.trans jq.out.1,dv.tape.trans jq.out.2.1,dv.output.trans jq.out.2.2,by have:=dv.size;omega,fun k hk _=>(dv.block k (by omega)).trans (pD.out k (by omega))⟩;have wO:wr.heap[pm+1]? =some (.cells cs Zbd (0,0)):=(qj.block _ (by omega) (by simp)).trans ((bK.out _ (by omega)).trans cA.out);have oY:=nG.out;have fo:∀t,t<5→∃u,wr.cell? ⟨pm+1,i*5+t,none⟩=some u∧wr.frozen? ⟨pm+1,i*5+t,none⟩=false:=fun t ht=>⟨cs[i*5+t]'(by omega),by simp[World.cell?,wO],by simp[World.frozen?,wO]⟩
     obtain⟨u0,a0,b0⟩:=fo 0 (by omega);obtain⟨u1,a1,b1⟩:=fo 1 (by omega);obtain⟨u2,a2,b2⟩:=fo 2 (by omega);obtain⟨u3,a3,b3⟩:=fo 3 (by omega);obtain⟨u4,a4,b4⟩:=fo 4 (by omega);replace a0:wr.cell? ⟨pm+1,i*5,none⟩=some u0:=a0;replace b0:wr.frozen? ⟨pm+1,i*5,none⟩=false:=b0
     have hfE:Fr [pm+1] wr (((((wr.setCell ⟨pm+1,i*5,none⟩ (.int .i64 n.pl)).setCell ⟨pm+1,i*5+1,none⟩ (.int .i64 n.lit)).setCell ⟨pm+1,i*5+2,none⟩ (.slice bc n.el.length cc)).setCell ⟨pm+1,i*5+3,none⟩ (.int .u64 (lo n.le))).setCell ⟨pm+1,i*5+4,none⟩ (.int .u64 (hi n.le))) :=
      ((((Fr.setCell _ _ _).trans (Fr.setCell _ _ _)).trans (Fr.setCell _ _ _)).trans (Fr.setCell _ _ _)).trans (Fr.setCell _ _ _)
     have hgE:=Zaj (Zaj (Zaj (Zaj (Zaj wO (i*5) (.int .i64 n.pl)) (i*5+1) (.int .i64 n.lit)) (i*5+2) (.slice bc n.el.length cc)) (i*5+3) (.int .u64 (lo n.le))) (i*5+4) (.int .u64 (hi n.le));have dq:(L.keepNodes s.nodes b).length=b.length:=L.keep_len _ _
     have jQ:(L.keepNodes s.nodes b).take (i+1)=(L.keepNodes s.nodes b).take i++[L.renN b n]:=by
      rw[List.take_add_one,jY.out];rfl
     have oq:Zcp wr (.slice bc n.el.length cc) (L.renN b n).el:=by
      have fE:(L.renN b n).el.length=n.el.length:=List.length_map ..;rcases mt with ⟨e1,e2⟩|⟨h',sJ,e1,e2,e3,e4⟩
      ·rcases iC.out with ⟨_,_,e5⟩|⟨g,e5⟩
       ·exact⟨bc,cc,by rw[fE],.inl ⟨e2,by show n.el.map _=[];rw[e1];rfl,e5⟩⟩
       ·rw[e5]at e2;cases e2
      ·refine⟨bc,cc,by rw[fE],.inr ⟨h',0,e1,sJ,(0,0),e3,fun j u hj=>?_⟩⟩
       rw[Nat.zero_add];refine e4 j u ?_;rw[List.take_length,List.drop_length,List.append_nil];exact hj
     have aA:Hid (Zo8 s.nodes b w8 pm (pm+1) (i+1) (((((wr.setCell ⟨pm+1,i*5,none⟩ (.int .i64 n.pl)).setCell ⟨pm+1,i*5+1,none⟩ (.int .i64 n.lit)).setCell ⟨pm+1,i*5+2,none⟩ (.slice bc n.el.length cc)).setCell ⟨pm+1,i*5+3,none⟩ (.int .u64 (lo n.le))).setCell ⟨pm+1,i*5+4,none⟩ (.int .u64 (hi n.le)))):=Zrr (by
      refine⟨⟨(a,i) :: m,ph.same (hfE.block _ ph.lt (by simp)),mc.out⟩,⟨_,vs++[.slice bc n.el.length cc],hgE,by simpa using oY,by simp[j6.out],?_,fun j hj hk=>?_,fun v hv y hy=>?_⟩,(hf9.out.seq qj (fun _ h=>by cases h)).seq hfE (fun y hy=>.inl (by simp at hy;simp[hy]))⟩
      ·rw[jQ]
       exact ZlU (n:=L.renN b n) (by rw[j6.out,List.length_take];omega) (by rw[List.length_take];omega) oY aD jk.out
      ·have mX:∀v l,Zcp wr v l→Zcp _ v l:=fun v l hv=>hv.stay (fun y hy hc=>hfE.block y hy (by
        obtain⟨c1,xG,dw⟩:=hc;intro e;have e:y=pm+1:=by simpa using e
        rw[e,wO]at dw;simp[Zbd,ZaN]at dw))
       by_cases wP:j<vs.length
       ·have e1:(vs++[.slice bc n.el.length cc])[j]=vs[j]:=List.getElem_append_left wP
        rw[e1];refine mX _ _ ((cN.out j wP hk).stay fun y hy hc=>?_);have hy9:y<x:=by have:=hs9.out;omega
        obtain⟨c1,xG,dw⟩:=hc;refine(qj.block y (by omega) (by simp)).trans (bK.out y (fun e=>?_));obtain⟨L1,c2,hL,_⟩:=hm.out;rw[e,hL]at dw;simp at dw
       ·have hje:j=vs.length:=by simp at hj;omega
        subst hje;have e1:(vs++[.slice bc n.el.length cc])[vs.length]= .slice bc n.el.length cc:=by simp
        have e2:(L.keepNodes s.nodes b)[vs.length]=L.renN b n:=by
         have:=jY.out;rw[←j6.out,Zry hk]at this;exact Option.some.inj this
        rw[e1,e2];exact mX _ _ oq
      ·rcases List.mem_append.1 hv with hv|hv
       ·exact mV.out v hv y hy
       ·rw[List.mem_singleton]at hv
        subst hv;have h8:=nw.out;have hpm':=de.out;rcases mt with ⟨_,e2⟩|⟨h',sJ,e1,e2,_⟩
        ·rw[e2]at hy;simp[Value.ownBlock]at hy
        ·rw[e1]at hy
         simp[Value.ownBlock]at hy;omega)
     replace al:=Zrr al;replace ph:=Zrr ph;replace wO:=Zrr wO;replace mt:=Zrr mt;clear oU qj fo hfE hgE dq jQ oq dv oY;go_wp2_with fail;go_roundw
     case rel=>exact⟨i+1,by omega,by go_num,aA⟩
     case measure=>simp[intOf];omega
  ·obtain rfl:i=b.length:=by omega
   obtain⟨wo,rfl⟩:∃wo:World,wo=wr:=⟨wr,rfl⟩;have gc:=du.out.below (de.out ▸ dV.out wo et);obtain⟨nv0,vs0,aM,zM,_⟩:=gc.store
   have hnv0:∀k z,nv0≠.int k z:=fun k z e=>by
    obtain⟨cap,e2⟩:=zM.form;rw[e2]at e;cases e
   have dq:(L.keepNodes s.nodes b).length=b.length:=L.keep_len _ _
   have hsbp:B.sb<pm:=by
    have:=du.out.mut_old B.sb (by simp[Zar.mut]);have:=de.out;omega
   have gm:=gc.glob;have rK:=h.out.mut_old
   have fw:(L.keepNodes s.nodes b).length≤1048576∧∀n∈L.keepNodes s.nodes b,Zde n:=⟨by omega,fun n hn=>by
    obtain⟨j,hj,rfl⟩:=List.getElem_of_mem hn;obtain⟨a,n',ha,ig,cR,e⟩:=L.keep_from kx.out (Zry hj);rw[e];obtain⟨s1,s2,s3,s4,s5,s6⟩:=gc.small.2 n' (List.mem_of_getElem? cR);refine⟨s1,s2,s3,s4,by show (n'.el.map _).length≤_;rw[List.length_map];exact s5,fun p hp=>?_⟩;obtain⟨q,hq,rfl⟩:=List.mem_map.1 hp;obtain⟨m1,m2⟩:=kx.out.shut a ig n' cR q hq;have:=L.rank_lt m1;have:=L.rank_lt m2;exact⟨by show L.rankN b q.1≤_;omega,by show L.rankN b q.2≤_;omega⟩⟩
   have hgsb:pm+1≠B.sb:=by omega
   have c2:wo.cell? ⟨B.sb,2,none⟩=some nv0:=by simp[World.cell?,aM]
   have f2:wo.frozen? ⟨B.sb,2,none⟩=false:=by simp[World.frozen?,aM]
   have rc:(wo.setCell ⟨B.sb,2,none⟩ (.slice (some ⟨pm+1,0,none⟩) b.length b.length)).heap[B.sb]? =some (.cells #[.slice (some ⟨B.tb,0,none⟩) s.tree.length B.tc,.map (some B.lb),.slice (some ⟨pm+1,0,none⟩) b.length b.length,.map (some B.ub),.map (some B.ab),.map (some B.mb)] ZaD (0,0)):=Zaj aM 2 _;have kY:Fr [B.sb] wo (wo.setCell ⟨B.sb,2,none⟩ (.slice (some ⟨pm+1,0,none⟩) b.length b.length)):=Fr.setCell _ _ _;have uT:=kY.get cA (by simpa using hgsb)
   have gT:Zck (wo.setCell ⟨B.sb,2,none⟩ (.slice (some ⟨pm+1,0,none⟩) b.length b.length)) (.slice (some ⟨pm+1,0,none⟩) b.length b.length) (pm+1) (L.keepNodes s.nodes b) vs:=by
    have hfl':cs.toList=Zcl (L.keepNodes s.nodes b) vs:=by
     have aX:=Zd0 (L.keepNodes s.nodes b) vs (by omega)
     apply List.ext_getElem?
     intro j
     by_cases hj:j<b.length*5
     ·have h1:(Zcl (L.keepNodes s.nodes b) vs)[j]? =some (Zcl (L.keepNodes s.nodes b) vs)[j]:=Zry (by omega)
      have h2:=jk j _ (by rw[List.take_of_length_le (by omega)];exact h1);rw[h1,Array.getElem?_toList];exact h2
     ·rw[List.getElem?_eq_none (by simp;omega),List.getElem?_eq_none (by omega)]
    refine⟨by omega,⟨by rw[Zd0 _ _ (by omega)],.inr ⟨pm+1,b.length,cs,by rw[dq],Nat.zero_le _,uT,by omega,by unfold maxLen;omega,nG,?_⟩⟩,rfl,fun j hj hv=>(cN j hv hj).stay fun y hy hc=>kY.block y hy (fun e=>?_)⟩
    ·rw[dq,List.take_of_length_le (by simp;omega),hfl']
    ·obtain⟨c1,xG,dw⟩:=hc
     have e:y=B.sb:=by simpa using e
     rw[e,aM]at dw;simp[ZaD,ZaN]at dw
   have rS:=Zi3 (gc.pow.same (kY.block _ gc.pow.lt (by have:=(gm B.sb (by simp[Zar.mut])).1;simp;omega))) rc gT fw (gm B.sb (by simp[Zar.mut])).1;have hmk3:=fun w=>run_make_row' (P:=Tryz.prog) 76 3 (.int .i64 0) 8 Tryz.underlying76 Zdn rfl .i64 .i64 l.length (by omega) (by omega) w
   replace gc:=Zrr gc;replace hm:=Zrr hm;replace wU:=Zrr wU;replace cA:=Zrr cA;replace nG:=Zrr nG;replace j6:=Zrr j6;replace jk:=Zrr jk;replace cN:=Zrr cN;replace mV:=Zrr mV;replace et:=Zrr et;replace gT:=Zrr gT;replace rc:=Zrr rc;replace kY:=Zrr kY;replace uT:=Zrr uT;replace aM:=Zrr aM;replace dq:=Zrr dq;replace fw:=Zrr fw;replace gm:=Zrr gm;replace rK:=Zrr rK;clear zM;go_wp2_with fail;generalize wo.setCell ⟨B.sb,2,none⟩ (.slice (some ⟨pm+1,0,none⟩) b.length b.length)=w' at *;refine rS.mono ?_;rintro e w7 ⟨rfl,r1,r2,r3,r4,r5⟩;replace r1:=Zrr r1;replace r2:=Zrr r2;replace r3:=Zrr r3;replace r4:=Zrr r4;replace r5:=Zrr r5;clear rS c2 f2;have hq7:=Zrz w7 (.cells (madeCells #[.int .i64 0] l.length) 3);have cq:Below w7.heap.size w7 (w7.alloc (.cells (madeCells #[.int .i64 0] l.length) 3)):=(ZrE _ _).alloc (ZrQ _) _;have sy:Hid (Zq3 b l w7 0 (w7.alloc (.cells (madeCells #[.int .i64 0] l.length) 3))):=Zrr ⟨cq,_,hq7,by simp[madeCells],fun j hj h=>by omega⟩;replace hq7:=Zrr hq7;clear cq;go_wp2_with fail;generalize w7.alloc (.cells (madeCells #[.int .i64 0] l.length) 3)=w70 at *;have u9:Hid (∀y,y<w.heap.size→y≠B.sb→w7.heap[y]? =w.heap[y]?):=Zrr fun y hy aJ=>(r5.out.block y (by have:=kY.out.size;have:=et.out.size;have:=nw.out;have:=de.out;omega) (by simpa using aJ)).trans ((kY.out.block y (by have:=et.out.size;have:=nw.out;have:=de.out;omega) (by simpa using aJ)).trans (((dV.out wo et.out).block y (by omega)).trans (ej.out.block y hy)))
   have hbsw:B.sb<w.heap.size:=rK.out B.sb (by simp[Zar.mut]);have vC:=((ej.out.block _ hbsw).symm.trans ((dV.out wo et.out).block _ (by omega)).symm).trans aM.out
   have wS:Hid (∀j (hj:j<l.length),∃bL oL,ba=some ⟨bL,oL,none⟩∧∀wi,Below w7.heap.size w7 wi→wi.cell? ⟨bL,oL+j,none⟩=some (.int .i64 (l[j]:Nat))):=Zrr fun j hj=>by
    rcases gA.out with ⟨_,e,_⟩|⟨bL,oL,e,hc⟩
    ·have:=congrArg List.length e
     simp at this;subst this;simp at hj
    ·have yW:=hc j (by rw[List.length_map];exact hj)
     rw[List.getElem_map]at yW;have dv:=Zrx w _ yW
     have aJ:bL≠B.sb:=fun e=>by
      rw[e]at yW;exact Zmn hnv0 vC yW
     have fQ:bL<w7.heap.size:=by
      have:=r5.out.size;have:=kY.out.size;have:=et.out.size;have:=nw.out;have:=de.out;have:bL<w.heap.size:=dv;omega
     exact⟨bL,oL,e,fun wi hwi=>(World.cell?_of_block (a:=⟨bL,oL+j,none⟩) ((hwi.block bL fQ).trans (u9.out bL dv aJ))).trans yW⟩
   have hpm7:pm<w7.heap.size:=by have:=r5.out.size;have:=kY.out.size;have:=et.out.size;have:=nw.out;have:=de.out;omega
   have hM7:ZaI Zad Zad w7 pm (asc m):=hm.out.same ((r5.out.block _ (by have:=kY.out.size;have:=et.out.size;have:=nw.out;have:=de.out;omega) (by simp;omega)).trans (kY.out.block _ (by have:=et.out.size;have:=nw.out;have:=de.out;omega) (by simp;omega)))
   have hrk:Hid (∀a∈l,ZdA m a=L.rankN b a):=Zrr fun a ha=>by
    have hg:=L.rank_at (rG.out a ha);obtain⟨l1,e1⟩:=Zrw hg;have:=wU.out _ l1 l1;rw[e1]at this;unfold ZdA;rw[this]
   have hq7s:w7.heap.size<w70.heap.size:=(Zrv hq7.out).1;replace hM7:=Zrr hM7;replace vC:=Zrr vC
   go_loopw [96] (fun kv wi=>∃k:Nat,k≤l.length∧kv= .int .i64 k∧Hid (Zq3 b l w7 k wi)) (fun kv _=>l.length - (intOf kv).toNat)
   case atStart=>exact⟨0,Nat.zero_le _,rfl,sy⟩
   case round =>
    clear sy;obtain⟨k,oh,rfl,hI⟩:=hrel;obtain⟨q9,co,uP,hcoz,oW⟩:=hI.out;clear hI
    by_cases aD:k<l.length
    ·obtain⟨bL,oL,rfl,yX⟩:=wS.out k aD
     have z1:=yX wr q9;have bD:=(hM7.out.same (q9.block _ hpm7)).lookD l[k];rw[hrk.out _ (ZrM aD)]at bD;have y1:wr.cell? ⟨w7.heap.size,k,none⟩=some (co[k]'(by omega)):=by simp[World.cell?,uP]
     have y2:wr.frozen? ⟨w7.heap.size,k,none⟩=false:=by simp[World.frozen?,uP]
     have aA:Hid (Zq3 b l w7 (k+1) (wr.setCell ⟨w7.heap.size,k,none⟩ (.int .i64 (L.rankN b l[k]:Nat)))):=Zrr
      ⟨q9.setCell (ZrQ _) _,_,Zaj uP _ _,by simpa using hcoz,fun j hj yu=>by
        rw[Array.getElem?_setIfInBounds]
        by_cases e:k=j
        ·subst e;rw[if_pos rfl,if_pos (by omega)]
        ·rw[if_neg e];exact oW j hj (by omega)⟩
     generalize l[k]=a at *;generalize co[k]'(by omega)=u at *;replace uP:=Zrr uP;replace oW:=Zrr oW;clear yX;go_wp2_with fail;go_roundw
     case rel=>exact⟨k+1,by omega,by go_num,aA⟩
     case measure=>simp[intOf];omega
    ·obtain rfl:k=l.length:=by omega
     have aa:Hid (Zlm B s l w (.returned (.tuple #[.slice (some ⟨w7.heap.size,0,none⟩) l.length l.length,.int .i64 0])) wr):=Zrr (by
      have hs':pm+2≤w'.heap.size:=by have:=kY.out.size;have:=et.out.size;have:=nw.out;have:=de.out;omega
      have hs7:=r5.out.size;have hR:=gc.out;have hlbm:B.lb<w.heap.size:=rK.out B.lb (by simp[Zar.mut]);have dQ:=h.out.pow.lt;have htl':=h.out.tz.lt';have old:∀y,y≠B.sb→y<wo.heap.size→w7.heap[y]? =wo.heap[y]?:=fun y aJ hy=>(r5.out.block y (by have:=kY.out.size;omega) (by simpa using aJ)).trans (kY.out.block y hy (by simpa using aJ))
      have zq:=aM.out;refine⟨b,_,{ B with nb:=pm+1,ub:=w'.heap.size,ab:=w'.heap.size+1,mb:=w'.heap.size+1+1,eb:=vs.filterMap Value.ownBlock },rfl,kx.out,rG.out,si.out,⟨by simp,.inr ⟨w7.heap.size,l.length,co,rfl,by omega,uP,ZrQ _,by unfold maxLen;omega,by omega,?_⟩⟩,Rep.below ?_ q9,?_⟩
      ·apply List.ext_getElem?
       intro j
       by_cases hj:j<l.length
       ·rw[List.getElem?_take_of_lt (by omega),Array.getElem?_toList,oW j hj hj,List.getElem?_map,List.getElem?_map,Zry hj]
        rfl
       ·rw[List.getElem?_eq_none (by simp;omega),List.getElem?_eq_none (by simp;omega)]
      ·exact {
        tz:=hR.tz.same (old _ (by have:=(gm.out B.sb (by simp[Zar.mut])).2;omega) hR.tz.lt')
        pow:=hR.pow.same (old _ (by have:=(gm.out B.sb (by simp[Zar.mut])).1;omega) hR.pow.lt)
        glob:=fun k hk=>by
         simp[Zar.mut]at hk;rcases hk with rfl|rfl|rfl|rfl|rfl|rfl
         ·exact gm.out _ (by simp[Zar.mut])
         ·omega
         ·omega
         ·omega
         ·omega
         ·exact gm.out _ (by simp[Zar.mut])
        store:=⟨_,vs,r1.out,⟨gT.out.len,Zaa gT.out.own (fun k hk=>by
          simp[Value.ownBlock]at hk;subst hk;exact r5.out.block _ (by omega) (by simp;omega)),rfl,fun j hj hv=>(gT.out.els j hj hv).stay fun y hy hc=>r5.out.block y hy (fun e=>by
          obtain⟨c1,xG,dw⟩:=hc;have e:y=B.sb:=by simpa using e
          rw[e,rc.out]at dw;simp[ZaD,ZaN]at dw)⟩,fun v hv y hy=>List.mem_filterMap.2 ⟨v,hv,hy⟩⟩
        tree:=by
         obtain⟨c1,xG,aF,dw⟩:=hR.tree;refine⟨c1,xG,(old _ (fun e=>?_) (Zrv aF).1).trans aF,dw⟩;rw[e,zq]at aF;simp[ZaD]at aF
        leaf:=hR.leaf.same (old _ (fun e=>by
         obtain⟨L1,c1,aF,_⟩:=hR.leaf;rw[e,zq]at aF;simp at aF) hR.leaf.lt)
        uniq:=r2.out
        ands:=ZbG Zf9 Zad r3.out
        nots:=ZbG Zad Zad r4.out
        apart:=by
         refine⟨?_,?_,?_,?_,?_,?_⟩ <;> simp <;> omega
        small:=fw.out }
      ·refine⟨⟨q9.os.trans (r5.out.os.trans (kY.out.os.trans ((dV.out _ et.out).os.trans ej.out.os))),q9.tape.trans (r5.out.tape.trans (kY.out.tape.trans ((dV.out _ et.out).tape.trans ej.out.tape))),q9.output.trans (r5.out.output.trans (kY.out.output.trans ((dV.out _ et.out).output.trans ej.out.output))),by have:=q9.size;omega,fun y hy hM=>(q9.block y (by omega)).trans (u9.out y hy (fun e=>hM (by simp[Zar.mut,e])))⟩,rfl,fun k hk=>?_,fun k hk=>?_⟩
       ·simp[Zar.mut]at hk
        rcases hk with rfl|rfl|rfl|rfl|rfl|rfl
        ·exact .inl (by simp[Zar.mut])
        ·exact .inr (by omega)
        ·exact .inr (by omega)
        ·exact .inr (by omega)
        ·exact .inr (by omega)
        ·exact .inl (by simp[Zar.mut])
       ·obtain⟨v,hv,hy⟩:=List.mem_filterMap.1 hk
        have:=mV.out v hv k hy;exact .inr (.inl (by have:=nw.out;have:=de.out;omega)))
     clear uP oW;go_wp2_with fail;go_ret2;exact aa.out
end Go.Proofs.YtemnmcfmabamcaaGreatDoor
