import Derived.Test.YtmnjakejhbpkoaaGreatDoorVAdd
import Derived.Test.YtmnjakejhbpkoaaGreatDoorVVars
import Derived.Shelf.SlSortCmp.WholeK
section
set_option linter.unusedSimpArgs false
set_option linter.unusedVariables false
set_option maxRecDepth 100000
set_option maxHeartbeats 2000000
namespace Go.Proofs.YtmnjakejhbpkoaaGreatDoor
open Go Go.RowKit Go.Shelf
theorem Zep(w:World):ZcM w (.slice none 0 0) []:=⟨none,0,rfl,.inl ⟨rfl,rfl,rfl⟩⟩
theorem ZaB.after{X:List Nat}{v:Value}{B:Zas}{s':St}{w w1:World}(h:Below w.heap.size w w1):∀e w',ZaB X v B s' w1 e w'→ZaB X v B s' w e w':=by
 rintro e w' ⟨rfl,B',hr,hs⟩;exact⟨rfl,B',hr,(Stp.of_below (X:=[]) h).trans hs⟩
theorem Zal(w:World)(o:Obj)(ad:Nat)(h:ad=w.heap.size):(w.alloc o).heap[ad]? =some o:=by subst h;exact Zpm w o
theorem Zbb{w:World}{b:Nat}{a0 a1 a2 a3 a4:Value}{t:TypeId}(h:w.heap[b]? =some (.cells #[a0,a1,a2,a3,a4] t (0,0))) :
  w.cell? ⟨b,0,none⟩=some a0∧w.cell? ⟨b,1,none⟩=some a1∧w.cell? ⟨b,2,none⟩=some a2∧w.cell? ⟨b,3,none⟩=some a3∧w.cell? ⟨b,4,none⟩=some a4∧∀j,w.frozen? ⟨b,j,none⟩=false:=by
 refine⟨?_,?_,?_,?_,?_,fun j=>?_⟩ <;> simp[World.cell?,World.frozen?,h]
theorem ZeZ{B:Zas}{s s':St}{w:World}{l pl:Int}{r:Nat}(h:Rep B s w)(he:Zbq s l pl=some (r,s')) :
  Calls Tryz.prog 167 #[.pointer (some ⟨B.sb,0,none⟩),.int .i64 l,.int .i64 pl] w (ZaB [] (.int .i64 r) B s' w):=by
 replace he:=Zpe he;have kD:=Zpm w (.cells #[.int .i64 pl,.int .i64 l,.slice none 0 0,.int .u64 0,.int .u64 0] 158);have aV:Ext w (w.alloc (.cells #[.int .i64 pl,.int .i64 l,.slice none 0 0,.int .u64 0,.int .u64 0] 158)):=(Ext.refl w).alloc _
 by_cases hl:0<l
 ·have gG:Hid ((ZiJ l pl).le=ofS [l]):=Zpe (if_pos hl)
  go_enter Tryz.func167,Tryz.ntmps167
  go_wp2_with fail;have aC:=aV.alloc (.cells #[.int .i64 l] 3);have aS:=(Below.heap_alloc (w.alloc (.cells #[.int .i64 pl,.int .i64 l,.slice none 0 0,.int .u64 0,.int .u64 0] 158)) (.cells #[.int .i64 l] 3) w.heap.size (by simp)).trans kD;have aX:=Zal (w.alloc (.cells #[.int .i64 pl,.int .i64 l,.slice none 0 0,.int .u64 0,.int .u64 0] 158)) (.cells #[.int .i64 l] 3) (w.heap.size+1) (by simp);generalize (w.alloc (.cells #[.int .i64 pl,.int .i64 l,.slice none 0 0,.int .u64 0,.int .u64 0] 158)).alloc (.cells #[.int .i64 l] 3)=w1 at *;refine(Zot [l] _ w1 ⟨_,1,rfl,.inr ⟨_,0,rfl,fun j hj=>?_⟩⟩ (by simp)).mono ?_
  ·obtain rfl:j=0:=by simpa using hj
   simp[World.cell?,aX]
  ·rintro e w2 ⟨rfl,hx⟩
   unfold ZaT;have aF:=aC.trans hx;have aP:=(hx.below.block _ (Zpi aS).1).trans aS;obtain⟨c0,c1,c2,c3,c4,cf⟩:=Zbb aP;have uw:=cf 3;have ux:=cf 4;have aa:((w2.setCell ⟨w.heap.size,3,none⟩ (.int .u64 (lo (ofS [l])))).setCell ⟨w.heap.size,4,none⟩ (.int .u64 (hi (ofS [l])))).heap[w.heap.size]? =some (.cells #[.int .i64 pl,.int .i64 l,.slice none 0 0,.int .u64 (lo (ofS [l])),.int .u64 (hi (ofS [l]))] 158 (0,0)):=Zag (Zag aP 3 _) 4 _;obtain⟨d0,d1,d2,d3,d4,_⟩:=Zbb aa;have aR:Ext w ((w2.setCell ⟨w.heap.size,3,none⟩ (.int .u64 (lo (ofS [l])))).setCell ⟨w.heap.size,4,none⟩ (.int .u64 (hi (ofS [l])))):=(aF.setCell (by simp) _).setCell (by simp) _;clear aP aa cf aS aX kD;go_wp2_with fail;generalize (w2.setCell ⟨w.heap.size,3,none⟩ (.int .u64 (lo (ofS [l])))).setCell ⟨w.heap.size,4,none⟩ (.int .u64 (hi (ofS [l])))=w3 at *;have hq:=Zhz (n:=ZiJ l pl) (v:=.slice none 0 0) (h.below aR.below) (Zep _) he.out;rw[gG.out]at hq;refine(hq.mono (ZaB.after aR.below)).mono ?_;rintro e w4 ⟨rfl,hR⟩;have hR:=Zpe hR;go_wp2_with fail;go_ret;exact⟨rfl,hR.out⟩
 ·have gG:Hid ((ZiJ l pl).le=0):=Zpe (if_neg hl)
  go_enter Tryz.func167,Tryz.ntmps167
  go_wp2_with fail;generalize w.alloc (.cells #[.int .i64 pl,.int .i64 l,.slice none 0 0,.int .u64 0,.int .u64 0] 158)=w3 at *;have hq:=Zhz (n:=ZiJ l pl) (v:=.slice none 0 0) (h.below aV.below) (Zep _) he.out;rw[gG.out]at hq;refine(hq.mono (ZaB.after aV.below)).mono ?_;rintro e w4 ⟨rfl,hR⟩;have hR:=Zpe hR;go_wp2_with fail;go_ret;exact⟨rfl,hR.out⟩
end Go.Proofs.YtmnjakejhbpkoaaGreatDoor
namespace Go.Proofs.YtmnjakejhbpkoaaGreatDoor
open Go Go.RowKit Go.Shelf Go.Sort
structure Zhv (B:Zas) (ns:List Zaf) (bx:Nat) (w:World):Prop where
 tz:ZaX w
 box:w.cell? ⟨bx,0,none⟩=some (.pointer (some ⟨B.sb,0,none⟩))
 nod:∃cap,w.cell? ⟨B.sb,2,none⟩=some (.slice (some ⟨B.nb,0,none⟩) ns.length cap)
 le:∀i,i<ns.length→w.cell? ⟨B.nb,i*5+3,none⟩=some (.int .u64 (lo (ZaK ns i)))∧w.cell? ⟨B.nb,i*5+4,none⟩=some (.int .u64 (hi (ZaK ns i)))
theorem Zhv.same{B:Zas}{ns:List Zaf}{bx:Nat}{w w':World}(h:Zhv B ns bx w)(hs:∀k,k=gTz∨k=bx∨k=B.sb∨k=B.nb→w'.heap[k]? =w.heap[k]?):Zhv B ns bx w' where
 tz:=h.tz.same (hs _ (.inl rfl))
 box:=(World.cell?_of_block (a:=⟨bx,0,none⟩) (hs _ (.inr (.inl rfl)))).trans h.box
 nod:=by
  obtain⟨cap,hc⟩:=h.nod;exact⟨cap,(World.cell?_of_block (a:=⟨B.sb,2,none⟩) (hs _ (.inr (.inr (.inl rfl))))).trans hc⟩
 le:=fun i hi=>⟨(World.cell?_of_block (a:=⟨B.nb,i*5+3,none⟩) (hs _ (.inr (.inr (.inr rfl))))).trans (h.le i hi).1,(World.cell?_of_block (a:=⟨B.nb,i*5+4,none⟩) (hs _ (.inr (.inr (.inr rfl))))).trans (h.le i hi).2⟩
theorem Zbz{w:World}{b0:Nat}{e:TypeId}{sz n:Nat}{v:Value}{xs:List Value}{b:Nat}(h:w.ownsRow b0 e sz v n xs)(hb:v.ownBlock=some b){j:Nat}{u:Value}(hj:xs[j]? =some u):w.cell? ⟨b,j,none⟩=some u∧w.frozen? ⟨b,j,none⟩=false:=by
 obtain⟨hl,⟨rfl,_⟩|⟨g,cap,cur,rfl,hg,hh,hn,hc,hs,ht⟩⟩:=h
 ·simp[Value.ownBlock]at hb
 ·simp[Value.ownBlock]at hb
  subst hb;rw[←ht,List.getElem?_take]at hj
  split at hj
  ·have:cur[j]? =some u:=by simpa using hj
   simp[World.cell?,World.frozen?,hh,this]
  ·simp at hj
theorem Zcy.cells{w:World}{nv:Value}{nb:Nat}{ns:List Zaf}{vs:List Value}(h:Zcy w nv nb ns vs)(i:Nat)(hi:i<ns.length)(hv:i<vs.length) :
  w.cell? ⟨nb,i*5,none⟩=some (.int .i64 ns[i].pl)∧w.cell? ⟨nb,i*5+1,none⟩=some (.int .i64 ns[i].lit)∧w.cell? ⟨nb,i*5+2,none⟩=some vs[i] ∧
   w.cell? ⟨nb,i*5+3,none⟩=some (.int .u64 (lo ns[i].le))∧w.cell? ⟨nb,i*5+4,none⟩=some (.int .u64 (Proofs.YtmnjakejhbpkoaaGreatDoor.hi ns[i].le)) :=
 ⟨(Zbz h.own h.blk (Zb1 _ _ h.len i hi hv 0 (by omega))).1,(Zbz h.own h.blk (Zb1 _ _ h.len i hi hv 1 (by omega))).1,(Zbz h.own h.blk (Zb1 _ _ h.len i hi hv 2 (by omega))).1,
   (Zbz h.own h.blk (Zb1 _ _ h.len i hi hv 3 (by omega))).1,(Zbz h.own h.blk (Zb1 _ _ h.len i hi hv 4 (by omega))).1⟩
theorem Zmo{ns:List Zaf}{i:Nat}(hi:i<ns.length):ZaK ns i=ns[i].le:=by simp[ZaK,hi]
theorem Rep.leRep{B:Zas}{s:St}{w:World}(h:Rep B s w){bx:Nat}(hb:w.cell? ⟨bx,0,none⟩=some (.pointer (some ⟨B.sb,0,none⟩))):Zhv B s.nodes bx w:=by
 obtain⟨nv,vs,aW,bu,_⟩:=h.store;obtain⟨cap,rfl⟩:=bu.form;refine⟨h.tz,hb,⟨cap,by simp[World.cell?,aW]⟩,fun i hi=>?_⟩;obtain⟨_,_,_,c3,c4⟩:=bu.cells i hi (by rw[bu.len];exact hi);rw[Zmo hi];exact⟨c3,c4⟩
def ZoG (ns:List Zaf)(p q:Nat × Nat):Int:=if ZaM (ZaK ns p.1) (ZaK ns q.1)=true then -1 else 1
theorem ZhP{B:Zas}{ns:List Zaf}{bx:Nat}{w:World}(h:Zhv B ns bx w)(p1 p2 q1 q2:Nat)(hp:p1<ns.length)(hq:q1<ns.length)(hn:ns.length≤1048576) :
  Calls Tryz.prog 205 #[.agg #[.int .i64 p1,.int .i64 p2],.agg #[.int .i64 q1,.int .i64 q2],.pointer (some ⟨bx,0,none⟩)] w fun e w'=>e= .returned (.int .i64 (ZoG ns (p1,p2) (q1,q2)))∧Ext w w':=by
 obtain⟨cap,iD⟩:=h.nod;have tu:=Zpe (show ZoG ns (p1,p2) (q1,q2)=if ZaM (ZaK ns p1) (ZaK ns q1)=true then -1 else 1 from rfl);obtain⟨l1,l2⟩:=h.le p1 hp;obtain⟨l3,l4⟩:=h.le q1 hq;have ao:=h.box;have mq:=h.tz;have aV:Ext w ((w.alloc (.cells #[.int .i64 p1,.int .i64 p2] 165)).alloc (.cells #[.int .i64 q1,.int .i64 q2] 165)):=((Ext.refl w).alloc _).alloc _;have aD:=Zal (w.alloc (.cells #[.int .i64 p1,.int .i64 p2] 165)) (.cells #[.int .i64 q1,.int .i64 q2] 165) (w.heap.size+1) (by simp);have p5:=(Below.heap_alloc (w.alloc (.cells #[.int .i64 p1,.int .i64 p2] 165)) (.cells #[.int .i64 q1,.int .i64 q2] 165) w.heap.size (by simp)).trans (Zpm w (.cells #[.int .i64 p1,.int .i64 p2] 165));have qR:(0:Int)≤p1:=by omega
 have iU:(p1:Int)<ns.length:=by omega
 have sy:(0:Int)≤q1:=by omega
 have jm:(q1:Int)<ns.length:=by omega
 go_enter Tryz.func205,Tryz.ntmps205
 go_wp2_with fail;generalize (w.alloc (.cells #[.int .i64 p1,.int .i64 p2] 165)).alloc (.cells #[.int .i64 q1,.int .i64 q2] 165)=w1 at *;have b0:=(Zae p5).1;have b1:=(Zae aD).1
 have F1:∀w':World,Ext w1 w'→w'.cell? ⟨w.heap.size,0,none⟩=some (.int .i64 p1)∧w'.cell? ⟨w.heap.size+1,0,none⟩=some (.int .i64 q1)∧w'.cell? ⟨bx,0,none⟩=some (.pointer (some ⟨B.sb,0,none⟩)) ∧
   w'.cell? ⟨B.sb,2,none⟩=some (.slice (some ⟨B.nb,0,none⟩) ns.length cap)∧w'.cell? ⟨B.nb,p1*5+3,none⟩=some (.int .u64 (lo (ZaK ns p1)))∧w'.cell? ⟨B.nb,p1*5+4,none⟩=some (.int .u64 (hi (ZaK ns p1))) ∧
   w'.cell? ⟨B.nb,q1*5+3,none⟩=some (.int .u64 (lo (ZaK ns q1)))∧w'.cell? ⟨B.nb,q1*5+4,none⟩=some (.int .u64 (hi (ZaK ns q1)))∧ZaX w':=fun w' hx =>
  ⟨hx.cell b0,hx.cell b1,(aV.trans hx).cell ao,(aV.trans hx).cell iD,(aV.trans hx).cell l1,(aV.trans hx).cell l2,(aV.trans hx).cell l3,(aV.trans hx).cell l4,mq.ext (aV.trans hx)⟩
 replace F1:=Zpe F1;clear b0 b1 ao iD l1 l2 l3 l4 p5 aD;replace mq:=Zpe mq
 (refine Zah (by kernel_rfl) (by kernel_rfl) ?_
  repeat (refine wpQuiet_step (fun K hK=>?_)
          go_simp
          first
           | (refine hK _ ?_;clear hK K)
           | (replace hK:=Zpe hK
              apply Exists.intro
              refine⟨fun wq hq=>?_,hK.out _ ?_⟩
              ·(obtain⟨f1,f2,f3,f4,f5,f6,f7,f8,f9⟩:=F1.out wq hq;replace f9:=Zpe f9)
               go_simp
               first
                | done
                | rfl
                | exact⟨rfl,rfl⟩
                | (refine(ZiH _ _ _ f9.out).mono ?_;rintro e w' ⟨rfl,hb⟩;exact⟨rfl,Ext.trans hq hb⟩)
              clear hK K))
  refine wpQuiet_nil ?_)
 intro w2 cA;have aF:=Zpe (aV.trans cA)
 cases cY:ZaM (ZaK ns p1) (ZaK ns q1)
 ·replace cY:=Zpe cY
  go_wp2_with fail;go_ret;exact⟨by rw[tu.out,cY.out];rfl,aF.out⟩
 ·replace cY:=Zpe cY
  go_wp2_with fail;go_ret;exact⟨by rw[tu.out,cY.out];rfl,aF.out⟩
end Go.Proofs.YtmnjakejhbpkoaaGreatDoor
namespace Go.Proofs.YtmnjakejhbpkoaaGreatDoor
open Go Go.RowKit Go.Shelf
theorem Rep.cells{B:Zas}{s:St}{w:World}(h:Rep B s w):∃cap,w.cell? ⟨B.sb,0,none⟩=some (.slice (some ⟨B.tb,0,none⟩) s.tree.length B.tc)∧w.cell? ⟨B.sb,1,none⟩=some (.map (some B.lb)) ∧
  w.cell? ⟨B.sb,2,none⟩=some (.slice (some ⟨B.nb,0,none⟩) s.nodes.length cap)∧w.cell? ⟨B.sb,3,none⟩=some (.map (some B.ub))∧w.cell? ⟨B.sb,4,none⟩=some (.map (some B.ab))∧w.cell? ⟨B.sb,5,none⟩=some (.map (some B.mb)):=by
 obtain⟨nv,vs,aW,bu,_⟩:=h.store;obtain⟨cap,rfl⟩:=bu.form;exact⟨cap,by simp[World.cell?,aW],by simp[World.cell?,aW],by simp[World.cell?,aW],by simp[World.cell?,aW],by simp[World.cell?,aW],by simp[World.cell?,aW]⟩
theorem Rep.node{B:Zas}{s:St}{w:World}(h:Rep B s w){i:Nat}{n:Zaf}(hn:s.nodes[i]? =some n):∃v,ZcM w v n.el∧(∀b,v.ownBlock=some b→b∈B.eb) ∧
  w.cell? ⟨B.nb,i*5,none⟩=some (.int .i64 n.pl)∧w.cell? ⟨B.nb,i*5+1,none⟩=some (.int .i64 n.lit)∧w.cell? ⟨B.nb,i*5+2,none⟩=some v ∧
   w.cell? ⟨B.nb,i*5+3,none⟩=some (.int .u64 (lo n.le))∧w.cell? ⟨B.nb,i*5+4,none⟩=some (.int .u64 (hi n.le)):=by
 obtain⟨nv,vs,aW,bu,he⟩:=h.store;obtain⟨hi,rfl⟩:=Zpj hn;have hv:i<vs.length:=by rw[bu.len];exact hi
 exact⟨vs[i],bu.els i hi hv,fun b hb=>he _ (Zpz hv) b hb,bu.cells i hi hv⟩
theorem Rep.offT{B:Zas}{s:St}{w w':World}{blk:Nat}{c0:Array Value}{t:TypeId}{f0:Nat × Nat}(h:Rep B s w)(hk:w.heap[blk]? =some (.cells c0 t f0))(h1:t≠ZaO)(h2:t≠Za6)(h3:t≠ZaU)(h4:t≠106)(hg:blk≠ZcR∧blk≠gTz)
  (hs:∀(k:Nat),k≠blk→w'.heap[k]? =w.heap[k]?):Rep B s w':=by
 obtain⟨nv,vs,aW,hn,he⟩:=h.store;obtain⟨c',hc⟩:=hn.nbk;have n1:B.sb≠blk:=fun e=>by rw[e,hk]at aW;simp at aW;exact h3 aW.2.1
 have n2:B.nb≠blk:=fun e=>by rw[e,hk]at hc;simp at hc;exact h2 hc.2.1
 have nm:∀ {α β:Type} [DecidableEq α] {enc:α→Value}{encV:β→Value}{b:Nat}{m:α→Option β},ZaG enc encV w b m→ZaG enc encV w' b m:=fun {α β _ enc encV b m} hm=>by
  obtain⟨L,cl,hb,ec⟩:=hm;refine⟨L,cl,(hs b (fun e=>?_)).trans hb,ec⟩;rw[e,hk]at hb;simp at hb
 exact {
  tz:=h.tz.same (hs _ (Ne.symm hg.2))
  pow:=h.pow.same (hs _ (Ne.symm hg.1))
  glob:=h.glob
  store:=by
   refine⟨nv,vs,(hs _ n1).trans aW,⟨hn.len,Zao hn.own ?_,hn.blk,fun i hi hv=>?_⟩,he⟩
   ·intro k bX
    rw[hn.blk]at bX
    cases bX
    exact hs _ n2
   ·obtain⟨ba,c,iI,aJ⟩:=hn.els i hi hv
    refine⟨ba,c,iI,aJ.imp id ?_⟩;rintro⟨b,o,rfl,cs,fz,hb,aO⟩;exact⟨b,o,rfl,cs,fz,(hs b (fun e=>by rw[e,hk]at hb;simp at hb;exact h1 hb.2.1)).trans hb,aO⟩
  tree:=by
   obtain⟨c,fz,hb,aO⟩:=h.tree;refine⟨c,fz,(hs _ (fun e=>?_)).trans hb,aO⟩;rw[e,hk]at hb;simp at hb;exact h4 hb.2.1
  leaf:=nm h.leaf
  uniq:=nm h.uniq
  ands:=nm h.ands
  nots:=nm h.nots
  apart:=h.apart
  small:=h.small }
theorem Rep.setT{B:Zas}{s:St}{w:World}{blk o:Nat}{c0:Array Value}{t:TypeId}{f0:Nat × Nat}{u:Value}(h:Rep B s w)(hk:w.heap[blk]? =some (.cells c0 t f0))(h1:t≠ZaO)(h2:t≠Za6)(h3:t≠ZaU)(h4:t≠106)(hg:blk≠ZcR∧blk≠gTz) :
  Rep B s (w.setCell ⟨blk,o,none⟩ u)∧Stp [blk] B w B (w.setCell ⟨blk,o,none⟩ u) :=
 ⟨h.offT hk h1 h2 h3 h4 hg (fun k hk=>Below.heap_setCell _ _ _ _ hk),Stp.of_but ⟨rfl,rfl,rfl⟩ (by simp[World.setCell]) (fun k _ hX=>Below.heap_setCell _ _ _ _ (by simpa using hX))⟩
def Zfx (n:Nat)(l:List Int):Int:=if l.all (fun a=>decide (0≤a) && decide (a<n)) then 0 else 1
theorem ZcL{B:Zas}{s:St}{w:World}{v:Value}{l:List Int}(h:Rep B s w)(ht:s.tree≠[])(hv:SlI w v l)(hl:l.length≤1048576) :
  Calls Tryz.prog 104 #[.pointer (some ⟨B.sb,0,none⟩),v] w fun e w'=>e= .returned (.int .i64 (Zfx s.nodes.length l))∧w=w':=by
 obtain⟨cap,c0,_,c2,_⟩:=h.cells;have nj:0<s.tree.length:=List.length_pos_iff.2 ht;have bu:=h.small.1;obtain⟨ba,c,rfl,ap⟩:=hv
 have cD:∀j (hj:j<l.length),∃b o,ba=some ⟨b,o,none⟩∧w.cell? ⟨b,o+j,none⟩=some (.int .i64 l[j]):=fun j hj=>by
  rcases ap with ⟨_,e,_⟩|⟨b,o,e,hc⟩
  ·rw[e]at hj;simp at hj
  ·exact⟨b,o,e,hc j hj⟩
 clear ap;have d0:((s.tree.length:Int) ==0)=false:=by simp;omega
 replace cD:=Zpe cD;clear h ht
 go_enter Tryz.func104,Tryz.ntmps104
 go_wp2_with fail
 go_loop [19] (fun i=>∃k:Nat,k≤l.length∧i= .int .i64 k∧Hid ((l.take k).all (fun a=>decide (0≤a) && decide (a<s.nodes.length))=true)) (fun i=>l.length - (intOf i).toNat)
 case atStart=>exact⟨0,Nat.zero_le _,rfl,Zpe rfl⟩
 case round =>
  obtain⟨k,hk,rfl,hI⟩:=hrel
  by_cases aE:k<l.length
  ·obtain⟨b,o,rfl,hc⟩:=cD.out k aE
   have tN:l.take (k+1)=l.take k++[l[k]]:=List.take_succ_eq_append_getElem aE;have aN:Hid (∀P:Int→Bool,(l.take (k+1)).all P=((l.take k).all P && P l[k])):=Zpe (fun P=>by rw[tN,List.all_append,List.all_cons,List.all_nil,Bool.and_true])
   have bQ:Hid (∀P:Int→Bool,P l[k]=false→l.all P=false):=Zpe (fun P hP=>by
    rw[List.all_eq_false];exact⟨l[k],Zpz aE,by simp[hP]⟩)
   clear tN;generalize l[k]=x at *
   by_cases hx:0≤x∧x<s.nodes.length
   ·obtain⟨aV,aC⟩:=hx
    have e1:decide (x<0)=false:=Zpu (by omega);have e2:decide (x≥(s.nodes.length:Int))=false:=Zpu (by omega);go_wp2_with fail
    go_round
    case rel=>exact⟨k+1,by omega,by go_num,Zpe (by rw[aN.out,hI.out];simp[aV,aC])⟩
    case measure=>simp[intOf];omega
   ·have hf:Zfx s.nodes.length l=1:=by
     unfold Zfx;rw[bQ.out _ (by simp;omega)]
     rfl
    replace hf:=Zpe hf
    by_cases aV:x<0
    ·have e1:decide (x<0)=true:=Zpv aV
     go_wp2_with fail;go_ret;exact⟨by rw[hf.out] <;> rfl,rfl⟩
    ·have e1:decide (x<0)=false:=Zpu aV
     have e2:decide (x≥(s.nodes.length:Int))=true:=Zpv (by omega);go_wp2_with fail;go_ret;exact⟨by rw[hf.out] <;> rfl,rfl⟩
  ·obtain rfl:k=l.length:=by omega
   have hf:Zfx s.nodes.length l=0:=by
    have:=hI.out;rw[List.take_length]at this;unfold Zfx;rw[this];rfl
   replace hf:=Zpe hf;go_wp2_with fail;go_ret;exact⟨by rw[hf.out] <;> rfl,rfl⟩
end Go.Proofs.YtmnjakejhbpkoaaGreatDoor
namespace Go.Proofs.YtmnjakejhbpkoaaGreatDoor
open Go Go.RowKit Go.Shelf
theorem Zje(c:Array Value)(hc:c.size=4)(w:World) :
  CallsD Tryz.prog 168 c .returning w fun e u' w'=>e= .returned (.tuple #[])∧u'= .returning∧w'=w:=by
 obtain⟨a0,a1,a2,a3,rfl⟩:∃a0 a1 a2 a3,c=#[a0,a1,a2,a3]:=by
  obtain⟨l⟩:=c
  match l,hc with
  | [a0,a1,a2,a3],_=>exact⟨a0,a1,a2,a3,rfl⟩
 refine callsD_of_wpS Tryz.func168 rfl fun c₀ cs hu=>?_
 apply wpS_seq
 apply wpS_region
 simp[wpOpsS,go_sem,recoverD,hu,Tryz.ntmps168,Exit.thenS]
 apply wpS_seq
 apply wpS_region
 simp[wpOpsS,go_sem,Exit.thenS];refine wpS_cond (t:=false) (by simp[Act.eval,Array.replicate]) ?_;simp only[Bool.false_eq_true,if_false];refine wpS_of_wp (wp_skip ?_)
 cases c₀
 simp_all [bodyPostS,results,Tryz.results168]
theorem Zmf(w:World)(a b c d:Obj):((((w.alloc a).alloc b).alloc c).alloc d).heap[w.heap.size+1]? =some b∧((((w.alloc a).alloc b).alloc c).alloc d).heap[w.heap.size+1+1]? =some c:=by
 constructor
 ·rw[Below.heap_alloc _ _ _ (by simp),Below.heap_alloc _ _ _ (by simp)]
  exact Zal _ _ _ (by simp)
 ·rw[Below.heap_alloc _ _ _ (by simp)]
  exact Zal _ _ _ (by simp)
def ZfX (r:Nat)(B:Zas)(s':St)(w:World)(e:Ending)(w':World):Prop:=e= .returned (.tuple #[.int .i64 r,.int .i64 0])∧∃B',Rep B' s' w'∧Stp [] B w B' w'
theorem Zgz{B:Zas}{s s':St}{w:World}{r K:Nat}{cap:Array Value}(h:Rep B s w)(hK:∀w,(callFunc K cap).run Tryz.prog w= .ok (.enter K cap) w)(hf:∀w',Ext w w'→Calls Tryz.prog K cap w' (ZaB [] (.int .i64 r) B s' w')) :
  Calls Tryz.prog 105 #[.pointer (some ⟨B.sb,0,none⟩),.func (.func K) #[] cap] w (ZfX r B s' w):=by
 have lq:∀(fn:Fn) (first cap:Array Value) (w:World),(Instr.makeFunc fn first cap).run Tryz.prog w= .ok (.func fn first cap) w:=fun _ _ _ _=>rfl
 obtain⟨cp,_,_,c2,_⟩:=h.cells;have aR:Ext w (((w.alloc (.cells #[.pointer (some ⟨B.sb,0,none⟩)] 32)).alloc (.cells #[.int .i64 0] 3)).alloc (.cells #[.int .i64 0] 33)):=(((Ext.refl w).alloc _).alloc _).alloc _;have c23:=aR.cell c2
 go_enter_defers Tryz.func105,Tryz.ntmps105
 go_wp2_with fail;have hx:Ext w ((((w.alloc (.cells #[.pointer (some ⟨B.sb,0,none⟩)] 32)).alloc (.cells #[.int .i64 0] 3)).alloc (.cells #[.int .i64 0] 33)).alloc (.cells #[.int .i64 s.nodes.length] 3)):=((((Ext.refl w).alloc _).alloc _).alloc _).alloc _;obtain⟨hn,he⟩:=Zmf w (.cells #[.pointer (some ⟨B.sb,0,none⟩)] 32) (.cells #[.int .i64 0] 3) (.cells #[.int .i64 0] 33) (.cells #[.int .i64 s.nodes.length] 3);generalize (((w.alloc (.cells #[.pointer (some ⟨B.sb,0,none⟩)] 32)).alloc (.cells #[.int .i64 0] 3)).alloc (.cells #[.int .i64 0] 33)).alloc (.cells #[.int .i64 s.nodes.length] 3)=w1 at *;refine(hf w1 hx).mono ?_;rintro e w2 ⟨rfl,B2,bM,aZ⟩;have aU:=h.below hx.below;have hg:=h.glob B.sb (by simp[Zas.mut]);have fJ:=h.pow.lt;have ox:=h.tz.lt';have dW:=aZ.keep hn (aU.not_mut hn (by decide) (by decide)) (by simp);have uB:=aZ.keep he (aU.not_mut he (by decide) (by decide)) (by simp);have n0:w2.cell? ⟨w.heap.size+1,0,none⟩=some (.int .i64 0):=by simp[World.cell?,dW]
 have n1:w2.frozen? ⟨w.heap.size+1,0,none⟩=false:=by simp[World.frozen?,dW]
 have e0:w2.cell? ⟨w.heap.size+1+1,0,none⟩=some (.int .i64 0):=by simp[World.cell?,uB]
 have e1:w2.frozen? ⟨w.heap.size+1+1,0,none⟩=false:=by simp[World.frozen?,uB]
 have hz:w.heap.size+1+1≠w.heap.size+1:=by omega
 have bE:w.heap.size+1≠w.heap.size+1+1:=by omega
 obtain⟨fO,bd⟩:=bM.setT (o:=0) (u:=.int .i64 r) dW (by decide) (by decide) (by decide) (by decide) (by omega);have wh:(w2.setCell ⟨w.heap.size+1,0,none⟩ (.int .i64 r)).heap[w.heap.size+1+1]? =some (.cells #[.int .i64 0] 33 (0,0)):=(Below.heap_setCell _ _ _ _ hz).trans uB;obtain⟨j7,dA⟩:=fO.setT (o:=0) (u:=.int .i64 0) wh (by decide) (by decide) (by decide) (by decide) (by omega)
 have r0:((w2.setCell ⟨w.heap.size+1,0,none⟩ (.int .i64 r)).setCell ⟨w.heap.size+1+1,0,none⟩ (.int .i64 0)).cell? ⟨w.heap.size+1,0,none⟩=some (.int .i64 r):=by
  have:=Zag dW 0 (.int .i64 r);have:=(Below.heap_setCell (w2.setCell ⟨w.heap.size+1,0,none⟩ (.int .i64 r)) ⟨w.heap.size+1+1,0,none⟩ (.int .i64 0) (w.heap.size+1) bE).trans this;simp[World.cell?,this]
 have r1:((w2.setCell ⟨w.heap.size+1,0,none⟩ (.int .i64 r)).setCell ⟨w.heap.size+1+1,0,none⟩ (.int .i64 0)).cell? ⟨w.heap.size+1+1,0,none⟩=some (.int .i64 0):=by
  have:=Zag wh 0 (.int .i64 0);simp[World.cell?,this]
 have aG:Hid (∃B',Rep B' s' ((w2.setCell ⟨w.heap.size+1,0,none⟩ (.int .i64 r)).setCell ⟨w.heap.size+1+1,0,none⟩ (.int .i64 0))∧Stp [] B w B' ((w2.setCell ⟨w.heap.size+1,0,none⟩ (.int .i64 r)).setCell ⟨w.heap.size+1+1,0,none⟩ (.int .i64 0))) :=
  Zpe ⟨B2,j7,((((Stp.of_below (X:=[]) hx.below).then aZ).trans bd).trans dA).weak (fun x hx=>.inr (by simp at hx;omega))⟩
 clear j7 dA fO bd bM aZ aU dW uB wh hn he c23 c2 hf hK aR h;go_wp2_with fail;generalize (w2.setCell ⟨w.heap.size+1,0,none⟩ (.int .i64 r)).setCell ⟨w.heap.size+1+1,0,none⟩ (.int .i64 0)=w4 at *;refine leaves_cons (f:=168) (args:=#[.pointer (some ⟨w.heap.size,0,none⟩),.pointer (some ⟨w.heap.size+1+1+1,0,none⟩),.pointer (some ⟨w.heap.size+1,0,none⟩),.pointer (some ⟨w.heap.size+1+1,0,none⟩)]) (by simp) (by simp[go_sem]) ?_;refine(Zje _ rfl _).mono ?_;rintro e u' w'' ⟨rfl,rfl,rfl⟩;have fE:ZfX r B s' w (.returned (.tuple #[.int .i64 r,.int .i64 0])) w'':=⟨rfl,aG.out⟩;clear aG;simp[Leaves,settle,results,Tryz.results105,go_sem,r0,r1];exact fE
example (c:Array Value) (w:World):(callFunc 153 c).run Tryz.prog w= .ok (.enter 153 c) w:=by
 simp[go_sem,Tryz.func153]
end Go.Proofs.YtmnjakejhbpkoaaGreatDoor
end
section
namespace Go.Proofs
open Go.Shelf
def Tryz.sortPair_ren:Go.Shelf.Ren:=⟨fun|6=>204|15=>230|14=>229|28=>249|29=>250|20=>241|21=>242|22=>243|23=>244|24=>245|25=>246|26=>247|27=>248|46=>267|47=>268|48=>269|49=>270|50=>271|57=>281|n=>n,fun|22=>156|24=>165|25=>244|3=>3|39=>131|0=>0|53=>146|55=>39|4=>4|46=>271|45=>270|50=>209|5=>5|9=>9|66=>288|70=>292|76=>301|77=>302|n=>n,fun|n=>n⟩
theorem Tryz.sortPair:Go.Proofs.SlLaysF0.n6 Tryz.prog Tryz.sortPair_ren:={
 mixed:=by kernel_rfl
 f6:=⟨Tryz.f204.name,by decide,Tryz.func204.trans (congrArg some (by kernel_rfl))⟩
 f14:=⟨Tryz.f229.name,by decide,Tryz.func229.trans (congrArg some (by kernel_rfl))⟩
 f15:=Tryz.func230.trans (congrArg some (by kernel_rfl))
 f20:=⟨Tryz.f241.name,by decide,Tryz.func241.trans (congrArg some (by kernel_rfl))⟩
 f21:=⟨Tryz.f242.name,by decide,Tryz.func242.trans (congrArg some (by kernel_rfl))⟩
 f22:=⟨Tryz.f243.name,by decide,Tryz.func243.trans (congrArg some (by kernel_rfl))⟩
 f23:=⟨Tryz.f244.name,by decide,Tryz.func244.trans (congrArg some (by kernel_rfl))⟩
 f24:=⟨Tryz.f245.name,by decide,Tryz.func245.trans (congrArg some (by kernel_rfl))⟩
 f25:=⟨Tryz.f246.name,by decide,Tryz.func246.trans (congrArg some (by kernel_rfl))⟩
 f26:=⟨Tryz.f247.name,by decide,Tryz.func247.trans (congrArg some (by kernel_rfl))⟩
 f27:=⟨Tryz.f248.name,by decide,Tryz.func248.trans (congrArg some (by kernel_rfl))⟩
 f28:=Tryz.func249.trans (congrArg some (by kernel_rfl))
 f29:=Tryz.func250.trans (congrArg some (by kernel_rfl))
 f46:=⟨Tryz.f267.name,by decide,Tryz.func267.trans (congrArg some (by kernel_rfl))⟩
 f47:=Tryz.func268.trans (congrArg some (by kernel_rfl))
 f48:=Tryz.func269.trans (congrArg some (by kernel_rfl))
 f49:=⟨Tryz.f270.name,by decide,Tryz.func270.trans (congrArg some (by kernel_rfl))⟩
 f50:=⟨Tryz.f271.name,by decide,Tryz.func271.trans (congrArg some (by kernel_rfl))⟩
 f57:=⟨Tryz.f281.name,by decide,Tryz.func281.trans (congrArg some (by kernel_rfl))⟩
 t0:=Tryz.underlying0
 a0:=Tryz.isAgg0
 z0:=Tryz.sizeOf0
 v0:=Tryz.zeroValue0
 t3:=Tryz.underlying3
 a3:=Tryz.isAgg3
 z3:=Tryz.sizeOf3
 v3:=Tryz.zeroValue3
 t4:=Tryz.underlying4
 a4:=Tryz.isAgg4
 z4:=Tryz.sizeOf4
 v4:=Tryz.zeroValue4
 t5:=Tryz.underlying5
 a5:=Tryz.isAgg5
 z5:=Tryz.sizeOf5
 v5:=Tryz.zeroValue5
 t9:=Tryz.underlying9
 a9:=Tryz.isAgg9
 z9:=Tryz.sizeOf9
 v9:=Tryz.zeroValue9
 t22:=Tryz.underlying156
 a22:=Tryz.isAgg156
 z22:=Tryz.sizeOf156
 v22:=Tryz.zeroValue156
 t25:=Tryz.underlying244
 a25:=Tryz.isAgg244
 z25:=Tryz.sizeOf244
 v25:=Tryz.zeroValue244
 t39:=Tryz.underlying131
 a39:=Tryz.isAgg131
 z39:=Tryz.sizeOf131
 v39:=Tryz.zeroValue131
 t45:=Tryz.underlying270
 a45:=Tryz.isAgg270
 z45:=Tryz.sizeOf270
 v45:=Tryz.zeroValue270
 t46:=Tryz.underlying271
 a46:=Tryz.isAgg271
 z46:=Tryz.sizeOf271
 v46:=Tryz.zeroValue271
 t50:=Tryz.underlying209
 a50:=Tryz.isAgg209
 z50:=Tryz.sizeOf209
 v50:=Tryz.zeroValue209
 t53:=Tryz.underlying146
 a53:=Tryz.isAgg146
 z53:=Tryz.sizeOf146
 v53:=Tryz.zeroValue146
 t55:=Tryz.underlying39
 a55:=Tryz.isAgg39
 z55:=Tryz.sizeOf39
 v55:=Tryz.zeroValue39
 t66:=Tryz.underlying288
 a66:=Tryz.isAgg288
 z66:=Tryz.sizeOf288
 v66:=Tryz.zeroValue288
 t70:=Tryz.underlying292
 a70:=Tryz.isAgg292
 z70:=Tryz.sizeOf292
 v70:=Tryz.zeroValue292
 t76:=Tryz.underlying301
 a76:=Tryz.isAgg301
 z76:=Tryz.sizeOf301
 v76:=Tryz.zeroValue301
 t77:=Tryz.underlying302
 a77:=Tryz.isAgg302
 z77:=Tryz.sizeOf302
 v77:=Tryz.zeroValue302 }
end Go.Proofs
end
