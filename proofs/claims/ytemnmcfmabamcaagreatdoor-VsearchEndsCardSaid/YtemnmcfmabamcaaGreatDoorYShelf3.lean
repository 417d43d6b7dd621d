import Derived.Test.YtemnmcfmabamcaaGreatDoorYAdd
import Derived.Test.YtemnmcfmabamcaaGreatDoorYVars
import Derived.Shelf.SlSortCmp.WholeK
section
set_option linter.unusedSimpArgs false
set_option linter.unusedVariables false
set_option maxRecDepth 100000
set_option maxHeartbeats 2000000
namespace Go.Proofs.YtemnmcfmabamcaaGreatDoor
open Go Go.RowKit Go.Shelf
theorem Ze2(w:World):Zcp w (.slice none 0 0) []:=⟨none,0,rfl,.inl ⟨rfl,rfl,rfl⟩⟩
theorem ZaF.after{X:List Nat}{v:Value}{B:Zar}{s':St}{w w1:World}(h:Below w.heap.size w w1):∀e w',ZaF X v B s' w1 e w'→ZaF X v B s' w e w':=by
 rintro e w' ⟨rfl,B',hr,hs⟩;exact⟨rfl,B',hr,(Stp.of_below (X:=[]) h).trans hs⟩
theorem Zaq(w:World)(o:Obj)(ad:Nat)(h:ad=w.heap.size):(w.alloc o).heap[ad]? =some o:=by subst h;exact Zrz w o
theorem Zbt{w:World}{b:Nat}{a0 a1 a2 a3 a4:Value}{t:TypeId}(h:w.heap[b]? =some (.cells #[a0,a1,a2,a3,a4] t (0,0))) :
  w.cell? ⟨b,0,none⟩=some a0∧w.cell? ⟨b,1,none⟩=some a1∧w.cell? ⟨b,2,none⟩=some a2∧w.cell? ⟨b,3,none⟩=some a3∧w.cell? ⟨b,4,none⟩=some a4∧∀j,w.frozen? ⟨b,j,none⟩=false:=by
 refine⟨?_,?_,?_,?_,?_,fun j=>?_⟩ <;> simp[World.cell?,World.frozen?,h]
theorem ZfF{B:Zar}{s s':St}{w:World}{l pl:Int}{r:Nat}(h:Rep B s w)(he:Zbc s l pl=some (r,s')) :
  Calls Tryz.prog 69 #[.pointer (some ⟨B.sb,0,none⟩),.int .i64 l,.int .i64 pl] w (ZaF [] (.int .i64 r) B s' w):=by
 replace he:=Zrr he;have da:=Zrz w (.cells #[.int .i64 pl,.int .i64 l,.slice none 0 0,.int .u64 0,.int .u64 0] 101);have aW:Ext w (w.alloc (.cells #[.int .i64 pl,.int .i64 l,.slice none 0 0,.int .u64 0,.int .u64 0] 101)):=(Ext.refl w).alloc _
 by_cases hl:0<l
 ·have fE:Hid ((ZjN l pl).le=ofS [l]):=Zrr (if_pos hl)
  go_enter Tryz.func69,Tryz.ntmps69
  go_wp2_with fail;have aK:=aW.alloc (.cells #[.int .i64 l] 3);have aF:=(Below.heap_alloc (w.alloc (.cells #[.int .i64 pl,.int .i64 l,.slice none 0 0,.int .u64 0,.int .u64 0] 101)) (.cells #[.int .i64 l] 3) w.heap.size (by simp)).trans da;have ll:=Zaq (w.alloc (.cells #[.int .i64 pl,.int .i64 l,.slice none 0 0,.int .u64 0,.int .u64 0] 101)) (.cells #[.int .i64 l] 3) (w.heap.size+1) (by simp);generalize (w.alloc (.cells #[.int .i64 pl,.int .i64 l,.slice none 0 0,.int .u64 0,.int .u64 0] 101)).alloc (.cells #[.int .i64 l] 3)=w1 at *;refine(ZqG [l] _ w1 ⟨_,1,rfl,.inr ⟨_,0,rfl,fun j hj=>?_⟩⟩ (by simp)).mono ?_
  ·obtain rfl:j=0:=by simpa using hj
   simp[World.cell?,ll]
  ·rintro e w2 ⟨rfl,hx⟩
   unfold ZbU;have aO:=aK.trans hx;have aL:=(hx.below.block _ (Zrv aF).1).trans aF;obtain⟨c0,c1,c2,c3,c4,cf⟩:=Zbt aL;have cf3:=cf 3;have cf4:=cf 4;have aU:((w2.setCell ⟨w.heap.size,3,none⟩ (.int .u64 (lo (ofS [l])))).setCell ⟨w.heap.size,4,none⟩ (.int .u64 (hi (ofS [l])))).heap[w.heap.size]? =some (.cells #[.int .i64 pl,.int .i64 l,.slice none 0 0,.int .u64 (lo (ofS [l])),.int .u64 (hi (ofS [l]))] 101 (0,0)):=Zaj (Zaj aL 3 _) 4 _;obtain⟨d0,d1,d2,d3,d4,_⟩:=Zbt aU;have aR:Ext w ((w2.setCell ⟨w.heap.size,3,none⟩ (.int .u64 (lo (ofS [l])))).setCell ⟨w.heap.size,4,none⟩ (.int .u64 (hi (ofS [l])))):=(aO.setCell (by simp) _).setCell (by simp) _;clear aL aU cf aF ll da;go_wp2_with fail;generalize (w2.setCell ⟨w.heap.size,3,none⟩ (.int .u64 (lo (ofS [l])))).setCell ⟨w.heap.size,4,none⟩ (.int .u64 (hi (ofS [l])))=w3 at *;have hq:=Zip (n:=ZjN l pl) (v:=.slice none 0 0) (h.below aR.below) (Ze2 _) he.out;rw[fE.out]at hq;refine(hq.mono (ZaF.after aR.below)).mono ?_;rintro e w4 ⟨rfl,hR⟩;have hR:=Zrr hR;go_wp2_with fail;go_ret;exact⟨rfl,hR.out⟩
 ·have fE:Hid ((ZjN l pl).le=0):=Zrr (if_neg hl)
  go_enter Tryz.func69,Tryz.ntmps69
  go_wp2_with fail;generalize w.alloc (.cells #[.int .i64 pl,.int .i64 l,.slice none 0 0,.int .u64 0,.int .u64 0] 101)=w3 at *;have hq:=Zip (n:=ZjN l pl) (v:=.slice none 0 0) (h.below aW.below) (Ze2 _) he.out;rw[fE.out]at hq;refine(hq.mono (ZaF.after aW.below)).mono ?_;rintro e w4 ⟨rfl,hR⟩;have hR:=Zrr hR;go_wp2_with fail;go_ret;exact⟨rfl,hR.out⟩
end Go.Proofs.YtemnmcfmabamcaaGreatDoor
namespace Go.Proofs.YtemnmcfmabamcaaGreatDoor
open Go Go.RowKit Go.Shelf Go.Sort
structure Zik (B:Zar) (ns:List Zac) (bx:Nat) (w:World):Prop where
 tz:ZaY w
 box:w.cell? ⟨bx,0,none⟩=some (.pointer (some ⟨B.sb,0,none⟩))
 nod:∃cap,w.cell? ⟨B.sb,2,none⟩=some (.slice (some ⟨B.nb,0,none⟩) ns.length cap)
 le:∀i,i<ns.length→w.cell? ⟨B.nb,i*5+3,none⟩=some (.int .u64 (lo (ZaG ns i)))∧w.cell? ⟨B.nb,i*5+4,none⟩=some (.int .u64 (hi (ZaG ns i)))
theorem Zik.same{B:Zar}{ns:List Zac}{bx:Nat}{w w':World}(h:Zik B ns bx w)(hs:∀k,k=gTz∨k=bx∨k=B.sb∨k=B.nb→w'.heap[k]? =w.heap[k]?):Zik B ns bx w' where
 tz:=h.tz.same (hs _ (.inl rfl))
 box:=(World.cell?_of_block (a:=⟨bx,0,none⟩) (hs _ (.inr (.inl rfl)))).trans h.box
 nod:=by
  obtain⟨cap,hc⟩:=h.nod;exact⟨cap,(World.cell?_of_block (a:=⟨B.sb,2,none⟩) (hs _ (.inr (.inr (.inl rfl))))).trans hc⟩
 le:=fun i hi=>⟨(World.cell?_of_block (a:=⟨B.nb,i*5+3,none⟩) (hs _ (.inr (.inr (.inr rfl))))).trans (h.le i hi).1,(World.cell?_of_block (a:=⟨B.nb,i*5+4,none⟩) (hs _ (.inr (.inr (.inr rfl))))).trans (h.le i hi).2⟩
theorem ZbM{w:World}{b0:Nat}{e:TypeId}{sz n:Nat}{v:Value}{xs:List Value}{b:Nat}(h:w.ownsRow b0 e sz v n xs)(hb:v.ownBlock=some b){j:Nat}{u:Value}(hj:xs[j]? =some u):w.cell? ⟨b,j,none⟩=some u∧w.frozen? ⟨b,j,none⟩=false:=by
 obtain⟨hl,⟨rfl,_⟩|⟨g,cap,cur,rfl,hg,hh,hn,hc,hs,ht⟩⟩:=h
 ·simp[Value.ownBlock]at hb
 ·simp[Value.ownBlock]at hb
  subst hb;rw[←ht,List.getElem?_take]at hj
  split at hj
  ·have:cur[j]? =some u:=by simpa using hj
   simp[World.cell?,World.frozen?,hh,this]
  ·simp at hj
theorem Zck.cells{w:World}{nv:Value}{nb:Nat}{ns:List Zac}{vs:List Value}(h:Zck w nv nb ns vs)(i:Nat)(hi:i<ns.length)(hv:i<vs.length) :
  w.cell? ⟨nb,i*5,none⟩=some (.int .i64 ns[i].pl)∧w.cell? ⟨nb,i*5+1,none⟩=some (.int .i64 ns[i].lit)∧w.cell? ⟨nb,i*5+2,none⟩=some vs[i] ∧
   w.cell? ⟨nb,i*5+3,none⟩=some (.int .u64 (lo ns[i].le))∧w.cell? ⟨nb,i*5+4,none⟩=some (.int .u64 (Proofs.YtemnmcfmabamcaaGreatDoor.hi ns[i].le)) :=
 ⟨(ZbM h.own h.blk (Zcr _ _ h.len i hi hv 0 (by omega))).1,(ZbM h.own h.blk (Zcr _ _ h.len i hi hv 1 (by omega))).1,(ZbM h.own h.blk (Zcr _ _ h.len i hi hv 2 (by omega))).1,
   (ZbM h.own h.blk (Zcr _ _ h.len i hi hv 3 (by omega))).1,(ZbM h.own h.blk (Zcr _ _ h.len i hi hv 4 (by omega))).1⟩
theorem Zn4{ns:List Zac}{i:Nat}(hi:i<ns.length):ZaG ns i=ns[i].le:=by simp[ZaG,hi]
theorem Rep.leRep{B:Zar}{s:St}{w:World}(h:Rep B s w){bx:Nat}(hb:w.cell? ⟨bx,0,none⟩=some (.pointer (some ⟨B.sb,0,none⟩))):Zik B s.nodes bx w:=by
 obtain⟨nv,vs,aM,bN,_⟩:=h.store;obtain⟨cap,rfl⟩:=bN.form;refine⟨h.tz,hb,⟨cap,by simp[World.cell?,aM]⟩,fun i hi=>?_⟩;obtain⟨_,_,_,c3,c4⟩:=bN.cells i hi (by rw[bN.len];exact hi);rw[Zn4 hi];exact⟨c3,c4⟩
def ZqX (ns:List Zac)(p q:Nat × Nat):Int:=if ZaX (ZaG ns p.1) (ZaG ns q.1)=true then -1 else 1
theorem Ziy{B:Zar}{ns:List Zac}{bx:Nat}{w:World}(h:Zik B ns bx w)(p1 p2 q1 q2:Nat)(hp:p1<ns.length)(hq:q1<ns.length)(hn:ns.length≤1048576) :
  Calls Tryz.prog 146 #[.agg #[.int .i64 p1,.int .i64 p2],.agg #[.int .i64 q1,.int .i64 q2],.pointer (some ⟨bx,0,none⟩)] w fun e w'=>e= .returned (.int .i64 (ZqX ns (p1,p2) (q1,q2)))∧Ext w w':=by
 obtain⟨cap,ko⟩:=h.nod;have hcf:=Zrr (show ZqX ns (p1,p2) (q1,q2)=if ZaX (ZaG ns p1) (ZaG ns q1)=true then -1 else 1 from rfl);obtain⟨l1,l2⟩:=h.le p1 hp;obtain⟨l3,l4⟩:=h.le q1 hq;have al:=h.box;have rg:=h.tz;have aW:Ext w ((w.alloc (.cells #[.int .i64 p1,.int .i64 p2] 130)).alloc (.cells #[.int .i64 q1,.int .i64 q2] 130)):=((Ext.refl w).alloc _).alloc _;have fX:=Zaq (w.alloc (.cells #[.int .i64 p1,.int .i64 p2] 130)) (.cells #[.int .i64 q1,.int .i64 q2] 130) (w.heap.size+1) (by simp);have lI:=(Below.heap_alloc (w.alloc (.cells #[.int .i64 p1,.int .i64 p2] 130)) (.cells #[.int .i64 q1,.int .i64 q2] 130) w.heap.size (by simp)).trans (Zrz w (.cells #[.int .i64 p1,.int .i64 p2] 130));have kq:(0:Int)≤p1:=by omega
 have gG:(p1:Int)<ns.length:=by omega
 have qB:(0:Int)≤q1:=by omega
 have dR:(q1:Int)<ns.length:=by omega
 go_enter Tryz.func146,Tryz.ntmps146
 go_wp2_with fail;generalize (w.alloc (.cells #[.int .i64 p1,.int .i64 p2] 130)).alloc (.cells #[.int .i64 q1,.int .i64 q2] 130)=w1 at *;have b0:=(Zah lI).1;have b1:=(Zah fX).1
 have F1:∀w':World,Ext w1 w'→w'.cell? ⟨w.heap.size,0,none⟩=some (.int .i64 p1)∧w'.cell? ⟨w.heap.size+1,0,none⟩=some (.int .i64 q1)∧w'.cell? ⟨bx,0,none⟩=some (.pointer (some ⟨B.sb,0,none⟩)) ∧
   w'.cell? ⟨B.sb,2,none⟩=some (.slice (some ⟨B.nb,0,none⟩) ns.length cap)∧w'.cell? ⟨B.nb,p1*5+3,none⟩=some (.int .u64 (lo (ZaG ns p1)))∧w'.cell? ⟨B.nb,p1*5+4,none⟩=some (.int .u64 (hi (ZaG ns p1))) ∧
   w'.cell? ⟨B.nb,q1*5+3,none⟩=some (.int .u64 (lo (ZaG ns q1)))∧w'.cell? ⟨B.nb,q1*5+4,none⟩=some (.int .u64 (hi (ZaG ns q1)))∧ZaY w':=fun w' hx =>
  ⟨hx.cell b0,hx.cell b1,(aW.trans hx).cell al,(aW.trans hx).cell ko,(aW.trans hx).cell l1,(aW.trans hx).cell l2,(aW.trans hx).cell l3,(aW.trans hx).cell l4,rg.ext (aW.trans hx)⟩
 replace F1:=Zrr F1;clear b0 b1 al ko l1 l2 l3 l4 lI fX;replace rg:=Zrr rg
 (refine Zaf (by kernel_rfl) (by kernel_rfl) ?_
  repeat (refine wpQuiet_step (fun K hK=>?_)
          go_simp
          first
           | (refine hK _ ?_;clear hK K)
           | (replace hK:=Zrr hK
              apply Exists.intro
              refine⟨fun wq hq=>?_,hK.out _ ?_⟩
              ·(obtain⟨f1,f2,f3,f4,f5,f6,f7,f8,f9⟩:=F1.out wq hq;replace f9:=Zrr f9)
               go_simp
               first
                | done
                | rfl
                | exact⟨rfl,rfl⟩
                | (refine(ZjM _ _ _ f9.out).mono ?_;rintro e w' ⟨rfl,hb⟩;exact⟨rfl,Ext.trans hq hb⟩)
              clear hK K))
  refine wpQuiet_nil ?_)
 intro w2 bS;have aO:=Zrr (aW.trans bS)
 cases eX:ZaX (ZaG ns p1) (ZaG ns q1)
 ·replace eX:=Zrr eX
  go_wp2_with fail;go_ret;exact⟨by rw[hcf.out,eX.out];rfl,aO.out⟩
 ·replace eX:=Zrr eX
  go_wp2_with fail;go_ret;exact⟨by rw[hcf.out,eX.out];rfl,aO.out⟩
end Go.Proofs.YtemnmcfmabamcaaGreatDoor
namespace Go.Proofs.YtemnmcfmabamcaaGreatDoor
open Go Go.RowKit Go.Shelf
theorem Rep.cells{B:Zar}{s:St}{w:World}(h:Rep B s w):∃cap,w.cell? ⟨B.sb,0,none⟩=some (.slice (some ⟨B.tb,0,none⟩) s.tree.length B.tc)∧w.cell? ⟨B.sb,1,none⟩=some (.map (some B.lb)) ∧
  w.cell? ⟨B.sb,2,none⟩=some (.slice (some ⟨B.nb,0,none⟩) s.nodes.length cap)∧w.cell? ⟨B.sb,3,none⟩=some (.map (some B.ub))∧w.cell? ⟨B.sb,4,none⟩=some (.map (some B.ab))∧w.cell? ⟨B.sb,5,none⟩=some (.map (some B.mb)):=by
 obtain⟨nv,vs,aM,bN,_⟩:=h.store;obtain⟨cap,rfl⟩:=bN.form;exact⟨cap,by simp[World.cell?,aM],by simp[World.cell?,aM],by simp[World.cell?,aM],by simp[World.cell?,aM],by simp[World.cell?,aM],by simp[World.cell?,aM]⟩
theorem Rep.node{B:Zar}{s:St}{w:World}(h:Rep B s w){i:Nat}{n:Zac}(hn:s.nodes[i]? =some n):∃v,Zcp w v n.el∧(∀b,v.ownBlock=some b→b∈B.eb) ∧
  w.cell? ⟨B.nb,i*5,none⟩=some (.int .i64 n.pl)∧w.cell? ⟨B.nb,i*5+1,none⟩=some (.int .i64 n.lit)∧w.cell? ⟨B.nb,i*5+2,none⟩=some v ∧
   w.cell? ⟨B.nb,i*5+3,none⟩=some (.int .u64 (lo n.le))∧w.cell? ⟨B.nb,i*5+4,none⟩=some (.int .u64 (hi n.le)):=by
 obtain⟨nv,vs,aM,bN,he⟩:=h.store;obtain⟨hi,rfl⟩:=Zrw hn;have hv:i<vs.length:=by rw[bN.len];exact hi
 exact⟨vs[i],bN.els i hi hv,fun b hb=>he _ (ZrM hv) b hb,bN.cells i hi hv⟩
theorem Rep.offT{B:Zar}{s:St}{w w':World}{blk:Nat}{c0:Array Value}{t:TypeId}{f0:Nat × Nat}(h:Rep B s w)(hk:w.heap[blk]? =some (.cells c0 t f0))(h1:t≠ZaN)(h2:t≠Zbd)(h3:t≠ZaD)(h4:t≠78)(hg:blk≠Zdm∧blk≠gTz)
  (hs:∀(k:Nat),k≠blk→w'.heap[k]? =w.heap[k]?):Rep B s w':=by
 obtain⟨nv,vs,aM,hn,he⟩:=h.store;obtain⟨c',hc⟩:=hn.nbk;have n1:B.sb≠blk:=fun e=>by rw[e,hk]at aM;simp at aM;exact h3 aM.2.1
 have n2:B.nb≠blk:=fun e=>by rw[e,hk]at hc;simp at hc;exact h2 hc.2.1
 have nm:∀ {α β:Type} [DecidableEq α] {enc:α→Value}{encV:β→Value}{b:Nat}{m:α→Option β},ZaI enc encV w b m→ZaI enc encV w' b m:=fun {α β _ enc encV b m} hm=>by
  obtain⟨L,cl,hb,eY⟩:=hm;refine⟨L,cl,(hs b (fun e=>?_)).trans hb,eY⟩;rw[e,hk]at hb;simp at hb
 exact {
  tz:=h.tz.same (hs _ (Ne.symm hg.2))
  pow:=h.pow.same (hs _ (Ne.symm hg.1))
  glob:=h.glob
  store:=by
   refine⟨nv,vs,(hs _ n1).trans aM,⟨hn.len,Zaa hn.own ?_,hn.blk,fun i hi hv=>?_⟩,he⟩
   ·intro k bW
    rw[hn.blk]at bW
    cases bW
    exact hs _ n2
   ·obtain⟨ba,c,jr,aT⟩:=hn.els i hi hv
    refine⟨ba,c,jr,aT.imp id ?_⟩;rintro⟨b,o,rfl,cs,fz,hb,cA⟩;exact⟨b,o,rfl,cs,fz,(hs b (fun e=>by rw[e,hk]at hb;simp at hb;exact h1 hb.2.1)).trans hb,cA⟩
  tree:=by
   obtain⟨c,fz,hb,cA⟩:=h.tree;refine⟨c,fz,(hs _ (fun e=>?_)).trans hb,cA⟩;rw[e,hk]at hb;simp at hb;exact h4 hb.2.1
  leaf:=nm h.leaf
  uniq:=nm h.uniq
  ands:=nm h.ands
  nots:=nm h.nots
  apart:=h.apart
  small:=h.small }
theorem Rep.setT{B:Zar}{s:St}{w:World}{blk o:Nat}{c0:Array Value}{t:TypeId}{f0:Nat × Nat}{u:Value}(h:Rep B s w)(hk:w.heap[blk]? =some (.cells c0 t f0))(h1:t≠ZaN)(h2:t≠Zbd)(h3:t≠ZaD)(h4:t≠78)(hg:blk≠Zdm∧blk≠gTz) :
  Rep B s (w.setCell ⟨blk,o,none⟩ u)∧Stp [blk] B w B (w.setCell ⟨blk,o,none⟩ u) :=
 ⟨h.offT hk h1 h2 h3 h4 hg (fun k hk=>Below.heap_setCell _ _ _ _ hk),Stp.of_but ⟨rfl,rfl,rfl⟩ (by simp[World.setCell]) (fun k _ hX=>Below.heap_setCell _ _ _ _ (by simpa using hX))⟩
def Zgn (n:Nat)(l:List Int):Int:=if l.all (fun a=>decide (0≤a) && decide (a<n)) then 0 else 1
theorem Zdc{B:Zar}{s:St}{w:World}{v:Value}{l:List Int}(h:Rep B s w)(ht:s.tree≠[])(hv:SlI w v l)(hl:l.length≤1048576) :
  Calls Tryz.prog 39 #[.pointer (some ⟨B.sb,0,none⟩),v] w fun e w'=>e= .returned (.int .i64 (Zgn s.nodes.length l))∧w=w':=by
 obtain⟨cap,c0,_,c2,_⟩:=h.cells;have eH:0<s.tree.length:=List.length_pos_iff.2 ht;have bN:=h.small.1;obtain⟨ba,c,rfl,gA⟩:=hv
 have qF:∀j (hj:j<l.length),∃b o,ba=some ⟨b,o,none⟩∧w.cell? ⟨b,o+j,none⟩=some (.int .i64 l[j]):=fun j hj=>by
  rcases gA with ⟨_,e,_⟩|⟨b,o,e,hc⟩
  ·rw[e]at hj;simp at hj
  ·exact⟨b,o,e,hc j hj⟩
 clear gA;have d0:((s.tree.length:Int) ==0)=false:=by simp;omega
 replace qF:=Zrr qF;clear h ht
 go_enter Tryz.func39,Tryz.ntmps39
 go_wp2_with fail
 go_loop [19] (fun i=>∃k:Nat,k≤l.length∧i= .int .i64 k∧Hid ((l.take k).all (fun a=>decide (0≤a) && decide (a<s.nodes.length))=true)) (fun i=>l.length - (intOf i).toNat)
 case atStart=>exact⟨0,Nat.zero_le _,rfl,Zrr rfl⟩
 case round =>
  obtain⟨k,hk,rfl,hI⟩:=hrel
  by_cases aD:k<l.length
  ·obtain⟨b,o,rfl,hc⟩:=qF.out k aD
   have tL:l.take (k+1)=l.take k++[l[k]]:=List.take_succ_eq_append_getElem aD;have az:Hid (∀P:Int→Bool,(l.take (k+1)).all P=((l.take k).all P && P l[k])):=Zrr (fun P=>by rw[tL,List.all_append,List.all_cons,List.all_nil,Bool.and_true])
   have jI:Hid (∀P:Int→Bool,P l[k]=false→l.all P=false):=Zrr (fun P hP=>by
    rw[List.all_eq_false];exact⟨l[k],ZrM aD,by simp[hP]⟩)
   clear tL;generalize l[k]=x at *
   by_cases hx:0≤x∧x<s.nodes.length
   ·obtain⟨aW,aK⟩:=hx
    have e1:decide (x<0)=false:=ZrH (by omega);have e2:decide (x≥(s.nodes.length:Int))=false:=ZrH (by omega);go_wp2_with fail
    go_round
    case rel=>exact⟨k+1,by omega,by go_num,Zrr (by rw[az.out,hI.out];simp[aW,aK])⟩
    case measure=>simp[intOf];omega
   ·have hf:Zgn s.nodes.length l=1:=by
     unfold Zgn;rw[jI.out _ (by simp;omega)]
     rfl
    replace hf:=Zrr hf
    by_cases aW:x<0
    ·have e1:decide (x<0)=true:=ZrI aW
     go_wp2_with fail;go_ret;exact⟨by rw[hf.out] <;> rfl,rfl⟩
    ·have e1:decide (x<0)=false:=ZrH aW
     have e2:decide (x≥(s.nodes.length:Int))=true:=ZrI (by omega);go_wp2_with fail;go_ret;exact⟨by rw[hf.out] <;> rfl,rfl⟩
  ·obtain rfl:k=l.length:=by omega
   have hf:Zgn s.nodes.length l=0:=by
    have:=hI.out;rw[List.take_length]at this;unfold Zgn;rw[this];rfl
   replace hf:=Zrr hf;go_wp2_with fail;go_ret;exact⟨by rw[hf.out] <;> rfl,rfl⟩
end Go.Proofs.YtemnmcfmabamcaaGreatDoor
namespace Go.Proofs.YtemnmcfmabamcaaGreatDoor
open Go Go.RowKit Go.Shelf
theorem Zkl(c:Array Value)(hc:c.size=4)(w:World) :
  CallsD Tryz.prog 99 c .returning w fun e u' w'=>e= .returned (.tuple #[])∧u'= .returning∧w'=w:=by
 obtain⟨a0,a1,a2,a3,rfl⟩:∃a0 a1 a2 a3,c=#[a0,a1,a2,a3]:=by
  obtain⟨l⟩:=c
  match l,hc with
  | [a0,a1,a2,a3],_=>exact⟨a0,a1,a2,a3,rfl⟩
 refine callsD_of_wpS Tryz.func99 rfl fun c₀ cs hu=>?_
 apply wpS_seq
 apply wpS_region
 simp[wpOpsS,go_sem,recoverD,hu,Tryz.ntmps99,Exit.thenS]
 apply wpS_seq
 apply wpS_region
 simp[wpOpsS,go_sem,Exit.thenS];refine wpS_cond (t:=false) (by simp[Act.eval,Array.replicate]) ?_;simp only[Bool.false_eq_true,if_false];refine wpS_of_wp (wp_skip ?_)
 cases c₀
 simp_all [bodyPostS,results,Tryz.results99]
theorem ZnY(w:World)(a b c d:Obj):((((w.alloc a).alloc b).alloc c).alloc d).heap[w.heap.size+1]? =some b∧((((w.alloc a).alloc b).alloc c).alloc d).heap[w.heap.size+1+1]? =some c:=by
 constructor
 ·rw[Below.heap_alloc _ _ _ (by simp),Below.heap_alloc _ _ _ (by simp)]
  exact Zaq _ _ _ (by simp)
 ·rw[Below.heap_alloc _ _ _ (by simp)]
  exact Zaq _ _ _ (by simp)
def Zhy (r:Nat)(B:Zar)(s':St)(w:World)(e:Ending)(w':World):Prop:=e= .returned (.tuple #[.int .i64 r,.int .i64 0])∧∃B',Rep B' s' w'∧Stp [] B w B' w'
theorem Zjh{B:Zar}{s s':St}{w:World}{r K:Nat}{cap:Array Value}(h:Rep B s w)(hK:∀w,(callFunc K cap).run Tryz.prog w= .ok (.enter K cap) w)(hf:∀w',Ext w w'→Calls Tryz.prog K cap w' (ZaF [] (.int .i64 r) B s' w')) :
  Calls Tryz.prog 67 #[.pointer (some ⟨B.sb,0,none⟩),.func (.func K) #[] cap] w (Zhy r B s' w):=by
 have nL:∀(fn:Fn) (first cap:Array Value) (w:World),(Instr.makeFunc fn first cap).run Tryz.prog w= .ok (.func fn first cap) w:=fun _ _ _ _=>rfl
 obtain⟨cp,_,_,c2,_⟩:=h.cells;have aR:Ext w (((w.alloc (.cells #[.pointer (some ⟨B.sb,0,none⟩)] 28)).alloc (.cells #[.int .i64 0] 3)).alloc (.cells #[.int .i64 0] 31)):=(((Ext.refl w).alloc _).alloc _).alloc _;have c23:=aR.cell c2
 go_enter_defers Tryz.func67,Tryz.ntmps67
 go_wp2_with fail;have hx:Ext w ((((w.alloc (.cells #[.pointer (some ⟨B.sb,0,none⟩)] 28)).alloc (.cells #[.int .i64 0] 3)).alloc (.cells #[.int .i64 0] 31)).alloc (.cells #[.int .i64 s.nodes.length] 3)):=((((Ext.refl w).alloc _).alloc _).alloc _).alloc _;obtain⟨hn,he⟩:=ZnY w (.cells #[.pointer (some ⟨B.sb,0,none⟩)] 28) (.cells #[.int .i64 0] 3) (.cells #[.int .i64 0] 31) (.cells #[.int .i64 s.nodes.length] 3);generalize (((w.alloc (.cells #[.pointer (some ⟨B.sb,0,none⟩)] 28)).alloc (.cells #[.int .i64 0] 3)).alloc (.cells #[.int .i64 0] 31)).alloc (.cells #[.int .i64 s.nodes.length] 3)=w1 at *;refine(hf w1 hx).mono ?_;rintro e w2 ⟨rfl,B2,bA,bB⟩;have aQ:=h.below hx.below;have hg:=h.glob B.sb (by simp[Zar.mut]);have fN:=h.pow.lt;have iE:=h.tz.lt';have kl:=bB.keep hn (aQ.not_mut hn (by decide) (by decide)) (by simp);have he2:=bB.keep he (aQ.not_mut he (by decide) (by decide)) (by simp);have n0:w2.cell? ⟨w.heap.size+1,0,none⟩=some (.int .i64 0):=by simp[World.cell?,kl]
 have n1:w2.frozen? ⟨w.heap.size+1,0,none⟩=false:=by simp[World.frozen?,kl]
 have e0:w2.cell? ⟨w.heap.size+1+1,0,none⟩=some (.int .i64 0):=by simp[World.cell?,he2]
 have e1:w2.frozen? ⟨w.heap.size+1+1,0,none⟩=false:=by simp[World.frozen?,he2]
 have hz:w.heap.size+1+1≠w.heap.size+1:=by omega
 have av:w.heap.size+1≠w.heap.size+1+1:=by omega
 obtain⟨cX,fL⟩:=bA.setT (o:=0) (u:=.int .i64 r) kl (by decide) (by decide) (by decide) (by decide) (by omega);have he3:(w2.setCell ⟨w.heap.size+1,0,none⟩ (.int .i64 r)).heap[w.heap.size+1+1]? =some (.cells #[.int .i64 0] 31 (0,0)):=(Below.heap_setCell _ _ _ _ hz).trans he2;obtain⟨gY,dK⟩:=cX.setT (o:=0) (u:=.int .i64 0) he3 (by decide) (by decide) (by decide) (by decide) (by omega)
 have r0:((w2.setCell ⟨w.heap.size+1,0,none⟩ (.int .i64 r)).setCell ⟨w.heap.size+1+1,0,none⟩ (.int .i64 0)).cell? ⟨w.heap.size+1,0,none⟩=some (.int .i64 r):=by
  have:=Zaj kl 0 (.int .i64 r);have:=(Below.heap_setCell (w2.setCell ⟨w.heap.size+1,0,none⟩ (.int .i64 r)) ⟨w.heap.size+1+1,0,none⟩ (.int .i64 0) (w.heap.size+1) av).trans this;simp[World.cell?,this]
 have r1:((w2.setCell ⟨w.heap.size+1,0,none⟩ (.int .i64 r)).setCell ⟨w.heap.size+1+1,0,none⟩ (.int .i64 0)).cell? ⟨w.heap.size+1+1,0,none⟩=some (.int .i64 0):=by
  have:=Zaj he3 0 (.int .i64 0);simp[World.cell?,this]
 have aa:Hid (∃B',Rep B' s' ((w2.setCell ⟨w.heap.size+1,0,none⟩ (.int .i64 r)).setCell ⟨w.heap.size+1+1,0,none⟩ (.int .i64 0))∧Stp [] B w B' ((w2.setCell ⟨w.heap.size+1,0,none⟩ (.int .i64 r)).setCell ⟨w.heap.size+1+1,0,none⟩ (.int .i64 0))) :=
  Zrr ⟨B2,gY,((((Stp.of_below (X:=[]) hx.below).then bB).trans fL).trans dK).weak (fun x hx=>.inr (by simp at hx;omega))⟩
 clear gY dK cX fL bA bB aQ kl he2 he3 hn he c23 c2 hf hK aR h;go_wp2_with fail;generalize (w2.setCell ⟨w.heap.size+1,0,none⟩ (.int .i64 r)).setCell ⟨w.heap.size+1+1,0,none⟩ (.int .i64 0)=w4 at *;refine leaves_cons (f:=99) (args:=#[.pointer (some ⟨w.heap.size,0,none⟩),.pointer (some ⟨w.heap.size+1+1+1,0,none⟩),.pointer (some ⟨w.heap.size+1,0,none⟩),.pointer (some ⟨w.heap.size+1+1,0,none⟩)]) (by simp) (by simp[go_sem]) ?_;refine(Zkl _ rfl _).mono ?_;rintro e u' w'' ⟨rfl,rfl,rfl⟩;have ik:Zhy r B s' w (.returned (.tuple #[.int .i64 r,.int .i64 0])) w'':=⟨rfl,aa.out⟩;clear aa;simp[Leaves,settle,results,Tryz.results67,go_sem,r0,r1];exact ik
example (c:Array Value) (w:World):(callFunc 73 c).run Tryz.prog w= .ok (.enter 73 c) w:=by
 simp[go_sem,Tryz.func73]
end Go.Proofs.YtemnmcfmabamcaaGreatDoor
end
section
namespace Go.Proofs
open Go.Shelf
def Tryz.sortPair_ren:Go.Shelf.Ren:=⟨fun|6=>145|15=>142|14=>167|28=>165|29=>149|20=>180|21=>181|22=>182|23=>183|24=>184|25=>185|26=>186|27=>187|46=>190|47=>175|48=>176|49=>191|50=>192|57=>194|n=>n,fun|22=>99|24=>130|25=>195|3=>3|39=>79|0=>0|53=>198|55=>80|4=>4|46=>209|45=>208|50=>123|5=>5|9=>9|66=>223|70=>227|76=>239|77=>240|n=>n,fun|n=>n⟩
theorem Tryz.sortPair:Go.Proofs.SlLaysF0.n6 Tryz.prog Tryz.sortPair_ren:={
 mixed:=by kernel_rfl
 f6:=⟨Tryz.f145.name,by decide,Tryz.func145.trans (congrArg some (by kernel_rfl))⟩
 f14:=⟨Tryz.f167.name,by decide,Tryz.func167.trans (congrArg some (by kernel_rfl))⟩
 f15:=Tryz.func142.trans (congrArg some (by kernel_rfl))
 f20:=⟨Tryz.f180.name,by decide,Tryz.func180.trans (congrArg some (by kernel_rfl))⟩
 f21:=⟨Tryz.f181.name,by decide,Tryz.func181.trans (congrArg some (by kernel_rfl))⟩
 f22:=⟨Tryz.f182.name,by decide,Tryz.func182.trans (congrArg some (by kernel_rfl))⟩
 f23:=⟨Tryz.f183.name,by decide,Tryz.func183.trans (congrArg some (by kernel_rfl))⟩
 f24:=⟨Tryz.f184.name,by decide,Tryz.func184.trans (congrArg some (by kernel_rfl))⟩
 f25:=⟨Tryz.f185.name,by decide,Tryz.func185.trans (congrArg some (by kernel_rfl))⟩
 f26:=⟨Tryz.f186.name,by decide,Tryz.func186.trans (congrArg some (by kernel_rfl))⟩
 f27:=⟨Tryz.f187.name,by decide,Tryz.func187.trans (congrArg some (by kernel_rfl))⟩
 f28:=Tryz.func165.trans (congrArg some (by kernel_rfl))
 f29:=Tryz.func149.trans (congrArg some (by kernel_rfl))
 f46:=⟨Tryz.f190.name,by decide,Tryz.func190.trans (congrArg some (by kernel_rfl))⟩
 f47:=Tryz.func175.trans (congrArg some (by kernel_rfl))
 f48:=Tryz.func176.trans (congrArg some (by kernel_rfl))
 f49:=⟨Tryz.f191.name,by decide,Tryz.func191.trans (congrArg some (by kernel_rfl))⟩
 f50:=⟨Tryz.f192.name,by decide,Tryz.func192.trans (congrArg some (by kernel_rfl))⟩
 f57:=⟨Tryz.f194.name,by decide,Tryz.func194.trans (congrArg some (by kernel_rfl))⟩
 t0:=Tryz.underlying0
 a0:=Tryz.isAgg0
 z0:=Tryz.sizeOf0
 v0:=Tryz.zeroValue0
 t3:=Tryz.underlying3
 a3:=Tryz.isAgg3
 z3:=Tryz.sizeOf3
 v3:=Tryz.zeroValue3
 t4:=Tryz.underlying4
 a4:=Tryz.isAgg4
 z4:=Tryz.sizeOf4
 v4:=Tryz.zeroValue4
 t5:=Tryz.underlying5
 a5:=Tryz.isAgg5
 z5:=Tryz.sizeOf5
 v5:=Tryz.zeroValue5
 t9:=Tryz.underlying9
 a9:=Tryz.isAgg9
 z9:=Tryz.sizeOf9
 v9:=Tryz.zeroValue9
 t22:=Tryz.underlying99
 a22:=Tryz.isAgg99
 z22:=Tryz.sizeOf99
 v22:=Tryz.zeroValue99
 t25:=Tryz.underlying195
 a25:=Tryz.isAgg195
 z25:=Tryz.sizeOf195
 v25:=Tryz.zeroValue195
 t39:=Tryz.underlying79
 a39:=Tryz.isAgg79
 z39:=Tryz.sizeOf79
 v39:=Tryz.zeroValue79
 t45:=Tryz.underlying208
 a45:=Tryz.isAgg208
 z45:=Tryz.sizeOf208
 v45:=Tryz.zeroValue208
 t46:=Tryz.underlying209
 a46:=Tryz.isAgg209
 z46:=Tryz.sizeOf209
 v46:=Tryz.zeroValue209
 t50:=Tryz.underlying123
 a50:=Tryz.isAgg123
 z50:=Tryz.sizeOf123
 v50:=Tryz.zeroValue123
 t53:=Tryz.underlying198
 a53:=Tryz.isAgg198
 z53:=Tryz.sizeOf198
 v53:=Tryz.zeroValue198
 t55:=Tryz.underlying80
 a55:=Tryz.isAgg80
 z55:=Tryz.sizeOf80
 v55:=Tryz.zeroValue80
 t66:=Tryz.underlying223
 a66:=Tryz.isAgg223
 z66:=Tryz.sizeOf223
 v66:=Tryz.zeroValue223
 t70:=Tryz.underlying227
 a70:=Tryz.isAgg227
 z70:=Tryz.sizeOf227
 v70:=Tryz.zeroValue227
 t76:=Tryz.underlying239
 a76:=Tryz.isAgg239
 z76:=Tryz.sizeOf239
 v76:=Tryz.zeroValue239
 t77:=Tryz.underlying240
 a77:=Tryz.isAgg240
 z77:=Tryz.sizeOf240
 v77:=Tryz.zeroValue240 }
end Go.Proofs
end
