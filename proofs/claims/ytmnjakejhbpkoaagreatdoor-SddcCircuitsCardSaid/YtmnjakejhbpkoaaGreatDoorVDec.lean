import Derived.Test.YtmnjakejhbpkoaaGreatDoorVShelf3
set_option linter.unusedSimpArgs false
set_option linter.unusedVariables false
set_option maxRecDepth 100000
set_option maxHeartbeats 2000000
namespace Go.Proofs.YtmnjakejhbpkoaaGreatDoor
open Go Go.RowKit Go.Shelf Go.Sort
abbrev PrN(n:Nat):={ p:Nat × Nat // p.1<n }
def Zeh {n:Nat}(p:PrN n):List Value:=[.int .i64 (p.1.1:Nat),.int .i64 (p.1.2:Nat)]
instance {n:Nat} [h:NeZero n]:Inhabited (PrN n):=⟨⟨(0,0),Nat.pos_of_ne_zero h.out⟩⟩
def ZnZ (ns:List Zaf)(p q:PrN ns.length):Int:=ZoG ns p.1 q.1
theorem Zk2(ns:List Zaf)(x:Nat × Nat):Za2 ns x x=false:=ZgZ _
theorem ZiF(ns:List Zaf)(x y z:Nat × Nat)(h1:Za2 ns x y=true)(h2:Za2 ns y z=true):Za2 ns x z=true:=Zgk _ _ _ h1 h2
theorem Zdp(ns:List Zaf)(p q:PrN ns.length):ltOf (ZnZ ns) p q=Za2 ns p.1 q.1:=by
 unfold ltOf ZnZ ZoG Za2
 cases h:ZaM (ZaK ns p.1.1) (ZaK ns q.1.1) <;> simp
theorem Zo9(ns:List Zaf):SWO (ltOf (ZnZ ns)) where
 irrefl x:=by rw[Zdp];exact ZgZ _
 trans x y z h1 h2:=by rw[Zdp]at *;exact Zgk _ _ _ h1 h2
 ntrans x y z h1 h2:=by rw[Zdp]at *;exact Zk3 _ _ _ h1 h2
theorem Zon(w:World):(isAgg 165).run Tryz.prog w= .ok true w:=by kernel_rfl
theorem ZlB(w:World):(Go.sizeOf 165).run Tryz.prog w= .ok 2 w:=by kernel_rfl
theorem ZhT{w w':World}(h:Ext w w'):∃q os,w'=grow (w.drewN q) os:=by
 refine⟨w'.drawn - w.drawn,w'.heap.extract w.heap.size w'.heap.size,?_⟩;have h1:=h.below;have hd:=h.drawn
 have hh:w'.heap=w.heap++w'.heap.extract w.heap.size w'.heap.size:=by
  apply Array.ext_getElem?
  intro k;rw[Array.getElem?_append]
  split
  ·rename_i hk;exact h1.block k hk
  ·rename_i hk
   rw[Array.getElem?_extract];have:=h1.size
   by_cases bX:k<w'.heap.size
   ·rw[if_pos (by omega)];congr 1;omega
   ·rw[if_neg (by omega),Array.getElem?_eq_none (by omega)]
 cases w'
 cases w
 simp only[grow,World.drewN]at *;have:=h1.os;have:=h1.tape;have:=h1.output;simp only at *
 subst_vars
 congr 1
 omega
section
variable {α:Type} [Inhabited α] (enc:α→List Value) (k:Nat) (w:World) (blk off m:Nat) (dk:Array α) (os:Array Obj)
theorem Zdx{j:Nat}(hj:j<w.heap.size)(aH:j≠blk):(sortWorldK enc k w blk off m dk os).heap[j]? =w.heap[j]?:=by
 unfold sortWorldK putRowK putRow;rw[heap_grow_old _ _ (by simpa [mapBlock,Sort.ahead] using hj)];simp only[mapBlock,Array.getElem?_modify,if_neg (Ne.symm aH),Sort.ahead]
theorem ZoB{c:Array Value}{e:TypeId}{fr:Nat × Nat}(hb:w.heap[blk]? =some (.cells c e fr)):(sortWorldK enc k w blk off m dk os).heap[blk]? =some (.cells (putCells id off (flatK enc k dk) c) e fr):=by
 have aE:=(Zpi hb).1;unfold sortWorldK putRowK putRow;rw[heap_grow_old _ _ (by simpa [mapBlock,Sort.ahead] using aE)];simp only[mapBlock,Array.getElem?_modify,if_true,Sort.ahead,hb]
 rfl
theorem ZnR:w.heap.size≤(sortWorldK enc k w blk off m dk os).heap.size:=by
 unfold sortWorldK putRowK;simp[Sort.ahead]
theorem ZnQ:(sortWorldK enc k w blk off m dk os).os=w.os∧(sortWorldK enc k w blk off m dk os).tape=w.tape∧(sortWorldK enc k w blk off m dk os).output=w.output:=⟨rfl,rfl,rfl⟩
end
theorem ZeN{n:Nat}[NeZero n](d:Array (PrN n))(j:Nat)(hj:j<d.size*2):(flatK Zeh 2 d)[j]? =(ZaL (d.toList.map (·.1)))[j]?:=by
 have e1:(flatK Zeh 2 d)[j]? =some ((Zeh d[j / 2]!)[j % 2]!):=by
  rw[Array.getElem?_eq_getElem (by simpa using hj)]
  congr 1
  rw[←get_flatK Zeh 2 d j hj,getElem!_pos]
 rw[e1];obtain⟨q,r,hr,rfl⟩:∃q r,r<2∧j=q*2+r:=⟨j / 2,j % 2,by omega,by omega⟩;have h1:q<d.size:=by omega
 have hl:q<(d.toList.map (·.1)).length:=by simpa using h1
 obtain⟨g1,g2⟩:=Zbe (d.toList.map (·.1)) q hl;rw[show (q*2+r) / 2=q from by omega,show (q*2+r) % 2=r from by omega,getElem!_pos d q h1];obtain rfl|rfl:r=0∨r=1:=by omega
 ·rw[Nat.add_zero,g1]
  simp[Zeh]
 ·rw[g2]
  simp[Zeh]
theorem Zh8{α β:Type}[Inhabited α](f:α→β)(lt:β→β→Bool)(lt':α→α→Bool)(aE:∀x y,lt' x y=lt (f x) (f y))(d d':Array α)(n:Nat)(rx:d.size=n)(hp:PermIn 0 n d d')(yA:SortedIn lt' 0 n d') :
  (d'.toList.map f).Perm (d.toList.map f)∧(d'.toList.map f).Pairwise (fun a b=>lt b a=false):=by
 subst rx;obtain⟨h1,_,h3⟩:=hp
 constructor
 ·have e1:d.extract 0 d.size=d:=by simp
  have e2:d'.extract 0 d.size=d':=by rw[←h1];simp
  rw[e1,e2]at h3;exact h3.map f
 ·rw[List.pairwise_map,List.pairwise_iff_getElem]
  intro i j hi hj cN;have kO:i<d'.size:=by simpa using hi
  have mV:j<d'.size:=by simpa using hj
  have:=yA i j (Nat.zero_le _) cN (by omega);rw[aE,getElem!_pos d' j mV,getElem!_pos d' i kO]at this;simpa using this
theorem ZjT{B:Zas}{ns:List Zaf}{bx:Nat}{w:World}(h:Zhv B ns bx w)(l:List (Nat × Nat))(blk off cap:Nat){c:Array Value}(hb:w.heap[blk]? =some (.cells c ZaO (0,0)))
  (hc:∀j u,(ZaL l)[j]? =some u→c[off+j]? =some u) (hn:ns.length≤1048576) (aN:∀p∈l,p.1<ns.length) (dO:Zbk (Za2 ns) l=true) (aH:l≠[]) (aL:l.length≤1048576)
  (mc:blk≠gTz∧blk≠bx∧blk≠B.sb∧blk≠B.nb) :
  Calls Tryz.prog 204 #[.slice (some ⟨blk,off,none⟩) l.length cap,.func (.func 205) #[] #[.pointer (some ⟨bx,0,none⟩)]] w fun e w' =>
   e= .returned (.tuple #[])∧((∀j,j<w.heap.size→j≠blk→w'.heap[j]? =w.heap[j]?)∧w.heap.size≤w'.heap.size∧(w'.os=w.os∧w'.tape=w.tape∧w'.output=w.output)∧Zca w' blk off ZaO (ZaL (ZbS (Za2 ns) l))):=by
 have ef:0<ns.length:=by
  cases l with
  | nil=>exact absurd rfl aH
  | cons p r=>have:=aN p (Zpy ..);omega
 haveI:NeZero ns.length:=⟨by omega⟩
 obtain⟨d,hd⟩:∃d:Array (PrN ns.length),d.toList.map (·.1)=l:=⟨(l.attach.map fun p=>⟨p.1,aN p.1 p.2⟩).toArray,by simp[List.map_map,Function.comp_def,List.attach_map_subtype_val]⟩;have rx:d.size=l.length:=by rw[←hd];simp
 have aE:=(Zpi hb).1;have uJ:=h.tz.lt';have iP:=Zpk w _ h.box;obtain⟨cpn,iD⟩:=h.nod;have cq:=Zpk w _ iD;have iS:=Zpk w _ (h.le 0 ef).1
 have wc:CmpLays Tryz.prog 205 #[.pointer (some ⟨bx,0,none⟩)] Zeh 2 (ZnZ ns) blk off d.size w:=by
  intro m os dk _ x y
  have hL:Zhv B ns bx (sortWorldK Zeh 2 w blk off m dk os):=h.same fun k hk=>by
   rcases hk with rfl|rfl|rfl|rfl
   ·exact Zdx _ _ _ _ _ _ _ _ uJ (Ne.symm mc.1)
   ·exact Zdx _ _ _ _ _ _ _ _ iP (Ne.symm mc.2.1)
   ·exact Zdx _ _ _ _ _ _ _ _ cq (Ne.symm mc.2.2.1)
   ·exact Zdx _ _ _ _ _ _ _ _ iS (Ne.symm mc.2.2.2)
  refine(ZhP hL x.1.1 x.1.2 y.1.1 y.1.2 x.2 y.2 hn).mono ?_;rintro e w' ⟨rfl,hx⟩;exact⟨rfl,ZhT hx⟩
 have hH:HoldsK Zeh 2 w blk off d:=by
  intro j hj;simp at hj;have e2:=ZeN d j hj;rw[hd]at e2
  have e3:(ZaL l)[j]? =some ((flatK Zeh 2 d)[j]!):=by
   rw[←e2,Array.getElem?_eq_getElem (by simpa using hj),getElem!_pos]
  have:=hc j _ e3
  constructor
  ·simp[World.cell?,hb,this]
  ·simp[World.frozen?,hb]
 have h0:=AnyQ.slices_SortFunc (α:=PrN ns.length) Tryz.sortPair 2 Zon ZlB;have h1:=h0 Zeh (fun _=>rfl) (fun x v hv=>by simp[Zeh]at hv;rcases hv with rfl|rfl <;> rfl);have h2:=h1 (ZnZ ns) (Zo9 ns);have h3:=h2 205 #[.pointer (some ⟨bx,0,none⟩)] blk off cap d w;have h4:=h3 (enters_of Tryz.func205 (by kernel_rfl) rfl);have h5:=h4 wc hH aE (by omega);clear h0 h1 h2 h3 h4;rw[rx]at h5
 change Calls Tryz.prog 204 _ _ _ at h5
 refine h5.mono ?_;rintro e w' ⟨rfl,d',n,os,hp,yA,rfl⟩;refine⟨rfl,fun j hj aH=>Zdx _ _ _ _ _ _ _ _ hj aH,ZnR _ _ _ _ _ _ _ _,ZnQ _ _ _ _ _ _ _ _,?_⟩;have bW:d'.size=d.size:=hp.1;have k1:=Zh8 (α:=PrN ns.length) (β:=Nat × Nat) (fun x=>x.1) (Za2 ns) (ltOf (ZnZ ns)) (Zdp ns) d d' l.length rx;obtain⟨bC,yB⟩:=k1 hp yA;rw[hd]at bC;have mm:=ZlD (Za2 ns) _ (ZhH (Za2 ns) bC.symm dO) yB;have kq:d'.toList.map (·.1)=ZbS (Za2 ns) l:=Zdv (Za2 ns) (Zk2 ns) (ZiF ns) _ _ (bC.trans (ZaR _ l).symm) mm (ZbA (Za2 ns) (ZiF ns) l dO);refine⟨_,_,ZoB _ _ _ _ _ _ _ _ hb,fun j u hj=>?_⟩;rw[←kq]at hj
 have gT:j<d'.size*2:=by
  have:=(Zpj hj).1;rw[ZcD]at this;simp at this;omega
 rw[←ZeN d' j gT]at hj
 have se:off+j<c.size:=by
  have cx:j<(ZaL l).length:=by rw[ZcD,←rx,←bW];omega
  exact(Zpi (hc j _ (Zpl cx))).1
 simp only[putCells,Array.getElem?_mapIdx,Array.getElem?_eq_getElem se,Option.map_some];rw[if_pos ⟨by omega,by simp;omega⟩,show off+j - off=j from by omega];rw[Array.getElem?_eq_getElem (by simpa using gT)]at hj;rw[getElem!_pos _ j (by simpa using gT)];simpa using hj
end Go.Proofs.YtmnjakejhbpkoaaGreatDoor
namespace Go.Proofs.YtmnjakejhbpkoaaGreatDoor
open Go Go.RowKit Go.Shelf
theorem Zca.off0{w:World}{b o:Nat}{l:List (Nat × Nat)}(h:Zca w b o ZaO (ZaL l))(k:Nat)(hk:k<l.length) :
  w.cell? ⟨b,o+k*2,none⟩=some (.int .i64 (l[k].1:Nat))∧w.cell? ⟨b,o+k*2+1,none⟩=some (.int .i64 (l[k].2:Nat)) :=
 ⟨h.cell (Zbe l k hk).1,h.cell (Zbe l k hk).2⟩
theorem ZhZ(ns:List Zaf)(l:List (Nat × Nat))(k:Nat)(hk:k<l.length):ZaZ ns (l.take (k+1))=Zay ns (ZaZ ns (l.take k)) l[k]:=by
 unfold ZaZ;rw[List.take_succ_eq_append_getElem hk,List.foldl_append]
 rfl
theorem ZmV(w:World):(w.alloc (.cells #[.int .u64 0,.int .u64 0] 41)).cell? ⟨w.heap.size,0,none⟩=some (.int .u64 0)∧(w.alloc (.cells #[.int .u64 0,.int .u64 0] 41)).cell? ⟨w.heap.size,1,none⟩=some (.int .u64 0) ∧
  (w.alloc (.cells #[.int .u64 0,.int .u64 0] 41)).frozen? ⟨w.heap.size,0,none⟩=false∧(w.alloc (.cells #[.int .u64 0,.int .u64 0] 41)).frozen? ⟨w.heap.size,1,none⟩=false:=by
 have:=Zpm w (.cells #[.int .u64 0,.int .u64 0] 41);refine⟨?_,?_,?_,?_⟩ <;> simp only[World.cell?,World.frozen?,this] <;> rfl
theorem Znr{w wu:World}{o:Obj}(hb:Ext (((w.alloc o).alloc (.cells #[.int .u64 0,.int .u64 0] 41)).drew) wu):wu.cell? ⟨w.heap.size+1,0,none⟩=some (.int .u64 0)∧wu.cell? ⟨w.heap.size+1,1,none⟩=some (.int .u64 0) ∧
  wu.frozen? ⟨w.heap.size+1,0,none⟩=false∧wu.frozen? ⟨w.heap.size+1,1,none⟩=false:=by
 have h1:=Zal (w.alloc o) (.cells #[.int .u64 0,.int .u64 0] 41) (w.heap.size+1) (by simp);have h2:wu.heap[w.heap.size+1]? =some (.cells #[.int .u64 0,.int .u64 0] 41):=(hb.below.block _ (by simp[World.drew])).trans h1;refine⟨?_,?_,?_,?_⟩ <;> simp only[World.cell?,World.frozen?,h2] <;> rfl
theorem ZoQ{w wu:World}{o:Obj}{x y:Int}(hb:Ext ((w.alloc o).drew) wu):Ext w (wu.alloc (.cells #[.int .u64 x,.int .u64 y] 41)) ∧
  (wu.alloc (.cells #[.int .u64 x,.int .u64 y] 41)).heap[wu.heap.size]? =some (.cells #[.int .u64 x,.int .u64 y] 41 (0,0)):=by
 have h0:Ext w wu:=(((Ext.refl w).alloc o).drew).trans hb;exact⟨h0.alloc _,Zpm wu _⟩
theorem ZoR{w wu:World}{o:Obj}{x y:Int}(hb:Ext (((w.alloc o).alloc (.cells #[.int .u64 0,.int .u64 0] 41)).drew) wu):Ext w ((wu.setCell ⟨w.heap.size+1,0,none⟩ (.int .u64 x)).setCell ⟨w.heap.size+1,1,none⟩ (.int .u64 y)) ∧
  ((wu.setCell ⟨w.heap.size+1,0,none⟩ (.int .u64 x)).setCell ⟨w.heap.size+1,1,none⟩ (.int .u64 y)).heap[w.heap.size+1]? =some (.cells #[.int .u64 x,.int .u64 y] 41 (0,0)):=by
 have h1:=Zal (w.alloc o) (.cells #[.int .u64 0,.int .u64 0] 41) (w.heap.size+1) (by simp);have h2:wu.heap[w.heap.size+1]? =some (.cells #[.int .u64 0,.int .u64 0] 41):=(hb.below.block _ (by simp[World.drew])).trans h1;have h0:Ext w wu:=((((Ext.refl w).alloc o).alloc _).drew).trans hb;exact⟨(h0.setCell (by simp) _).setCell (by simp) _,Zav h2 _ _⟩
theorem Zho(a b:Zak)(w:World):Calls Tryz.prog 138 #[.agg #[.int .u64 (lo a),.int .u64 (hi a)],.agg #[.int .u64 (lo b),.int .u64 (hi b)]] w fun e w' =>
  e= .returned (.agg #[.int .u64 (lo (a ||| b)),.int .u64 (hi (a ||| b))])∧Ext w w':=Zfj a b w
theorem ZiG(a b:Zak)(w:World)(hT:ZaX w):Calls Tryz.prog 206 #[.agg #[.int .u64 (lo a),.int .u64 (hi a)],.agg #[.int .u64 (lo b),.int .u64 (hi b)]] w fun e w' =>
  e= .returned (.bool (ZaM a b))∧Ext w w':=ZiH a b w hT
theorem ZcQ{B:Zas}{s s':St}{w:World}{l:List (Nat × Nat)}{pl:Int}{r blk off cap:Nat}{c:Array Value}(h:Rep B s w)(hb:w.heap[blk]? =some (.cells c ZaO (0,0)))
  (hc:∀j u,(ZaL l)[j]? =some u→c[off+j]? =some u) (sA:blk∉B.eb) (hg:blk≠ZcR∧blk≠gTz) (aL:l.length≤1048576) (he:Zbn s pl l=some (r,s')) :
  Calls Tryz.prog 171 #[.pointer (some ⟨B.sb,0,none⟩),.int .i64 pl,.slice (some ⟨blk,off,none⟩) l.length cap] w (ZaB [blk] (.int .i64 r) B s' w):=by
 unfold Zbn at he
 split at he
 ·rename_i km
  obtain⟨aH,aN,dO⟩:=km;have lq:∀(fn:Fn) (first cap:Array Value) (w:World),(Instr.makeFunc fn first cap).run Tryz.prog w= .ok (.func fn first cap) w:=fun _ _ _ _=>rfl
  have aC:Ext w (w.alloc (.cells #[.pointer (some ⟨B.sb,0,none⟩)] 32)):=(Ext.refl w).alloc _;have o7:=Zpm w (.cells #[.pointer (some ⟨B.sb,0,none⟩)] 32);have jc:=(Zpi hb).1;have aS:=(aC.below.block blk jc).trans hb
  have jK:∀p∈l,p.1<s.nodes.length∧p.2<s.nodes.length:=fun p hp=>by
   have:=List.all_eq_true.1 aN p hp;simpa using this
  have aU:=h.below aC.below
  have bu:blk≠B.sb∧blk≠B.nb:=by
   obtain⟨nv,vs,aW,hn,_⟩:=h.store;obtain⟨c',ff⟩:=hn.nbk
   constructor
   ·intro e;rw[e,aW]at hb;simp[ZaU,ZaO]at hb
   ·intro e;rw[e,ff]at hb;simp[Za6,ZaO]at hb
  have n8:=ZjT (aU.leRep (bx:=w.heap.size) (Za8 o7).1) l blk off cap aS hc h.small.1 (fun p hp=>(jK p hp).1) dO aH aL ⟨hg.2,by omega,bu.1,bu.2⟩;replace aN:=Zpe aN;replace dO:=Zpe dO;replace lq:=lq;replace he:=Zpe he;replace jK:=Zpe jK
  go_enter Tryz.func171,Tryz.ntmps171
  go_wp2_with fail;refine n8.mono ?_;clear n8;rintro e w2 ⟨rfl,cH,lM,⟨ho,ht,hu⟩,aJ⟩;have bM:Rep B s w2:=aU.off aS sA hg (fun k o hk hko=>cH k (Zpi hko).1 hk);have di:=(cH w.heap.size (by simp) (by omega)).trans o7;obtain⟨l',eR⟩:∃l',l'=ZbS (Za2 s.nodes) l:=⟨_,rfl⟩;rw[←eR]at aJ;have gz:l'.length=l.length:=by rw[eR];exact(ZaR _ l).length_eq
  have fV:∀p∈l',p.1<s.nodes.length∧p.2<s.nodes.length:=fun p hp=>jK.out p (by rw[eR]at hp;exact(ZaR _ l).mem_iff.1 hp)
  replace eR:=Zpe eR;replace fV:=Zpe fV;have lC:=Zpm w2 (.cells #[.int .i64 pl,.int .i64 0,.slice (some ⟨blk,off,none⟩) l.length cap,.int .u64 0,.int .u64 0] 158);have sf:Hid (∀k,k<w.heap.size→k≠blk→w2.heap[k]? =w.heap[k]?):=Zpe (fun k hk aH=>(cH k (by simp;omega) aH).trans (aC.below.block k hk));clear aS o7 aN dO cH aC;have ev:w.heap.size<w2.heap.size:=by have:=lM;simp at this;omega
  go_wp2_with fail
  go_loopw [8,20] (fun f i wr=>∃k:Nat,k≤l.length∧i= .int .i64 k∧f= .bool (ZaZ s.nodes (l'.take k)).1 ∧
    (wr.heap[w2.heap.size]? =some (.cells #[.int .i64 pl,.int .i64 0,.slice (some ⟨blk,off,none⟩) l.length cap,.int .u64 (lo (ZaZ s.nodes (l'.take k)).2),.int .u64 (hi (ZaZ s.nodes (l'.take k)).2)] 158 (0,0))∧Ext w2 wr))
   (fun _ i _=>l.length - (intOf i).toNat)
  case atStart =>
   refine⟨0,Nat.zero_le _,rfl,rfl,?_,(Ext.refl w2).alloc _⟩;rw[show lo (ZaZ s.nodes (l'.take 0)).2=0 from rfl,show hi (ZaZ s.nodes (l'.take 0)).2=0 from by simp[ZaZ,hi]];exact lC
  case round =>
   clear lC;obtain⟨k,hk,rfl,rfl,lC,ax⟩:=hrel;have l9:=bM.below ax.below;have je:=(Za8 ((ax.below.block _ ev).trans di)).1
   by_cases aE:k<l.length
   ·have ky:k<l'.length:=by omega
    obtain⟨e0,e1⟩:=(aJ.same (ax.below.block _ aJ.lt)).off0 k ky;have ep:=fV.out l'[k] (Zpz ky);have fH:=Zpe (ZhZ s.nodes l' k ky);generalize l'[k]=p at *;obtain⟨p1,p2⟩:=p;obtain⟨iU,jj⟩:=ep;simp only at e0 e1 iU jj;generalize rX:ZaZ s.nodes (l'.take k)=acc at *;obtain⟨fst,um⟩:=acc;simp only at lC;replace rX:=Zpe rX;have dV:=l9.leRep je;obtain⟨fM,iD⟩:=dV.nod;obtain⟨q1,q2⟩:=dV.le p1 iU;obtain⟨q3,q4⟩:=dV.le p2 jj;have mq:=Zpe dV.tz;clear dV;obtain⟨c0,c1,c2,c3,c4,cf⟩:=Zbb lC;have hsw:=Zpk wr _ c0;have jS:=Zpm wr (.cells #[.int .i64 p1,.int .i64 p2] 165);replace l9:=Zpe l9;replace lC:=Zpe lC;replace aJ:=Zpe aJ;replace di:=Zpe di
    by_cases hz:p2=0
    ·subst hz
     go_wp2_with fail;go_roundw
     case rel=>exact⟨k+1,by omega,by go_num,by rw[fH.out];rfl,by rw[fH.out];exact(Below.heap_alloc _ _ _ hsw).trans lC.out,ax.alloc _⟩
     case measure=>simp[intOf];omega
    ·have ak:((p2:Int) ==0)=false:=by simp;omega
     have qR:(0:Int)≤p1:=by omega
     have hp1':(p1:Int)<s.nodes.length:=by omega
     have me:(0:Int)≤p2:=by omega
     have hp2':(p2:Int)<s.nodes.length:=by omega
     obtain⟨y0,y1⟩:=Zae jS;have z1:=((Ext.refl wr).alloc (.cells #[.int .i64 p1,.int .i64 p2] 165)).cell je;have z2:=((Ext.refl wr).alloc (.cells #[.int .i64 p1,.int .i64 p2] 165)).cell iD;have z3:=((Ext.refl wr).alloc (.cells #[.int .i64 p1,.int .i64 p2] 165)).cell q1;have z4:=((Ext.refl wr).alloc (.cells #[.int .i64 p1,.int .i64 p2] 165)).cell q2;have z5:=((Ext.refl wr).alloc (.cells #[.int .i64 p1,.int .i64 p2] 165)).cell q3;have z6:=((Ext.refl wr).alloc (.cells #[.int .i64 p1,.int .i64 p2] 165)).cell q4;go_wp2_with fail;have ltc:=Zpk wr _ je;have lts:=Zpk wr _ iD;have ltn:=Zpk wr _ q1;have ltc':w.heap.size<wr.heap.size:=ltc;have lts':B.sb<wr.heap.size:=lts;have ltn':B.nb<wr.heap.size:=ltn;have v1:¬ wr.heap.size+1=w.heap.size:=by omega
     have v2:¬ wr.heap.size+1=B.sb:=by omega
     have v3:¬ wr.heap.size+1=B.nb:=by omega
     have v4:¬ wr.heap.size+1=wr.heap.size:=by omega
     clear ltc lts ltn
     go_region_held3 (fun w'=>w'.cell? ⟨w.heap.size,0,none⟩=some (.pointer (some ⟨B.sb,0,none⟩))∧w'.cell? ⟨B.sb,2,none⟩=some (.slice (some ⟨B.nb,0,none⟩) s.nodes.length fM)∧w'.cell? ⟨B.nb,p1*5+3,none⟩=some (.int .u64 (lo (ZaK s.nodes p1)))∧w'.cell? ⟨B.nb,p1*5+4,none⟩=some (.int .u64 (hi (ZaK s.nodes p1)))∧w'.cell? ⟨B.nb,p2*5+3,none⟩=some (.int .u64 (lo (ZaK s.nodes p2)))∧w'.cell? ⟨B.nb,p2*5+4,none⟩=some (.int .u64 (hi (ZaK s.nodes p2)))∧w'.cell? ⟨wr.heap.size,0,none⟩=some (.int .i64 p1)∧w'.cell? ⟨wr.heap.size,1,none⟩=some (.int .i64 p2))
      (go_keep)
      (first|(go_at_call 138;refine(Zho _ _ (((wr.alloc (.cells #[.int .i64 p1,.int .i64 p2] 165)).alloc (.cells #[.int .u64 0,.int .u64 0] 41)).drew)).mono ?_;rintro e wu ⟨rfl,hb⟩;have k1:wu.cell? ⟨w.heap.size,0,none⟩=some (.pointer (some ⟨B.sb,0,none⟩)):=(by (refine hb.cell ?_;first|assumption|go_keep));have k2:wu.cell? ⟨B.sb,2,none⟩=some (.slice (some ⟨B.nb,0,none⟩) s.nodes.length fM):=(by (refine hb.cell ?_;first|assumption|go_keep));have k3:wu.cell? ⟨B.nb,p1*5+3,none⟩=some (.int .u64 (lo (ZaK s.nodes p1))):=(by (refine hb.cell ?_;first|assumption|go_keep));have k4:wu.cell? ⟨B.nb,p1*5+4,none⟩=some (.int .u64 (hi (ZaK s.nodes p1))):=(by (refine hb.cell ?_;first|assumption|go_keep));have k5:wu.cell? ⟨B.nb,p2*5+3,none⟩=some (.int .u64 (lo (ZaK s.nodes p2))):=(by (refine hb.cell ?_;first|assumption|go_keep));have k6:wu.cell? ⟨B.nb,p2*5+4,none⟩=some (.int .u64 (hi (ZaK s.nodes p2))):=(by (refine hb.cell ?_;first|assumption|go_keep));have k7:wu.cell? ⟨wr.heap.size,0,none⟩=some (.int .i64 p1):=(by (refine hb.cell ?_;first|assumption|go_keep));have k8:wu.cell? ⟨wr.heap.size,1,none⟩=some (.int .i64 p2):=(by (refine hb.cell ?_;first|assumption|go_keep));have n1:=World.new_ne wu _ k1;have n2:=World.new_ne wu _ k2;have n3:=World.new_ne wu _ k3;have n7:=World.new_ne wu _ k7;obtain⟨g0,g1,g2,g3⟩:=ZmV wu;obtain⟨k9,k10,k11,k12⟩:=Znr hb;have oY:=Zpe (ZoR (x:=lo (ZaK s.nodes p1 ||| ZaK s.nodes p2)) (y:=hi (ZaK s.nodes p1 ||| ZaK s.nodes p2)) hb))|(go_at_call 138;refine(Zho _ _ _).mono ?_;rintro e wu ⟨rfl,hb⟩;have k1:wu.cell? ⟨w.heap.size,0,none⟩=some (.pointer (some ⟨B.sb,0,none⟩)):=(by (refine hb.cell ?_;first|assumption|go_keep));have k2:wu.cell? ⟨B.sb,2,none⟩=some (.slice (some ⟨B.nb,0,none⟩) s.nodes.length fM):=(by (refine hb.cell ?_;first|assumption|go_keep));have k3:wu.cell? ⟨B.nb,p1*5+3,none⟩=some (.int .u64 (lo (ZaK s.nodes p1))):=(by (refine hb.cell ?_;first|assumption|go_keep));have k4:wu.cell? ⟨B.nb,p1*5+4,none⟩=some (.int .u64 (hi (ZaK s.nodes p1))):=(by (refine hb.cell ?_;first|assumption|go_keep));have k5:wu.cell? ⟨B.nb,p2*5+3,none⟩=some (.int .u64 (lo (ZaK s.nodes p2))):=(by (refine hb.cell ?_;first|assumption|go_keep));have k6:wu.cell? ⟨B.nb,p2*5+4,none⟩=some (.int .u64 (hi (ZaK s.nodes p2))):=(by (refine hb.cell ?_;first|assumption|go_keep));have k7:wu.cell? ⟨wr.heap.size,0,none⟩=some (.int .i64 p1):=(by (refine hb.cell ?_;first|assumption|go_keep));have k8:wu.cell? ⟨wr.heap.size,1,none⟩=some (.int .i64 p2):=(by (refine hb.cell ?_;first|assumption|go_keep));have n1:=World.new_ne wu _ k1;have n2:=World.new_ne wu _ k2;have n3:=World.new_ne wu _ k3;have n7:=World.new_ne wu _ k7;obtain⟨g0,g1,g2,g3⟩:=ZmV wu;have oY:=Zpe (ZoQ (x:=lo (ZaK s.nodes p1 ||| ZaK s.nodes p2)) (y:=hi (ZaK s.nodes p1 ||| ZaK s.nodes p2)) hb)))
     all_goals
      first
       | (generalize wu.alloc (.cells #[.int .u64 (lo (ZaK s.nodes p1 ||| ZaK s.nodes p2)),.int .u64 (hi (ZaK s.nodes p1 ||| ZaK s.nodes p2))] 41)=wX at oY ⊢
          generalize wu.heap.size=xb at oY ⊢)
       | (generalize (wu.setCell ⟨wr.heap.size+1,0,none⟩ (.int .u64 (lo (ZaK s.nodes p1 ||| ZaK s.nodes p2)))).setCell ⟨wr.heap.size+1,1,none⟩ (.int .u64 (hi (ZaK s.nodes p1 ||| ZaK s.nodes p2)))=wX at oY ⊢
          generalize wr.heap.size+1=xb at oY ⊢)
      clear k1 k2 k3 k4 k5 k6 k7 k8 n1 n2 n3 n7 g0 g1 g2 g3 y0 y1 z1 z2 z3 z4 z5 z6 v1 v2 v3 v4 hb
      try clear k9 k10 k11 k12
      obtain⟨rW,fw⟩:=oY.out;clear oY;obtain⟨x0,x1⟩:=Zae fw;replace fw:=Zpe fw;have m3:=rW.cell c3;have m4:=rW.cell c4;have qQ:=Zpe ((rW.below.block _ hsw).trans lC.out);have tO:=Zpe (mq.out.ext rW);have pg:=Zpe (ax.trans rW);have aW:Hid (Zay s.nodes (fst,um) (p1,p2)=if (fst || ZaM (ZaK s.nodes p1 ||| ZaK s.nodes p2) um)=true then (false,(ZaK s.nodes p1 ||| ZaK s.nodes p2)) else (fst,um)):=Zpe (by simp[Zay,hz]);clear c0 c1 c2 c3 c4 cf q1 q2 q3 q4 e0 e1 jS je iD;generalize (ZaK s.nodes p1 ||| ZaK s.nodes p2)=xx at *
      cases fst
      ·cases pA:ZaM xx um
       ·go_wp2_with (go_at_call 206;refine(ZiG _ _ _ tO.out).mono ?_;rintro e w5 ⟨rfl,aj⟩;have u0:=aj.cell x0;have u1:=aj.cell x1;have u3:=aj.cell m3;have u4:=aj.cell m4;have kN:=(aj.below.block _ (Zpi qQ.out).1).trans qQ.out;obtain⟨_,_,_,_,_,kT⟩:=Zbb kN;have q9:=kT 3;have qd:=kT 4;replace kN:=Zpe kN;clear kT;have pf:=Zpe (pg.out.trans aj))
        go_roundw
        case rel=>exact⟨k+1,by omega,by go_num,by rw[fH.out,aW.out,pA];rfl,by rw[fH.out,aW.out,pA];exact kN.out,pf.out⟩
        case measure=>simp[intOf];omega
       ·go_wp2_with (go_at_call 206;refine(ZiG _ _ _ tO.out).mono ?_;rintro e w5 ⟨rfl,aj⟩;have u0:=aj.cell x0;have u1:=aj.cell x1;have u3:=aj.cell m3;have u4:=aj.cell m4;have kN:=(aj.below.block _ (Zpi qQ.out).1).trans qQ.out;obtain⟨_,_,_,_,_,kT⟩:=Zbb kN;have q9:=kT 3;have qd:=kT 4;replace kN:=Zpe kN;clear kT;have pf:=Zpe (pg.out.trans aj))
        go_roundw
        case rel=>exact⟨k+1,by omega,by go_num,by rw[fH.out,aW.out,pA];rfl,by rw[fH.out,aW.out,pA];exact Zag (Zag kN.out 3 _) 4 _,(pf.out.setCell (by simp) _).setCell (by simp) _⟩
        case measure=>simp[intOf];omega
      ·obtain⟨_,_,_,_,_,kT⟩:=Zbb qQ.out
       have q9:=kT 3;have qd:=kT 4;clear kT;go_wp2_with fail;go_roundw
       case rel=>exact⟨k+1,by omega,by go_num,by rw[fH.out,aW.out];rfl,by rw[fH.out,aW.out];exact Zag (Zag qQ.out 3 _) 4 _,(pg.out.setCell (by simp) _).setCell (by simp) _⟩
       case measure=>simp[intOf];omega
   ·obtain rfl:k=l.length:=by omega
    have e1:l'.take l.length=l':=by rw[←gz];exact List.take_length
    rw[e1]at lC;obtain⟨c0,c1,c2,c3,c4,cf⟩:=Zbb lC
    have hS:Stp [blk] B w B wr:=Stp.of_but ⟨ax.below.os.trans ho,ax.below.tape.trans ht,ax.below.output.trans hu⟩ (by have:=ax.size;simp at lM;omega) (fun k hk hkb=>by
     rw[ax.below.block k (by omega),sf.out k hk (by simpa using hkb)])
    have hv:ZcM wr (.slice (some ⟨blk,off,none⟩) l.length cap) l':=⟨_,cap,by rw[gz],.inr ⟨blk,off,rfl,aJ.same (ax.below.block _ aJ.lt)⟩⟩;have il:=he.out;rw[←eR.out]at il;have hq:=Zhz (n:={ pl:=pl,lit:=0,el:=l',le:=(ZaZ s.nodes l').2 }) l9 hv il;go_wp2_with fail;refine hq.mono ?_;rintro e w9 ⟨rfl,B',fv,cP⟩;have fv:=Zpe fv;have cP:=Zpe cP;go_wp2_with fail;go_ret;exact⟨rfl,B',fv.out,(hS.trans cP.out).weak (fun x hx=>.inl (by simpa [Value.ownBlock] using hx))⟩
 ·cases he
end Go.Proofs.YtmnjakejhbpkoaaGreatDoor
