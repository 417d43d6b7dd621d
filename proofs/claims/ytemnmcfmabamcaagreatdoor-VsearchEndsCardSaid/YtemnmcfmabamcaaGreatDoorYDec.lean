import Derived.Test.YtemnmcfmabamcaaGreatDoorYShelf3
set_option linter.unusedSimpArgs false
set_option linter.unusedVariables false
set_option maxRecDepth 100000
set_option maxHeartbeats 2000000
namespace Go.Proofs.YtemnmcfmabamcaaGreatDoor
open Go Go.RowKit Go.Shelf Go.Sort
abbrev PrN(n:Nat):={ p:Nat × Nat // p.1<n }
def ZeS {n:Nat}(p:PrN n):List Value:=[.int .i64 (p.1.1:Nat),.int .i64 (p.1.2:Nat)]
instance {n:Nat} [h:NeZero n]:Inhabited (PrN n):=⟨⟨(0,0),Nat.pos_of_ne_zero h.out⟩⟩
def Zqe (ns:List Zac)(p q:PrN ns.length):Int:=ZqX ns p.1 q.1
theorem Zl9(ns:List Zac)(x:Nat × Nat):Za9 ns x x=false:=ZhU _
theorem ZjK(ns:List Zac)(x y z:Nat × Nat)(h1:Za9 ns x y=true)(h2:Za9 ns y z=true):Za9 ns x z=true:=Zg4 _ _ _ h1 h2
theorem Zd5(ns:List Zac)(p q:PrN ns.length):ltOf (Zqe ns) p q=Za9 ns p.1 q.1:=by
 unfold ltOf Zqe ZqX Za9
 cases h:ZaX (ZaG ns p.1.1) (ZaG ns q.1.1) <;> simp
theorem Zrp(ns:List Zac):SWO (ltOf (Zqe ns)) where
 irrefl x:=by rw[Zd5];exact ZhU _
 trans x y z h1 h2:=by rw[Zd5]at *;exact Zg4 _ _ _ h1 h2
 ntrans x y z h1 h2:=by rw[Zd5]at *;exact Zma _ _ _ h1 h2
theorem ZqA(w:World):(isAgg 130).run Tryz.prog w= .ok true w:=by kernel_rfl
theorem ZmU(w:World):(Go.sizeOf 130).run Tryz.prog w= .ok 2 w:=by kernel_rfl
theorem ZiE{w w':World}(h:Ext w w'):∃q os,w'=grow (w.drewN q) os:=by
 refine⟨w'.drawn - w.drawn,w'.heap.extract w.heap.size w'.heap.size,?_⟩;have h1:=h.below;have hd:=h.drawn
 have hh:w'.heap=w.heap++w'.heap.extract w.heap.size w'.heap.size:=by
  apply Array.ext_getElem?
  intro k;rw[Array.getElem?_append]
  split
  ·rename_i hk;exact h1.block k hk
  ·rename_i hk
   rw[Array.getElem?_extract];have:=h1.size
   by_cases bW:k<w'.heap.size
   ·rw[if_pos (by omega)];congr 1;omega
   ·rw[if_neg (by omega),Array.getElem?_eq_none (by omega)]
 cases w'
 cases w
 simp only[grow,World.drewN]at *;have:=h1.os;have:=h1.tape;have:=h1.output;simp only at *
 subst_vars
 congr 1
 omega
section
variable {α:Type} [Inhabited α] (enc:α→List Value) (k:Nat) (w:World) (blk off m:Nat) (dk:Array α) (os:Array Obj)
theorem Zea{j:Nat}(hj:j<w.heap.size)(aJ:j≠blk):(sortWorldK enc k w blk off m dk os).heap[j]? =w.heap[j]?:=by
 unfold sortWorldK putRowK putRow;rw[heap_grow_old _ _ (by simpa [mapBlock,Sort.ahead] using hj)];simp only[mapBlock,Array.getElem?_modify,if_neg (Ne.symm aJ),Sort.ahead]
theorem ZqP{c:Array Value}{e:TypeId}{fr:Nat × Nat}(hb:w.heap[blk]? =some (.cells c e fr)):(sortWorldK enc k w blk off m dk os).heap[blk]? =some (.cells (putCells id off (flatK enc k dk) c) e fr):=by
 have aD:=(Zrv hb).1;unfold sortWorldK putRowK putRow;rw[heap_grow_old _ _ (by simpa [mapBlock,Sort.ahead] using aD)];simp only[mapBlock,Array.getElem?_modify,if_true,Sort.ahead,hb]
 rfl
theorem Zp4:w.heap.size≤(sortWorldK enc k w blk off m dk os).heap.size:=by
 unfold sortWorldK putRowK;simp[Sort.ahead]
theorem Zp3:(sortWorldK enc k w blk off m dk os).os=w.os∧(sortWorldK enc k w blk off m dk os).tape=w.tape∧(sortWorldK enc k w blk off m dk os).output=w.output:=⟨rfl,rfl,rfl⟩
end
theorem Zfw{n:Nat}[NeZero n](d:Array (PrN n))(j:Nat)(hj:j<d.size*2):(flatK ZeS 2 d)[j]? =(ZaO (d.toList.map (·.1)))[j]?:=by
 have e1:(flatK ZeS 2 d)[j]? =some ((ZeS d[j / 2]!)[j % 2]!):=by
  rw[Array.getElem?_eq_getElem (by simpa using hj)]
  congr 1
  rw[←get_flatK ZeS 2 d j hj,getElem!_pos]
 rw[e1];obtain⟨q,r,hr,rfl⟩:∃q r,r<2∧j=q*2+r:=⟨j / 2,j % 2,by omega,by omega⟩;have h1:q<d.size:=by omega
 have hl:q<(d.toList.map (·.1)).length:=by simpa using h1
 obtain⟨g1,g2⟩:=Za3 (d.toList.map (·.1)) q hl;rw[show (q*2+r) / 2=q from by omega,show (q*2+r) % 2=r from by omega,getElem!_pos d q h1];obtain rfl|rfl:r=0∨r=1:=by omega
 ·rw[Nat.add_zero,g1]
  simp[ZeS]
 ·rw[g2]
  simp[ZeS]
theorem ZiY{α β:Type}[Inhabited α](f:α→β)(lt:β→β→Bool)(lt':α→α→Bool)(aD:∀x y,lt' x y=lt (f x) (f y))(d d':Array α)(n:Nat)(ye:d.size=n)(hp:PermIn 0 n d d')(vB:SortedIn lt' 0 n d') :
  (d'.toList.map f).Perm (d.toList.map f)∧(d'.toList.map f).Pairwise (fun a b=>lt b a=false):=by
 subst ye;obtain⟨h1,_,h3⟩:=hp
 constructor
 ·have e1:d.extract 0 d.size=d:=by simp
  have e2:d'.extract 0 d.size=d':=by rw[←h1];simp
  rw[e1,e2]at h3;exact h3.map f
 ·rw[List.pairwise_map,List.pairwise_iff_getElem]
  intro i j hi hj iD;have pw:i<d'.size:=by simpa using hi
  have ke:j<d'.size:=by simpa using hj
  have:=vB i j (Nat.zero_le _) iD (by omega);rw[aD,getElem!_pos d' j ke,getElem!_pos d' i pw]at this;simpa using this
theorem Zk3{B:Zar}{ns:List Zac}{bx:Nat}{w:World}(h:Zik B ns bx w)(l:List (Nat × Nat))(blk off cap:Nat){c:Array Value}(hb:w.heap[blk]? =some (.cells c ZaN (0,0)))
  (hc:∀j u,(ZaO l)[j]? =some u→c[off+j]? =some u) (hn:ns.length≤1048576) (az:∀p∈l,p.1<ns.length) (eT:Zbz (Za9 ns) l=true) (aJ:l≠[]) (aX:l.length≤1048576)
  (rM:blk≠gTz∧blk≠bx∧blk≠B.sb∧blk≠B.nb) :
  Calls Tryz.prog 145 #[.slice (some ⟨blk,off,none⟩) l.length cap,.func (.func 146) #[] #[.pointer (some ⟨bx,0,none⟩)]] w fun e w' =>
   e= .returned (.tuple #[])∧((∀j,j<w.heap.size→j≠blk→w'.heap[j]? =w.heap[j]?)∧w.heap.size≤w'.heap.size∧(w'.os=w.os∧w'.tape=w.tape∧w'.output=w.output)∧ZcU w' blk off ZaN (ZaO (Zcb (Za9 ns) l))):=by
 have nR:0<ns.length:=by
  cases l with
  | nil=>exact absurd rfl aJ
  | cons p r=>have:=az p (ZrL ..);omega
 haveI:NeZero ns.length:=⟨by omega⟩
 obtain⟨d,hd⟩:∃d:Array (PrN ns.length),d.toList.map (·.1)=l:=⟨(l.attach.map fun p=>⟨p.1,az p.1 p.2⟩).toArray,by simp[List.map_map,Function.comp_def,List.attach_map_subtype_val]⟩;have ye:d.size=l.length:=by rw[←hd];simp
 have aD:=(Zrv hb).1;have hgz:=h.tz.lt';have dv:=Zrx w _ h.box;obtain⟨cpn,ko⟩:=h.nod;have cY:=Zrx w _ ko;have bU:=Zrx w _ (h.le 0 nR).1
 have hcmp:CmpLays Tryz.prog 146 #[.pointer (some ⟨bx,0,none⟩)] ZeS 2 (Zqe ns) blk off d.size w:=by
  intro m os dk _ x y
  have hL:Zik B ns bx (sortWorldK ZeS 2 w blk off m dk os):=h.same fun k hk=>by
   rcases hk with rfl|rfl|rfl|rfl
   ·exact Zea _ _ _ _ _ _ _ _ hgz (Ne.symm rM.1)
   ·exact Zea _ _ _ _ _ _ _ _ dv (Ne.symm rM.2.1)
   ·exact Zea _ _ _ _ _ _ _ _ cY (Ne.symm rM.2.2.1)
   ·exact Zea _ _ _ _ _ _ _ _ bU (Ne.symm rM.2.2.2)
  refine(Ziy hL x.1.1 x.1.2 y.1.1 y.1.2 x.2 y.2 hn).mono ?_;rintro e w' ⟨rfl,hx⟩;exact⟨rfl,ZiE hx⟩
 have hH:HoldsK ZeS 2 w blk off d:=by
  intro j hj;simp at hj;have e2:=Zfw d j hj;rw[hd]at e2
  have e3:(ZaO l)[j]? =some ((flatK ZeS 2 d)[j]!):=by
   rw[←e2,Array.getElem?_eq_getElem (by simpa using hj),getElem!_pos]
  have:=hc j _ e3
  constructor
  ·simp[World.cell?,hb,this]
  ·simp[World.frozen?,hb]
 have h0:=AnyQ.slices_SortFunc (α:=PrN ns.length) Tryz.sortPair 2 ZqA ZmU;have h1:=h0 ZeS (fun _=>rfl) (fun x v hv=>by simp[ZeS]at hv;rcases hv with rfl|rfl <;> rfl);have h2:=h1 (Zqe ns) (Zrp ns);have h3:=h2 146 #[.pointer (some ⟨bx,0,none⟩)] blk off cap d w;have h4:=h3 (enters_of Tryz.func146 (by kernel_rfl) rfl);have h5:=h4 hcmp hH aD (by omega);clear h0 h1 h2 h3 h4;rw[ye]at h5
 change Calls Tryz.prog 145 _ _ _ at h5
 refine h5.mono ?_;rintro e w' ⟨rfl,d',n,os,hp,vB,rfl⟩;refine⟨rfl,fun j hj aJ=>Zea _ _ _ _ _ _ _ _ hj aJ,Zp4 _ _ _ _ _ _ _ _,Zp3 _ _ _ _ _ _ _ _,?_⟩;have ac:d'.size=d.size:=hp.1;have k1:=ZiY (α:=PrN ns.length) (β:=Nat × Nat) (fun x=>x.1) (Za9 ns) (ltOf (Zqe ns)) (Zd5 ns) d d' l.length ye;obtain⟨bJ,hsr2⟩:=k1 hp vB;rw[hd]at bJ;have rY:=ZmX (Za9 ns) _ (Zit (Za9 ns) bJ.symm eT) hsr2;have pv:d'.toList.map (·.1)=Zcb (Za9 ns) l:=Zd8 (Za9 ns) (Zl9 ns) (ZjK ns) _ _ (bJ.trans (Za4 _ l).symm) rY (ZbO (Za9 ns) (ZjK ns) l eT);refine⟨_,_,ZqP _ _ _ _ _ _ _ _ hb,fun j u hj=>?_⟩;rw[←pv]at hj
 have db:j<d'.size*2:=by
  have:=(Zrw hj).1;rw[Zcs]at this;simp at this;omega
 rw[←Zfw d' j db]at hj
 have hoj:off+j<c.size:=by
  have py:j<(ZaO l).length:=by rw[Zcs,←ye,←ac];omega
  exact(Zrv (hc j _ (Zry py))).1
 simp only[putCells,Array.getElem?_mapIdx,Array.getElem?_eq_getElem hoj,Option.map_some];rw[if_pos ⟨by omega,by simp;omega⟩,show off+j - off=j from by omega];rw[Array.getElem?_eq_getElem (by simpa using db)]at hj;rw[getElem!_pos _ j (by simpa using db)];simpa using hj
end Go.Proofs.YtemnmcfmabamcaaGreatDoor
namespace Go.Proofs.YtemnmcfmabamcaaGreatDoor
open Go Go.RowKit Go.Shelf
theorem ZcU.off0{w:World}{b o:Nat}{l:List (Nat × Nat)}(h:ZcU w b o ZaN (ZaO l))(k:Nat)(hk:k<l.length) :
  w.cell? ⟨b,o+k*2,none⟩=some (.int .i64 (l[k].1:Nat))∧w.cell? ⟨b,o+k*2+1,none⟩=some (.int .i64 (l[k].2:Nat)) :=
 ⟨h.cell (Za3 l k hk).1,h.cell (Za3 l k hk).2⟩
theorem ZiK(ns:List Zac)(l:List (Nat × Nat))(k:Nat)(hk:k<l.length):Za8 ns (l.take (k+1))=Zau ns (Za8 ns (l.take k)) l[k]:=by
 unfold Za8;rw[List.take_succ_eq_append_getElem hk,List.foldl_append]
 rfl
theorem ZoT(w:World):(w.alloc (.cells #[.int .u64 0,.int .u64 0] 82)).cell? ⟨w.heap.size,0,none⟩=some (.int .u64 0)∧(w.alloc (.cells #[.int .u64 0,.int .u64 0] 82)).cell? ⟨w.heap.size,1,none⟩=some (.int .u64 0) ∧
  (w.alloc (.cells #[.int .u64 0,.int .u64 0] 82)).frozen? ⟨w.heap.size,0,none⟩=false∧(w.alloc (.cells #[.int .u64 0,.int .u64 0] 82)).frozen? ⟨w.heap.size,1,none⟩=false:=by
 have:=Zrz w (.cells #[.int .u64 0,.int .u64 0] 82);refine⟨?_,?_,?_,?_⟩ <;> simp only[World.cell?,World.frozen?,this] <;> rfl
theorem Zpy{w wu:World}{o:Obj}(hb:Ext (((w.alloc o).alloc (.cells #[.int .u64 0,.int .u64 0] 82)).drew) wu):wu.cell? ⟨w.heap.size+1,0,none⟩=some (.int .u64 0)∧wu.cell? ⟨w.heap.size+1,1,none⟩=some (.int .u64 0) ∧
  wu.frozen? ⟨w.heap.size+1,0,none⟩=false∧wu.frozen? ⟨w.heap.size+1,1,none⟩=false:=by
 have h1:=Zaq (w.alloc o) (.cells #[.int .u64 0,.int .u64 0] 82) (w.heap.size+1) (by simp);have h2:wu.heap[w.heap.size+1]? =some (.cells #[.int .u64 0,.int .u64 0] 82):=(hb.below.block _ (by simp[World.drew])).trans h1;refine⟨?_,?_,?_,?_⟩ <;> simp only[World.cell?,World.frozen?,h2] <;> rfl
theorem Zrb{w wu:World}{o:Obj}{x y:Int}(hb:Ext ((w.alloc o).drew) wu):Ext w (wu.alloc (.cells #[.int .u64 x,.int .u64 y] 82)) ∧
  (wu.alloc (.cells #[.int .u64 x,.int .u64 y] 82)).heap[wu.heap.size]? =some (.cells #[.int .u64 x,.int .u64 y] 82 (0,0)):=by
 have h0:Ext w wu:=(((Ext.refl w).alloc o).drew).trans hb;exact⟨h0.alloc _,Zrz wu _⟩
theorem Zrc{w wu:World}{o:Obj}{x y:Int}(hb:Ext (((w.alloc o).alloc (.cells #[.int .u64 0,.int .u64 0] 82)).drew) wu):Ext w ((wu.setCell ⟨w.heap.size+1,0,none⟩ (.int .u64 x)).setCell ⟨w.heap.size+1,1,none⟩ (.int .u64 y)) ∧
  ((wu.setCell ⟨w.heap.size+1,0,none⟩ (.int .u64 x)).setCell ⟨w.heap.size+1,1,none⟩ (.int .u64 y)).heap[w.heap.size+1]? =some (.cells #[.int .u64 x,.int .u64 y] 82 (0,0)):=by
 have h1:=Zaq (w.alloc o) (.cells #[.int .u64 0,.int .u64 0] 82) (w.heap.size+1) (by simp);have h2:wu.heap[w.heap.size+1]? =some (.cells #[.int .u64 0,.int .u64 0] 82):=(hb.below.block _ (by simp[World.drew])).trans h1;have h0:Ext w wu:=((((Ext.refl w).alloc o).alloc _).drew).trans hb;exact⟨(h0.setCell (by simp) _).setCell (by simp) _,Zbn h2 _ _⟩
theorem Zid(a b:Zax)(w:World):Calls Tryz.prog 117 #[.agg #[.int .u64 (lo a),.int .u64 (hi a)],.agg #[.int .u64 (lo b),.int .u64 (hi b)]] w fun e w' =>
  e= .returned (.agg #[.int .u64 (lo (a ||| b)),.int .u64 (hi (a ||| b))])∧Ext w w':=Zf0 a b w
theorem ZjL(a b:Zax)(w:World)(hT:ZaY w):Calls Tryz.prog 147 #[.agg #[.int .u64 (lo a),.int .u64 (hi a)],.agg #[.int .u64 (lo b),.int .u64 (hi b)]] w fun e w' =>
  e= .returned (.bool (ZaX a b))∧Ext w w':=ZjM a b w hT
theorem Zdl{B:Zar}{s s':St}{w:World}{l:List (Nat × Nat)}{pl:Int}{r blk off cap:Nat}{c:Array Value}(h:Rep B s w)(hb:w.heap[blk]? =some (.cells c ZaN (0,0)))
  (hc:∀j u,(ZaO l)[j]? =some u→c[off+j]? =some u) (et:blk∉B.eb) (hg:blk≠Zdm∧blk≠gTz) (aX:l.length≤1048576) (he:ZbB s pl l=some (r,s')) :
  Calls Tryz.prog 128 #[.pointer (some ⟨B.sb,0,none⟩),.int .i64 pl,.slice (some ⟨blk,off,none⟩) l.length cap] w (ZaF [blk] (.int .i64 r) B s' w):=by
 unfold ZbB at he
 split at he
 ·rename_i kT
  obtain⟨aJ,az,eT⟩:=kT;have nL:∀(fn:Fn) (first cap:Array Value) (w:World),(Instr.makeFunc fn first cap).run Tryz.prog w= .ok (.func fn first cap) w:=fun _ _ _ _=>rfl
  have aK:Ext w (w.alloc (.cells #[.pointer (some ⟨B.sb,0,none⟩)] 28)):=(Ext.refl w).alloc _;have uN:=Zrz w (.cells #[.pointer (some ⟨B.sb,0,none⟩)] 28);have my:=(Zrv hb).1;have aF:=(aK.below.block blk my).trans hb
  have mP:∀p∈l,p.1<s.nodes.length∧p.2<s.nodes.length:=fun p hp=>by
   have:=List.all_eq_true.1 az p hp;simpa using this
  have aQ:=h.below aK.below
  have bN:blk≠B.sb∧blk≠B.nb:=by
   obtain⟨nv,vs,aM,hn,_⟩:=h.store;obtain⟨c',gE⟩:=hn.nbk
   constructor
   ·intro e;rw[e,aM]at hb;simp[ZaD,ZaN]at hb
   ·intro e;rw[e,gE]at hb;simp[Zbd,ZaN]at hb
  have cW:=Zk3 (aQ.leRep (bx:=w.heap.size) (Zbp uN).1) l blk off cap aF hc h.small.1 (fun p hp=>(mP p hp).1) eT aJ aX ⟨hg.2,by omega,bN.1,bN.2⟩;replace az:=Zrr az;replace eT:=Zrr eT;replace nL:=nL;replace he:=Zrr he;replace mP:=Zrr mP
  go_enter Tryz.func128,Tryz.ntmps128
  go_wp2_with fail;refine cW.mono ?_;clear cW;rintro e w2 ⟨rfl,dG,iq,⟨ho,ht,hu⟩,aT⟩;have bA:Rep B s w2:=aQ.off aF et hg (fun k o hk hko=>dG k (Zrv hko).1 hk);have aS:=(dG w.heap.size (by simp) (by omega)).trans uN;obtain⟨l',eK⟩:∃l',l'=Zcb (Za9 s.nodes) l:=⟨_,rfl⟩;rw[←eK]at aT;have lC:l'.length=l.length:=by rw[eK];exact(Za4 _ l).length_eq
  have ag:∀p∈l',p.1<s.nodes.length∧p.2<s.nodes.length:=fun p hp=>mP.out p (by rw[eK]at hp;exact(Za4 _ l).mem_iff.1 hp)
  replace eK:=Zrr eK;replace ag:=Zrr ag;have ou:=Zrz w2 (.cells #[.int .i64 pl,.int .i64 0,.slice (some ⟨blk,off,none⟩) l.length cap,.int .u64 0,.int .u64 0] 101);have zR:Hid (∀k,k<w.heap.size→k≠blk→w2.heap[k]? =w.heap[k]?):=Zrr (fun k hk aJ=>(dG k (by simp;omega) aJ).trans (aK.below.block k hk));clear aF uN az eT dG aK;have iZ:w.heap.size<w2.heap.size:=by have:=iq;simp at this;omega
  go_wp2_with fail
  go_loopw [8,20] (fun f i wr=>∃k:Nat,k≤l.length∧i= .int .i64 k∧f= .bool (Za8 s.nodes (l'.take k)).1 ∧
    (wr.heap[w2.heap.size]? =some (.cells #[.int .i64 pl,.int .i64 0,.slice (some ⟨blk,off,none⟩) l.length cap,.int .u64 (lo (Za8 s.nodes (l'.take k)).2),.int .u64 (hi (Za8 s.nodes (l'.take k)).2)] 101 (0,0))∧Ext w2 wr))
   (fun _ i _=>l.length - (intOf i).toNat)
  case atStart =>
   refine⟨0,Nat.zero_le _,rfl,rfl,?_,(Ext.refl w2).alloc _⟩;rw[show lo (Za8 s.nodes (l'.take 0)).2=0 from rfl,show hi (Za8 s.nodes (l'.take 0)).2=0 from by simp[Za8,hi]];exact ou
  case round =>
   clear ou;obtain⟨k,hk,rfl,rfl,ou,lK⟩:=hrel;have pj:=bA.below lK.below;have jX:=(Zbp ((lK.below.block _ iZ).trans aS)).1
   by_cases aD:k<l.length
   ·have jo:k<l'.length:=by omega
    obtain⟨e0,e1⟩:=(aT.same (lK.below.block _ aT.lt)).off0 k jo;have de:=ag.out l'[k] (ZrM jo);have jQ:=Zrr (ZiK s.nodes l' k jo);generalize l'[k]=p at *;obtain⟨p1,p2⟩:=p;obtain⟨gG,gH⟩:=de;simp only at e0 e1 gG gH;generalize yH:Za8 s.nodes (l'.take k)=acc at *;obtain⟨fst,le0⟩:=acc;simp only at ou;replace yH:=Zrr yH;have gn:=pj.leRep jX;obtain⟨jF,ko⟩:=gn.nod;obtain⟨q1,q2⟩:=gn.le p1 gG;obtain⟨q3,q4⟩:=gn.le p2 gH;have rg:=Zrr gn.tz;clear gn;obtain⟨c0,c1,c2,c3,c4,cf⟩:=Zbt ou;have vE:=Zrx wr _ c0;have nQ:=Zrz wr (.cells #[.int .i64 p1,.int .i64 p2] 130);replace pj:=Zrr pj;replace ou:=Zrr ou;replace aT:=Zrr aT;replace aS:=Zrr aS
    by_cases hz:p2=0
    ·subst hz
     go_wp2_with fail;go_roundw
     case rel=>exact⟨k+1,by omega,by go_num,by rw[jQ.out];rfl,by rw[jQ.out];exact(Below.heap_alloc _ _ _ vE).trans ou.out,lK.alloc _⟩
     case measure=>simp[intOf];omega
    ·have aj:((p2:Int) ==0)=false:=by simp;omega
     have kq:(0:Int)≤p1:=by omega
     have hp1':(p1:Int)<s.nodes.length:=by omega
     have rP:(0:Int)≤p2:=by omega
     have hp2':(p2:Int)<s.nodes.length:=by omega
     obtain⟨y0,y1⟩:=Zah nQ;have z1:=((Ext.refl wr).alloc (.cells #[.int .i64 p1,.int .i64 p2] 130)).cell jX;have z2:=((Ext.refl wr).alloc (.cells #[.int .i64 p1,.int .i64 p2] 130)).cell ko;have z3:=((Ext.refl wr).alloc (.cells #[.int .i64 p1,.int .i64 p2] 130)).cell q1;have z4:=((Ext.refl wr).alloc (.cells #[.int .i64 p1,.int .i64 p2] 130)).cell q2;have z5:=((Ext.refl wr).alloc (.cells #[.int .i64 p1,.int .i64 p2] 130)).cell q3;have z6:=((Ext.refl wr).alloc (.cells #[.int .i64 p1,.int .i64 p2] 130)).cell q4;go_wp2_with fail;have ltc:=Zrx wr _ jX;have lts:=Zrx wr _ ko;have ltn:=Zrx wr _ q1;have ltc':w.heap.size<wr.heap.size:=ltc;have lts':B.sb<wr.heap.size:=lts;have ltn':B.nb<wr.heap.size:=ltn;have v1:¬ wr.heap.size+1=w.heap.size:=by omega
     have v2:¬ wr.heap.size+1=B.sb:=by omega
     have v3:¬ wr.heap.size+1=B.nb:=by omega
     have v4:¬ wr.heap.size+1=wr.heap.size:=by omega
     clear ltc lts ltn
     go_region_held3 (fun w'=>w'.cell? ⟨w.heap.size,0,none⟩=some (.pointer (some ⟨B.sb,0,none⟩))∧w'.cell? ⟨B.sb,2,none⟩=some (.slice (some ⟨B.nb,0,none⟩) s.nodes.length jF)∧w'.cell? ⟨B.nb,p1*5+3,none⟩=some (.int .u64 (lo (ZaG s.nodes p1)))∧w'.cell? ⟨B.nb,p1*5+4,none⟩=some (.int .u64 (hi (ZaG s.nodes p1)))∧w'.cell? ⟨B.nb,p2*5+3,none⟩=some (.int .u64 (lo (ZaG s.nodes p2)))∧w'.cell? ⟨B.nb,p2*5+4,none⟩=some (.int .u64 (hi (ZaG s.nodes p2)))∧w'.cell? ⟨wr.heap.size,0,none⟩=some (.int .i64 p1)∧w'.cell? ⟨wr.heap.size,1,none⟩=some (.int .i64 p2))
      (go_keep)
      (first|(go_at_call 117;refine(Zid _ _ (((wr.alloc (.cells #[.int .i64 p1,.int .i64 p2] 130)).alloc (.cells #[.int .u64 0,.int .u64 0] 82)).drew)).mono ?_;rintro e wu ⟨rfl,hb⟩;have k1:wu.cell? ⟨w.heap.size,0,none⟩=some (.pointer (some ⟨B.sb,0,none⟩)):=(by (refine hb.cell ?_;first|assumption|go_keep));have k2:wu.cell? ⟨B.sb,2,none⟩=some (.slice (some ⟨B.nb,0,none⟩) s.nodes.length jF):=(by (refine hb.cell ?_;first|assumption|go_keep));have k3:wu.cell? ⟨B.nb,p1*5+3,none⟩=some (.int .u64 (lo (ZaG s.nodes p1))):=(by (refine hb.cell ?_;first|assumption|go_keep));have k4:wu.cell? ⟨B.nb,p1*5+4,none⟩=some (.int .u64 (hi (ZaG s.nodes p1))):=(by (refine hb.cell ?_;first|assumption|go_keep));have k5:wu.cell? ⟨B.nb,p2*5+3,none⟩=some (.int .u64 (lo (ZaG s.nodes p2))):=(by (refine hb.cell ?_;first|assumption|go_keep));have k6:wu.cell? ⟨B.nb,p2*5+4,none⟩=some (.int .u64 (hi (ZaG s.nodes p2))):=(by (refine hb.cell ?_;first|assumption|go_keep));have k7:wu.cell? ⟨wr.heap.size,0,none⟩=some (.int .i64 p1):=(by (refine hb.cell ?_;first|assumption|go_keep));have k8:wu.cell? ⟨wr.heap.size,1,none⟩=some (.int .i64 p2):=(by (refine hb.cell ?_;first|assumption|go_keep));have n1:=World.new_ne wu _ k1;have n2:=World.new_ne wu _ k2;have n3:=World.new_ne wu _ k3;have n7:=World.new_ne wu _ k7;obtain⟨g0,g1,g2,g3⟩:=ZoT wu;obtain⟨k9,k10,k11,k12⟩:=Zpy hb;have uB:=Zrr (Zrc (x:=lo (ZaG s.nodes p1 ||| ZaG s.nodes p2)) (y:=hi (ZaG s.nodes p1 ||| ZaG s.nodes p2)) hb))|(go_at_call 117;refine(Zid _ _ _).mono ?_;rintro e wu ⟨rfl,hb⟩;have k1:wu.cell? ⟨w.heap.size,0,none⟩=some (.pointer (some ⟨B.sb,0,none⟩)):=(by (refine hb.cell ?_;first|assumption|go_keep));have k2:wu.cell? ⟨B.sb,2,none⟩=some (.slice (some ⟨B.nb,0,none⟩) s.nodes.length jF):=(by (refine hb.cell ?_;first|assumption|go_keep));have k3:wu.cell? ⟨B.nb,p1*5+3,none⟩=some (.int .u64 (lo (ZaG s.nodes p1))):=(by (refine hb.cell ?_;first|assumption|go_keep));have k4:wu.cell? ⟨B.nb,p1*5+4,none⟩=some (.int .u64 (hi (ZaG s.nodes p1))):=(by (refine hb.cell ?_;first|assumption|go_keep));have k5:wu.cell? ⟨B.nb,p2*5+3,none⟩=some (.int .u64 (lo (ZaG s.nodes p2))):=(by (refine hb.cell ?_;first|assumption|go_keep));have k6:wu.cell? ⟨B.nb,p2*5+4,none⟩=some (.int .u64 (hi (ZaG s.nodes p2))):=(by (refine hb.cell ?_;first|assumption|go_keep));have k7:wu.cell? ⟨wr.heap.size,0,none⟩=some (.int .i64 p1):=(by (refine hb.cell ?_;first|assumption|go_keep));have k8:wu.cell? ⟨wr.heap.size,1,none⟩=some (.int .i64 p2):=(by (refine hb.cell ?_;first|assumption|go_keep));have n1:=World.new_ne wu _ k1;have n2:=World.new_ne wu _ k2;have n3:=World.new_ne wu _ k3;have n7:=World.new_ne wu _ k7;obtain⟨g0,g1,g2,g3⟩:=ZoT wu;have uB:=Zrr (Zrb (x:=lo (ZaG s.nodes p1 ||| ZaG s.nodes p2)) (y:=hi (ZaG s.nodes p1 ||| ZaG s.nodes p2)) hb)))
     all_goals
      first
       | (generalize wu.alloc (.cells #[.int .u64 (lo (ZaG s.nodes p1 ||| ZaG s.nodes p2)),.int .u64 (hi (ZaG s.nodes p1 ||| ZaG s.nodes p2))] 82)=wX at uB ⊢
          generalize wu.heap.size=xb at uB ⊢)
       | (generalize (wu.setCell ⟨wr.heap.size+1,0,none⟩ (.int .u64 (lo (ZaG s.nodes p1 ||| ZaG s.nodes p2)))).setCell ⟨wr.heap.size+1,1,none⟩ (.int .u64 (hi (ZaG s.nodes p1 ||| ZaG s.nodes p2)))=wX at uB ⊢
          generalize wr.heap.size+1=xb at uB ⊢)
      clear k1 k2 k3 k4 k5 k6 k7 k8 n1 n2 n3 n7 g0 g1 g2 g3 y0 y1 z1 z2 z3 z4 z5 z6 v1 v2 v3 v4 hb
      try clear k9 k10 k11 k12
      obtain⟨yC,jc⟩:=uB.out;clear uB;obtain⟨x0,x1⟩:=Zah jc;replace jc:=Zrr jc;have m3:=yC.cell c3;have m4:=yC.cell c4;have wV:=Zrr ((yC.below.block _ vE).trans ou.out);have zz:=Zrr (rg.out.ext yC);have vN:=Zrr (lK.trans yC);have aM:Hid (Zau s.nodes (fst,le0) (p1,p2)=if (fst || ZaX (ZaG s.nodes p1 ||| ZaG s.nodes p2) le0)=true then (false,(ZaG s.nodes p1 ||| ZaG s.nodes p2)) else (fst,le0)):=Zrr (by simp[Zau,hz]);clear c0 c1 c2 c3 c4 cf q1 q2 q3 q4 e0 e1 nQ jX ko;generalize (ZaG s.nodes p1 ||| ZaG s.nodes p2)=xx at *
      cases fst
      ·cases hls:ZaX xx le0
       ·go_wp2_with (go_at_call 147;refine(ZjL _ _ _ zz.out).mono ?_;rintro e w5 ⟨rfl,ah⟩;have u0:=ah.cell x0;have u1:=ah.cell x1;have u3:=ah.cell m3;have u4:=ah.cell m4;have nt:=(ah.below.block _ (Zrv wV.out).1).trans wV.out;obtain⟨_,_,_,_,_,oG⟩:=Zbt nt;have xE:=oG 3;have xF:=oG 4;replace nt:=Zrr nt;clear oG;have vM:=Zrr (vN.out.trans ah))
        go_roundw
        case rel=>exact⟨k+1,by omega,by go_num,by rw[jQ.out,aM.out,hls];rfl,by rw[jQ.out,aM.out,hls];exact nt.out,vM.out⟩
        case measure=>simp[intOf];omega
       ·go_wp2_with (go_at_call 147;refine(ZjL _ _ _ zz.out).mono ?_;rintro e w5 ⟨rfl,ah⟩;have u0:=ah.cell x0;have u1:=ah.cell x1;have u3:=ah.cell m3;have u4:=ah.cell m4;have nt:=(ah.below.block _ (Zrv wV.out).1).trans wV.out;obtain⟨_,_,_,_,_,oG⟩:=Zbt nt;have xE:=oG 3;have xF:=oG 4;replace nt:=Zrr nt;clear oG;have vM:=Zrr (vN.out.trans ah))
        go_roundw
        case rel=>exact⟨k+1,by omega,by go_num,by rw[jQ.out,aM.out,hls];rfl,by rw[jQ.out,aM.out,hls];exact Zaj (Zaj nt.out 3 _) 4 _,(vM.out.setCell (by simp) _).setCell (by simp) _⟩
        case measure=>simp[intOf];omega
      ·obtain⟨_,_,_,_,_,oG⟩:=Zbt wV.out
       have xE:=oG 3;have xF:=oG 4;clear oG;go_wp2_with fail;go_roundw
       case rel=>exact⟨k+1,by omega,by go_num,by rw[jQ.out,aM.out];rfl,by rw[jQ.out,aM.out];exact Zaj (Zaj wV.out 3 _) 4 _,(vN.out.setCell (by simp) _).setCell (by simp) _⟩
       case measure=>simp[intOf];omega
   ·obtain rfl:k=l.length:=by omega
    have e1:l'.take l.length=l':=by rw[←lC];exact List.take_length
    rw[e1]at ou;obtain⟨c0,c1,c2,c3,c4,cf⟩:=Zbt ou
    have hS:Stp [blk] B w B wr:=Stp.of_but ⟨lK.below.os.trans ho,lK.below.tape.trans ht,lK.below.output.trans hu⟩ (by have:=lK.size;simp at iq;omega) (fun k hk hkb=>by
     rw[lK.below.block k (by omega),zR.out k hk (by simpa using hkb)])
    have hv:Zcp wr (.slice (some ⟨blk,off,none⟩) l.length cap) l':=⟨_,cap,by rw[lC],.inr ⟨blk,off,rfl,aT.same (lK.below.block _ aT.lt)⟩⟩;have oZ:=he.out;rw[←eK.out]at oZ;have hq:=Zip (n:={ pl:=pl,lit:=0,el:=l',le:=(Za8 s.nodes l').2 }) pj hv oZ;go_wp2_with fail;refine hq.mono ?_;rintro e w9 ⟨rfl,B',fZ,iA⟩;have fZ:=Zrr fZ;have iA:=Zrr iA;go_wp2_with fail;go_ret;exact⟨rfl,B',fZ.out,(hS.trans iA.out).weak (fun x hx=>.inl (by simpa [Value.ownBlock] using hx))⟩
 ·cases he
end Go.Proofs.YtemnmcfmabamcaaGreatDoor
