import Derived.Test.YtmnjakejhbpkoaaGreatDoorWShelf3
import Derived.Test.YtmnjakejhbpkoaaGreatDoorWBase
set_option linter.unusedSimpArgs false
set_option linter.unusedVariables false
namespace Go.Proofs.YtmnjakejhbpkoaaGreatDoor
open Go Go.RowKit Go.Shelf Go.Sort
abbrev PrN (n:Nat):={ p:Nat × Nat // p.1 < n }
def encPN {n:Nat} (p:PrN n):List Value:=[.int .i64 (p.1.1:Nat),.int .i64 (p.1.2:Nat)]
instance {n:Nat} [h:NeZero n]:Inhabited (PrN n):=⟨⟨(0,0),Nat.pos_of_ne_zero h.out⟩⟩
def cmpN (ns:List SNode) (p q:PrN ns.length):Int:=cmpF ns p.1 q.1
theorem lessP_irr (ns:List SNode) (x:Nat × Nat):lessP ns x x = false:=lessS_irr _
theorem lessP_tr (ns:List SNode) (x y z:Nat × Nat) (h1:lessP ns x y = true) (h2:lessP ns y z = true):lessP ns x z = true:=lessS_tr _ _ _ h1 h2
theorem ltOf_cmpN (ns:List SNode) (p q:PrN ns.length):ltOf (cmpN ns) p q = lessP ns p.1 q.1:=by
 unfold ltOf cmpN cmpF lessP
 cases h:lessS (leOf ns p.1.1) (leOf ns q.1.1) <;> simp
theorem swoN (ns:List SNode):SWO (ltOf (cmpN ns)) where
 irrefl x:=by rw [ltOf_cmpN];exact lessS_irr _
 trans x y z h1 h2:=by rw [ltOf_cmpN] at *;exact lessS_tr _ _ _ h1 h2
 ntrans x y z h1 h2:=by rw [ltOf_cmpN] at *;exact lessS_ntr _ _ _ h1 h2
theorem isAggP (w:World):(isAgg 165).run Tryz.prog w = .ok true w:=by kernel_rfl
theorem sizeOfP (w:World):(Go.sizeOf 165).run Tryz.prog w = .ok 2 w:=by kernel_rfl
theorem grow_of_ext {w w':World} (h:Ext w w'):∃ q os,w' = grow (w.drewN q) os:=by
 refine ⟨w'.drawn - w.drawn,w'.heap.extract w.heap.size w'.heap.size,?_⟩
 have h1:=h.below
 have hd:=h.drawn
 have hh:w'.heap = w.heap++w'.heap.extract w.heap.size w'.heap.size:=by
  apply Array.ext_getElem?
  intro k
  rw [Array.getElem?_append]
  split
  ·rename_i hk;exact h1.block k hk
  ·rename_i hk
   rw [Array.getElem?_extract]
   have:=h1.size
   by_cases hk2:k < w'.heap.size
   ·rw [if_pos (by omega)];congr 1;omega
   ·rw [if_neg (by omega),Array.getElem?_eq_none (by omega)]
 cases w'
 cases w
 simp only [grow,World.drewN] at *
 have:=h1.os;have:=h1.tape;have:=h1.output
 simp only at *
 subst_vars
 congr 1
 omega
section
variable {α:Type} [Inhabited α] (enc:α→List Value) (k:Nat) (w:World) (blk off m:Nat) (dk:Array α) (os:Array Obj)
theorem sw_other {j:Nat} (hj:j < w.heap.size) (hne:j≠blk):(sortWorldK enc k w blk off m dk os).heap[j]? = w.heap[j]?:=by
 unfold sortWorldK putRowK putRow
 rw [heap_grow_old _ _ (by simpa [mapBlock,Sort.ahead] using hj)]
 simp only [mapBlock,Array.getElem?_modify,if_neg (Ne.symm hne),Sort.ahead]
theorem sw_blk {c:Array Value} {e:TypeId} {fr:Nat × Nat} (hb:w.heap[blk]? = some (.cells c e fr)):(sortWorldK enc k w blk off m dk os).heap[blk]? = some (.cells (putCells id off (flatK enc k dk) c) e fr):=by
 have hlt:=(Array.getElem?_eq_some_iff.1 hb).1
 unfold sortWorldK putRowK putRow
 rw [heap_grow_old _ _ (by simpa [mapBlock,Sort.ahead] using hlt)]
 simp only [mapBlock,Array.getElem?_modify,if_true,Sort.ahead,hb]
 rfl
theorem sw_size:w.heap.size≤(sortWorldK enc k w blk off m dk os).heap.size:=by
 unfold sortWorldK putRowK
 simp [Sort.ahead]
theorem sw_rest:(sortWorldK enc k w blk off m dk os).os = w.os∧(sortWorldK enc k w blk off m dk os).tape = w.tape∧(sortWorldK enc k w blk off m dk os).output = w.output:=⟨rfl,rfl,rfl⟩
end
theorem flatK_flatP {n:Nat} [NeZero n] (d:Array (PrN n)) (j:Nat) (hj:j < d.size * 2):(flatK encPN 2 d)[j]? = (flatP (d.toList.map (·.1)))[j]?:=by
 have e1:(flatK encPN 2 d)[j]? = some ((encPN d[j / 2]!)[j % 2]!):=by
  rw [Array.getElem?_eq_getElem (by simpa using hj)]
  congr 1
  rw [←get_flatK encPN 2 d j hj,getElem!_pos]
 rw [e1]
 obtain ⟨q,r,hr,rfl⟩:∃ q r,r < 2∧j = q * 2+r:=⟨j / 2,j % 2,by omega,by omega⟩
 have h1:q < d.size:=by omega
 have hl:q < (d.toList.map (·.1)).length:=by simpa using h1
 obtain ⟨g1,g2⟩:=flatP_get (d.toList.map (·.1)) q hl
 rw [show (q * 2+r) / 2 = q from by omega,show (q * 2+r) % 2 = r from by omega,getElem!_pos d q h1]
 obtain rfl | rfl:r = 0∨r = 1:=by omega
 ·rw [Nat.add_zero,g1]
  simp [encPN]
 ·rw [g2]
  simp [encPN]
theorem perm_sorted {α β:Type} [Inhabited α] (f:α→β) (lt:β→β→Bool) (lt':α→α→Bool) (hlt:∀ x y,lt' x y = lt (f x) (f y)) (d d':Array α) (n:Nat) (hds:d.size = n) (hp:PermIn 0 n d d') (hsr:SortedIn lt' 0 n d') :
  (d'.toList.map f).Perm (d.toList.map f)∧(d'.toList.map f).Pairwise (fun a b=>lt b a = false):=by
 subst hds
 obtain ⟨h1,_,h3⟩:=hp
 constructor
 ·have e1:d.extract 0 d.size = d:=by simp
  have e2:d'.extract 0 d.size = d':=by rw [←h1];simp
  rw [e1,e2] at h3
  exact h3.map f
 ·rw [List.pairwise_map,List.pairwise_iff_getElem]
  intro i j hi hj hij
  have hi':i < d'.size:=by simpa using hi
  have hj':j < d'.size:=by simpa using hj
  have:=hsr i j (Nat.zero_le _) hij (by omega)
  rw [hlt,getElem!_pos d' j hj',getElem!_pos d' i hi'] at this
  simpa using this
set_option maxHeartbeats 400000 in
theorem sort_pairs {B:Blks} {ns:List SNode} {bx:Nat} {w:World} (h:LeRep B ns bx w) (l:List (Nat × Nat)) (blk off cap:Nat) {c:Array Value} (hb:w.heap[blk]? = some (.cells c tPair (0,0)))
  (hc:∀ j u,(flatP l)[j]? = some u→c[off+j]? = some u) (hn:ns.length≤1048576) (hall:∀ p∈l,p.1 < ns.length) (hap:aparts (lessP ns) l = true) (hne:l≠[]) (hlen:l.length≤1048576)
  (hoff:blk≠gTz∧blk≠bx∧blk≠B.sb∧blk≠B.nb) :
  Calls Tryz.prog 204 #[.slice (some ⟨blk,off,none⟩) l.length cap,.func (.func 205) #[] #[.pointer (some ⟨bx,0,none⟩)]] w fun e w' =>
   e = .returned (.tuple #[])∧((∀ j,j < w.heap.size→j≠blk→w'.heap[j]? = w.heap[j]?)∧w.heap.size≤w'.heap.size∧(w'.os = w.os∧w'.tape = w.tape∧w'.output = w.output)∧RowAt w' blk off tPair (flatP (sortF (lessP ns) l))):=by
 have hpos:0 < ns.length:=by
  cases l with
  | nil=>exact absurd rfl hne
  | cons p r=>have:=hall p (List.mem_cons_self ..);omega
 haveI:NeZero ns.length:=⟨by omega⟩
 obtain ⟨d,hd⟩:∃ d:Array (PrN ns.length),d.toList.map (·.1) = l:=⟨(l.attach.map fun p=>⟨p.1,hall p.1 p.2⟩).toArray,by simp [List.map_map,Function.comp_def,List.attach_map_subtype_val]⟩
 have hds:d.size = l.length:=by rw [←hd];simp
 have hlt:=(Array.getElem?_eq_some_iff.1 hb).1
 have hgz:=h.tz.lt'
 have hbl:=World.block_lt_of_cell? w _ h.box
 obtain ⟨cpn,hnod⟩:=h.nod
 have hsl:=World.block_lt_of_cell? w _ hnod
 have hnl:=World.block_lt_of_cell? w _ (h.le 0 hpos).1
 have hcmp:CmpLays Tryz.prog 205 #[.pointer (some ⟨bx,0,none⟩)] encPN 2 (cmpN ns) blk off d.size w:=by
  intro m os dk _ x y
  have hL:LeRep B ns bx (sortWorldK encPN 2 w blk off m dk os):=h.same fun k hk=>by
   rcases hk with rfl | rfl | rfl | rfl
   ·exact sw_other _ _ _ _ _ _ _ _ hgz (Ne.symm hoff.1)
   ·exact sw_other _ _ _ _ _ _ _ _ hbl (Ne.symm hoff.2.1)
   ·exact sw_other _ _ _ _ _ _ _ _ hsl (Ne.symm hoff.2.2.1)
   ·exact sw_other _ _ _ _ _ _ _ _ hnl (Ne.symm hoff.2.2.2)
  refine (decide1_any hL x.1.1 x.1.2 y.1.1 y.1.2 x.2 y.2 hn).mono ?_
  rintro e w' ⟨rfl,hx⟩
  exact ⟨rfl,grow_of_ext hx⟩
 have hH:HoldsK encPN 2 w blk off d:=by
  intro j hj
  simp at hj
  have e2:=flatK_flatP d j hj
  rw [hd] at e2
  have e3:(flatP l)[j]? = some ((flatK encPN 2 d)[j]!):=by
   rw [←e2,Array.getElem?_eq_getElem (by simpa using hj),getElem!_pos]
  have:=hc j _ e3
  constructor
  ·simp [World.cell?,hb,this]
  ·simp [World.frozen?,hb]
 have h0:=AnyQ.slices_SortFunc (α:=PrN ns.length) Tryz.sortPair 2 isAggP sizeOfP
 have h1:=h0 encPN (fun _=>rfl) (fun x v hv=>by simp [encPN] at hv;rcases hv with rfl | rfl <;> rfl)
 have h2:=h1 (cmpN ns) (swoN ns)
 have h3:=h2 205 #[.pointer (some ⟨bx,0,none⟩)] blk off cap d w
 have h4:=h3 (enters_of Tryz.func205 (by kernel_rfl) rfl)
 have h5:=h4 hcmp hH hlt (by omega)
 clear h0 h1 h2 h3 h4
 rw [hds] at h5
 change Calls Tryz.prog 204 _ _ _ at h5
 refine h5.mono ?_
 rintro e w' ⟨rfl,d',n,os,hp,hsr,rfl⟩
 refine ⟨rfl,fun j hj hne=>sw_other _ _ _ _ _ _ _ _ hj hne,sw_size _ _ _ _ _ _ _ _,sw_rest _ _ _ _ _ _ _ _,?_⟩
 have hsz:d'.size = d.size:=hp.1
 have k1:=perm_sorted (α:=PrN ns.length) (β:=Nat × Nat) (fun x=>x.1) (lessP ns) (ltOf (cmpN ns)) (ltOf_cmpN ns) d d' l.length hds
 obtain ⟨hperm,hsr2⟩:=k1 hp hsr
 rw [hd] at hperm
 have hsorted:=sorted_of (lessP ns) _ (aparts_perm (lessP ns) hperm.symm hap) hsr2
 have heq:d'.toList.map (·.1) = sortF (lessP ns) l:=sorted_unique (lessP ns) (lessP_irr ns) (lessP_tr ns) _ _ (hperm.trans (sortF_perm _ l).symm) hsorted (sortF_sorted (lessP ns) (lessP_tr ns) l hap)
 refine ⟨_,_,sw_blk _ _ _ _ _ _ _ _ hb,fun j u hj=>?_⟩
 rw [←heq] at hj
 have hjl:j < d'.size * 2:=by
  have:=(List.getElem?_eq_some_iff.1 hj).1
  rw [flatP_len] at this
  simp at this;omega
 rw [←flatK_flatP d' j hjl] at hj
 have hoj:off+j < c.size:=by
  have hj2:j < (flatP l).length:=by rw [flatP_len,←hds,←hsz];omega
  exact (Array.getElem?_eq_some_iff.1 (hc j _ (List.getElem?_eq_getElem hj2))).1
 simp only [putCells,Array.getElem?_mapIdx,Array.getElem?_eq_getElem hoj,Option.map_some]
 rw [if_pos ⟨by omega,by simp;omega⟩,show off+j - off = j from by omega]
 rw [Array.getElem?_eq_getElem (by simpa using hjl)] at hj
 rw [getElem!_pos _ j (by simpa using hjl)]
 simpa using hj
end Go.Proofs.YtmnjakejhbpkoaaGreatDoor
namespace Go.Proofs.YtmnjakejhbpkoaaGreatDoor
open Go Go.RowKit Go.Shelf
theorem RowAt.off0 {w:World} {b o:Nat} {l:List (Nat × Nat)} (h:RowAt w b o tPair (flatP l)) (k:Nat) (hk:k < l.length) :
  w.cell? ⟨b,o+k * 2,none⟩ = some (.int .i64 (l[k].1:Nat))∧w.cell? ⟨b,o+k * 2+1,none⟩ = some (.int .i64 (l[k].2:Nat)) :=
 ⟨h.cell (flatP_get l k hk).1,h.cell (flatP_get l k hk).2⟩
theorem leastF_take (ns:List SNode) (l:List (Nat × Nat)) (k:Nat) (hk:k < l.length):leastF ns (l.take (k+1)) = leastStep ns (leastF ns (l.take k)) l[k]:=by
 unfold leastF
 rw [List.take_succ_eq_append_getElem hk,List.foldl_append]
 rfl
theorem fresh2 (w:World):(w.alloc (.cells #[.int .u64 0,.int .u64 0] 41)).cell? ⟨w.heap.size,0,none⟩ = some (.int .u64 0)∧(w.alloc (.cells #[.int .u64 0,.int .u64 0] 41)).cell? ⟨w.heap.size,1,none⟩ = some (.int .u64 0) ∧
  (w.alloc (.cells #[.int .u64 0,.int .u64 0] 41)).frozen? ⟨w.heap.size,0,none⟩ = false∧(w.alloc (.cells #[.int .u64 0,.int .u64 0] 41)).frozen? ⟨w.heap.size,1,none⟩ = false:=by
 have:=heap_alloc_new w (.cells #[.int .u64 0,.int .u64 0] 41)
 refine ⟨?_,?_,?_,?_⟩ <;> simp only [World.cell?,World.frozen?,this] <;> rfl
theorem fresh2k {w wu:World} {o:Obj} (hb:Ext (((w.alloc o).alloc (.cells #[.int .u64 0,.int .u64 0] 41)).drew) wu):wu.cell? ⟨w.heap.size+1,0,none⟩ = some (.int .u64 0)∧wu.cell? ⟨w.heap.size+1,1,none⟩ = some (.int .u64 0) ∧
  wu.frozen? ⟨w.heap.size+1,0,none⟩ = false∧wu.frozen? ⟨w.heap.size+1,1,none⟩ = false:=by
 have h1:=heap_new_at (w.alloc o) (.cells #[.int .u64 0,.int .u64 0] 41) (w.heap.size+1) (by simp)
 have h2:wu.heap[w.heap.size+1]? = some (.cells #[.int .u64 0,.int .u64 0] 41):=(hb.below.block _ (by simp [World.drew])).trans h1
 refine ⟨?_,?_,?_,?_⟩ <;> simp only [World.cell?,World.frozen?,h2] <;> rfl
theorem lastA {w wu:World} {o:Obj} {x y:Int} (hb:Ext ((w.alloc o).drew) wu):Ext w (wu.alloc (.cells #[.int .u64 x,.int .u64 y] 41)) ∧
  (wu.alloc (.cells #[.int .u64 x,.int .u64 y] 41)).heap[wu.heap.size]? = some (.cells #[.int .u64 x,.int .u64 y] 41 (0,0)):=by
 have h0:Ext w wu:=(((Ext.refl w).alloc o).drew).trans hb
 exact ⟨h0.alloc _,heap_alloc_new wu _⟩
theorem lastB {w wu:World} {o:Obj} {x y:Int} (hb:Ext (((w.alloc o).alloc (.cells #[.int .u64 0,.int .u64 0] 41)).drew) wu):Ext w ((wu.setCell ⟨w.heap.size+1,0,none⟩ (.int .u64 x)).setCell ⟨w.heap.size+1,1,none⟩ (.int .u64 y)) ∧
  ((wu.setCell ⟨w.heap.size+1,0,none⟩ (.int .u64 x)).setCell ⟨w.heap.size+1,1,none⟩ (.int .u64 y)).heap[w.heap.size+1]? = some (.cells #[.int .u64 x,.int .u64 y] 41 (0,0)):=by
 have h1:=heap_new_at (w.alloc o) (.cells #[.int .u64 0,.int .u64 0] 41) (w.heap.size+1) (by simp)
 have h2:wu.heap[w.heap.size+1]? = some (.cells #[.int .u64 0,.int .u64 0] 41):=(hb.below.block _ (by simp [World.drew])).trans h1
 have h0:Ext w wu:=((((Ext.refl w).alloc o).alloc _).drew).trans hb
 exact ⟨(h0.setCell (by simp) _).setCell (by simp) _,heap_set2 h2 _ _⟩
theorem union_agg (a b:VSet) (w:World):Calls Tryz.prog 138 #[.agg #[.int .u64 (lo a),.int .u64 (hi a)],.agg #[.int .u64 (lo b),.int .u64 (hi b)]] w fun e w' =>
  e = .returned (.agg #[.int .u64 (lo (a ||| b)),.int .u64 (hi (a ||| b))])∧Ext w w':=union_any a b w
theorem less_agg (a b:VSet) (w:World) (hT:TzTab w):Calls Tryz.prog 206 #[.agg #[.int .u64 (lo a),.int .u64 (hi a)],.agg #[.int .u64 (lo b),.int .u64 (hi b)]] w fun e w' =>
  e = .returned (.bool (lessS a b))∧Ext w w':=less_any a b w hT
set_option maxRecDepth 100000 in
set_option maxHeartbeats 2000000 in
theorem decide_any {B:Blks} {s s':St} {w:World} {l:List (Nat × Nat)} {pl:Int} {r blk off cap:Nat} {c:Array Value} (h:Rep B s w) (hb:w.heap[blk]? = some (.cells c tPair (0,0)))
  (hc:∀ j u,(flatP l)[j]? = some u→c[off+j]? = some u) (hfr:blk∉B.eb) (hg:blk≠gPow∧blk≠gTz) (hlen:l.length≤1048576) (he:decideF s pl l = some (r,s')) :
  Calls Tryz.prog 171 #[.pointer (some ⟨B.sb,0,none⟩),.int .i64 pl,.slice (some ⟨blk,off,none⟩) l.length cap] w (RetStp [blk] (.int .i64 r) B s' w):=by
 unfold decideF at he
 split at he
 ·rename_i hcond
  obtain ⟨hne,hall,hap⟩:=hcond
  have hmf:∀ (fn:Fn) (first cap:Array Value) (w:World),(Instr.makeFunc fn first cap).run Tryz.prog w = .ok (.func fn first cap) w:=fun _ _ _ _=>rfl
  have hx1:Ext w (w.alloc (.cells #[.pointer (some ⟨B.sb,0,none⟩)] 32)):=(Ext.refl w).alloc _
  have hbx1:=heap_alloc_new w (.cells #[.pointer (some ⟨B.sb,0,none⟩)] 32)
  have hblt:=(Array.getElem?_eq_some_iff.1 hb).1
  have hb1:=(hx1.below.block blk hblt).trans hb
  have hall1:∀ p∈l,p.1 < s.nodes.length∧p.2 < s.nodes.length:=fun p hp=>by
   have:=List.all_eq_true.1 hall p hp;simpa using this
  have hR1:=h.below hx1.below
  have hns:blk≠B.sb∧blk≠B.nb:=by
   obtain ⟨nv,vs,hst,hn,_⟩:=h.store
   obtain ⟨c',hc'⟩:=hn.nbk
   constructor
   ·intro e;rw [e,hst] at hb;simp [tStore,tPair] at hb
   ·intro e;rw [e,hc'] at hb;simp [tNode,tPair] at hb
  have hsort:=sort_pairs (hR1.leRep (bx:=w.heap.size) (cell_of_box hbx1).1) l blk off cap hb1 hc h.small.1 (fun p hp=>(hall1 p hp).1) hap hne hlen ⟨hg.2,by omega,hns.1,hns.2⟩
  replace hall:=Lib.hid hall
  replace hap:=Lib.hid hap
  replace hmf:=hmf
  replace he:=Lib.hid he
  replace hall1:=Lib.hid hall1
  go_enter Tryz.func171,Tryz.ntmps171
  go_wp2_with fail
  refine hsort.mono ?_
  clear hsort
  rintro e w2 ⟨rfl,hold,hsz2,⟨ho,ht,hu⟩,hrow⟩
  have hR2:Rep B s w2:=hR1.off hb1 hfr hg (fun k o hk hko=>hold k (Array.getElem?_eq_some_iff.1 hko).1 hk)
  have hbx2:=(hold w.heap.size (by simp) (by omega)).trans hbx1
  obtain ⟨l',hl'⟩:∃ l',l' = sortF (lessP s.nodes) l:=⟨_,rfl⟩
  rw [←hl'] at hrow
  have hll:l'.length = l.length:=by rw [hl'];exact (sortF_perm _ l).length_eq
  have hmem:∀ p∈l',p.1 < s.nodes.length∧p.2 < s.nodes.length:=fun p hp=>hall1.out p (by rw [hl'] at hp;exact (sortF_perm _ l).mem_iff.1 hp)
  replace hl':=Lib.hid hl'
  replace hmem:=Lib.hid hmem
  have hnw:=heap_alloc_new w2 (.cells #[.int .i64 pl,.int .i64 0,.slice (some ⟨blk,off,none⟩) l.length cap,.int .u64 0,.int .u64 0] 158)
  have hold2:Hid (∀ k,k < w.heap.size→k≠blk→w2.heap[k]? = w.heap[k]?):=Lib.hid (fun k hk hne=>(hold k (by simp;omega) hne).trans (hx1.below.block k hk))
  clear hb1 hbx1 hall hap hold hx1
  have hbw2:w.heap.size < w2.heap.size:=by have:=hsz2;simp at this;omega
  go_wp2_with fail
  go_loopw [8,20] (fun f i wr=>∃ k:Nat,k≤l.length∧i = .int .i64 k∧f = .bool (leastF s.nodes (l'.take k)).1 ∧
    (wr.heap[w2.heap.size]? = some (.cells #[.int .i64 pl,.int .i64 0,.slice (some ⟨blk,off,none⟩) l.length cap,.int .u64 (lo (leastF s.nodes (l'.take k)).2),.int .u64 (hi (leastF s.nodes (l'.take k)).2)] 158 (0,0))∧Ext w2 wr))
   (fun _ i _=>l.length - (intOf i).toNat)
  case atStart =>
   refine ⟨0,Nat.zero_le _,rfl,rfl,?_,(Ext.refl w2).alloc _⟩
   rw [show lo (leastF s.nodes (l'.take 0)).2 = 0 from rfl,show hi (leastF s.nodes (l'.take 0)).2 = 0 from by simp [leastF,hi]]
   exact hnw
  case round =>
   clear hnw
   obtain ⟨k,hk,rfl,rfl,hnw,hxr⟩:=hrel
   have hRr:=hR2.below hxr.below
   have hcb:=(cell_of_box ((hxr.below.block _ hbw2).trans hbx2)).1
   by_cases hlt:k < l.length
   ·have hlt':k < l'.length:=by omega
    obtain ⟨e0,e1⟩:=(hrow.same (hxr.below.block _ hrow.lt)).off0 k hlt'
    have hpm:=hmem.out l'[k] (List.getElem_mem hlt')
    have htk:=Lib.hid (leastF_take s.nodes l' k hlt')
    generalize l'[k] = p at *
    obtain ⟨p1,p2⟩:=p
    obtain ⟨hp1,hp2⟩:=hpm
    simp only at e0 e1 hp1 hp2
    generalize hacc:leastF s.nodes (l'.take k) = acc at *
    obtain ⟨fst,le0⟩:=acc
    simp only at hnw
    replace hacc:=Lib.hid hacc
    have hlr:=hRr.leRep hcb
    obtain ⟨cap2,hnod⟩:=hlr.nod
    obtain ⟨q1,q2⟩:=hlr.le p1 hp1
    obtain ⟨q3,q4⟩:=hlr.le p2 hp2
    have htz:=Lib.hid hlr.tz
    clear hlr
    obtain ⟨c0,c1,c2,c3,c4,cf⟩:=cells5 hnw
    have hsw:=World.block_lt_of_cell? wr _ c0
    have hpn:=heap_alloc_new wr (.cells #[.int .i64 p1,.int .i64 p2] 165)
    replace hRr:=Lib.hid hRr
    replace hnw:=Lib.hid hnw
    replace hrow:=Lib.hid hrow
    replace hbx2:=Lib.hid hbx2
    by_cases hz:p2 = 0
    ·subst hz
     go_wp2_with fail
     go_roundw
     case rel=>exact ⟨k+1,by omega,by go_num,by rw [htk.out];rfl,by rw [htk.out];exact (Below.heap_alloc _ _ _ hsw).trans hnw.out,hxr.alloc _⟩
     case measure=>simp [intOf];omega
    ·have hz1:((p2:Int) == 0) = false:=by simp;omega
     have hp0:(0:Int)≤p1:=by omega
     have hp1':(p1:Int) < s.nodes.length:=by omega
     have hp20:(0:Int)≤p2:=by omega
     have hp2':(p2:Int) < s.nodes.length:=by omega
     obtain ⟨y0,y1⟩:=pbox_cells hpn
     have z1:=((Ext.refl wr).alloc (.cells #[.int .i64 p1,.int .i64 p2] 165)).cell hcb
     have z2:=((Ext.refl wr).alloc (.cells #[.int .i64 p1,.int .i64 p2] 165)).cell hnod
     have z3:=((Ext.refl wr).alloc (.cells #[.int .i64 p1,.int .i64 p2] 165)).cell q1
     have z4:=((Ext.refl wr).alloc (.cells #[.int .i64 p1,.int .i64 p2] 165)).cell q2
     have z5:=((Ext.refl wr).alloc (.cells #[.int .i64 p1,.int .i64 p2] 165)).cell q3
     have z6:=((Ext.refl wr).alloc (.cells #[.int .i64 p1,.int .i64 p2] 165)).cell q4
     go_wp2_with fail
     have ltc:=World.block_lt_of_cell? wr _ hcb
     have lts:=World.block_lt_of_cell? wr _ hnod
     have ltn:=World.block_lt_of_cell? wr _ q1
     have ltc':w.heap.size < wr.heap.size:=ltc
     have lts':B.sb < wr.heap.size:=lts
     have ltn':B.nb < wr.heap.size:=ltn
     have v1:¬ wr.heap.size+1 = w.heap.size:=by omega
     have v2:¬ wr.heap.size+1 = B.sb:=by omega
     have v3:¬ wr.heap.size+1 = B.nb:=by omega
     have v4:¬ wr.heap.size+1 = wr.heap.size:=by omega
     clear ltc lts ltn
     go_region_held3 (fun w'=>w'.cell? ⟨w.heap.size,0,none⟩ = some (.pointer (some ⟨B.sb,0,none⟩))∧w'.cell? ⟨B.sb,2,none⟩ = some (.slice (some ⟨B.nb,0,none⟩) s.nodes.length cap2)∧w'.cell? ⟨B.nb,p1 * 5+3,none⟩ = some (.int .u64 (lo (leOf s.nodes p1)))∧w'.cell? ⟨B.nb,p1 * 5+4,none⟩ = some (.int .u64 (hi (leOf s.nodes p1)))∧w'.cell? ⟨B.nb,p2 * 5+3,none⟩ = some (.int .u64 (lo (leOf s.nodes p2)))∧w'.cell? ⟨B.nb,p2 * 5+4,none⟩ = some (.int .u64 (hi (leOf s.nodes p2)))∧w'.cell? ⟨wr.heap.size,0,none⟩ = some (.int .i64 p1)∧w'.cell? ⟨wr.heap.size,1,none⟩ = some (.int .i64 p2))
      (go_keep)
      (first | (go_at_call 138;refine (union_agg _ _ (((wr.alloc (.cells #[.int .i64 p1,.int .i64 p2] 165)).alloc (.cells #[.int .u64 0,.int .u64 0] 41)).drew)).mono ?_;rintro e wu ⟨rfl,hb⟩;have k1:wu.cell? ⟨w.heap.size,0,none⟩ = some (.pointer (some ⟨B.sb,0,none⟩)):=(by (refine hb.cell ?_;first | assumption | go_keep));have k2:wu.cell? ⟨B.sb,2,none⟩ = some (.slice (some ⟨B.nb,0,none⟩) s.nodes.length cap2):=(by (refine hb.cell ?_;first | assumption | go_keep));have k3:wu.cell? ⟨B.nb,p1 * 5+3,none⟩ = some (.int .u64 (lo (leOf s.nodes p1))):=(by (refine hb.cell ?_;first | assumption | go_keep));have k4:wu.cell? ⟨B.nb,p1 * 5+4,none⟩ = some (.int .u64 (hi (leOf s.nodes p1))):=(by (refine hb.cell ?_;first | assumption | go_keep));have k5:wu.cell? ⟨B.nb,p2 * 5+3,none⟩ = some (.int .u64 (lo (leOf s.nodes p2))):=(by (refine hb.cell ?_;first | assumption | go_keep));have k6:wu.cell? ⟨B.nb,p2 * 5+4,none⟩ = some (.int .u64 (hi (leOf s.nodes p2))):=(by (refine hb.cell ?_;first | assumption | go_keep));have k7:wu.cell? ⟨wr.heap.size,0,none⟩ = some (.int .i64 p1):=(by (refine hb.cell ?_;first | assumption | go_keep));have k8:wu.cell? ⟨wr.heap.size,1,none⟩ = some (.int .i64 p2):=(by (refine hb.cell ?_;first | assumption | go_keep));have n1:=World.new_ne wu _ k1;have n2:=World.new_ne wu _ k2;have n3:=World.new_ne wu _ k3;have n7:=World.new_ne wu _ k7;obtain ⟨g0,g1,g2,g3⟩:=fresh2 wu;obtain ⟨k9,k10,k11,k12⟩:=fresh2k hb;have hXx:=Lib.hid (lastB (x:=lo (leOf s.nodes p1 ||| leOf s.nodes p2)) (y:=hi (leOf s.nodes p1 ||| leOf s.nodes p2)) hb)) | (go_at_call 138;refine (union_agg _ _ _).mono ?_;rintro e wu ⟨rfl,hb⟩;have k1:wu.cell? ⟨w.heap.size,0,none⟩ = some (.pointer (some ⟨B.sb,0,none⟩)):=(by (refine hb.cell ?_;first | assumption | go_keep));have k2:wu.cell? ⟨B.sb,2,none⟩ = some (.slice (some ⟨B.nb,0,none⟩) s.nodes.length cap2):=(by (refine hb.cell ?_;first | assumption | go_keep));have k3:wu.cell? ⟨B.nb,p1 * 5+3,none⟩ = some (.int .u64 (lo (leOf s.nodes p1))):=(by (refine hb.cell ?_;first | assumption | go_keep));have k4:wu.cell? ⟨B.nb,p1 * 5+4,none⟩ = some (.int .u64 (hi (leOf s.nodes p1))):=(by (refine hb.cell ?_;first | assumption | go_keep));have k5:wu.cell? ⟨B.nb,p2 * 5+3,none⟩ = some (.int .u64 (lo (leOf s.nodes p2))):=(by (refine hb.cell ?_;first | assumption | go_keep));have k6:wu.cell? ⟨B.nb,p2 * 5+4,none⟩ = some (.int .u64 (hi (leOf s.nodes p2))):=(by (refine hb.cell ?_;first | assumption | go_keep));have k7:wu.cell? ⟨wr.heap.size,0,none⟩ = some (.int .i64 p1):=(by (refine hb.cell ?_;first | assumption | go_keep));have k8:wu.cell? ⟨wr.heap.size,1,none⟩ = some (.int .i64 p2):=(by (refine hb.cell ?_;first | assumption | go_keep));have n1:=World.new_ne wu _ k1;have n2:=World.new_ne wu _ k2;have n3:=World.new_ne wu _ k3;have n7:=World.new_ne wu _ k7;obtain ⟨g0,g1,g2,g3⟩:=fresh2 wu;have hXx:=Lib.hid (lastA (x:=lo (leOf s.nodes p1 ||| leOf s.nodes p2)) (y:=hi (leOf s.nodes p1 ||| leOf s.nodes p2)) hb)))
     all_goals
      first
       | (generalize wu.alloc (.cells #[.int .u64 (lo (leOf s.nodes p1 ||| leOf s.nodes p2)),.int .u64 (hi (leOf s.nodes p1 ||| leOf s.nodes p2))] 41) = wX at hXx ⊢
          generalize wu.heap.size = xb at hXx ⊢)
       | (generalize (wu.setCell ⟨wr.heap.size+1,0,none⟩ (.int .u64 (lo (leOf s.nodes p1 ||| leOf s.nodes p2)))).setCell ⟨wr.heap.size+1,1,none⟩ (.int .u64 (hi (leOf s.nodes p1 ||| leOf s.nodes p2))) = wX at hXx ⊢
          generalize wr.heap.size+1 = xb at hXx ⊢)
      clear k1 k2 k3 k4 k5 k6 k7 k8 n1 n2 n3 n7 g0 g1 g2 g3 y0 y1 z1 z2 z3 z4 z5 z6 v1 v2 v3 v4 hb
      try clear k9 k10 k11 k12
      obtain ⟨hX1,hX2⟩:=hXx.out
      clear hXx
      obtain ⟨x0,x1⟩:=pbox_cells hX2
      replace hX2:=Lib.hid hX2
      have m3:=hX1.cell c3
      have m4:=hX1.cell c4
      have hnX:=Lib.hid ((hX1.below.block _ hsw).trans hnw.out)
      have htzX:=Lib.hid (htz.out.ext hX1)
      have hxrX:=Lib.hid (hxr.trans hX1)
      have hst:Hid (leastStep s.nodes (fst,le0) (p1,p2) = if (fst || lessS (leOf s.nodes p1 ||| leOf s.nodes p2) le0) = true then (false,(leOf s.nodes p1 ||| leOf s.nodes p2)) else (fst,le0)):=Lib.hid (by simp [leastStep,hz])
      clear c0 c1 c2 c3 c4 cf q1 q2 q3 q4 e0 e1 hpn hcb hnod
      generalize (leOf s.nodes p1 ||| leOf s.nodes p2) = xx at *
      cases fst
      ·cases hls:lessS xx le0
       ·go_wp2_with (go_at_call 206;refine (less_agg _ _ _ htzX.out).mono ?_;rintro e w5 ⟨rfl,hb5⟩;have u0:=hb5.cell x0;have u1:=hb5.cell x1;have u3:=hb5.cell m3;have u4:=hb5.cell m4;have hh5:=(hb5.below.block _ (Array.getElem?_eq_some_iff.1 hnX.out).1).trans hnX.out;obtain ⟨_,_,_,_,_,cf5⟩:=cells5 hh5;have cf53:=cf5 3;have cf54:=cf5 4;replace hh5:=Lib.hid hh5;clear cf5;have hxr5:=Lib.hid (hxrX.out.trans hb5))
        go_roundw
        case rel=>exact ⟨k+1,by omega,by go_num,by rw [htk.out,hst.out,hls];rfl,by rw [htk.out,hst.out,hls];exact hh5.out,hxr5.out⟩
        case measure=>simp [intOf];omega
       ·go_wp2_with (go_at_call 206;refine (less_agg _ _ _ htzX.out).mono ?_;rintro e w5 ⟨rfl,hb5⟩;have u0:=hb5.cell x0;have u1:=hb5.cell x1;have u3:=hb5.cell m3;have u4:=hb5.cell m4;have hh5:=(hb5.below.block _ (Array.getElem?_eq_some_iff.1 hnX.out).1).trans hnX.out;obtain ⟨_,_,_,_,_,cf5⟩:=cells5 hh5;have cf53:=cf5 3;have cf54:=cf5 4;replace hh5:=Lib.hid hh5;clear cf5;have hxr5:=Lib.hid (hxrX.out.trans hb5))
        go_roundw
        case rel=>exact ⟨k+1,by omega,by go_num,by rw [htk.out,hst.out,hls];rfl,by rw [htk.out,hst.out,hls];exact heap_set (heap_set hh5.out 3 _) 4 _,(hxr5.out.setCell (by simp) _).setCell (by simp) _⟩
        case measure=>simp [intOf];omega
      ·obtain ⟨_,_,_,_,_,cf5⟩:=cells5 hnX.out
       have cf53:=cf5 3
       have cf54:=cf5 4
       clear cf5
       go_wp2_with fail
       go_roundw
       case rel=>exact ⟨k+1,by omega,by go_num,by rw [htk.out,hst.out];rfl,by rw [htk.out,hst.out];exact heap_set (heap_set hnX.out 3 _) 4 _,(hxrX.out.setCell (by simp) _).setCell (by simp) _⟩
       case measure=>simp [intOf];omega
   ·obtain rfl:k = l.length:=by omega
    have e1:l'.take l.length = l':=by rw [←hll];exact List.take_length
    rw [e1] at hnw
    obtain ⟨c0,c1,c2,c3,c4,cf⟩:=cells5 hnw
    have hS:Stp [blk] B w B wr:=Stp.of_but ⟨hxr.below.os.trans ho,hxr.below.tape.trans ht,hxr.below.output.trans hu⟩ (by have:=hxr.size;simp at hsz2;omega) (fun k hk hkb=>by
     rw [hxr.below.block k (by omega),hold2.out k hk (by simpa using hkb)])
    have hv:ElAt wr (.slice (some ⟨blk,off,none⟩) l.length cap) l':=⟨_,cap,by rw [hll],.inr ⟨blk,off,rfl,hrow.same (hxr.below.block _ hrow.lt)⟩⟩
    have he':=he.out
    rw [←hl'.out] at he'
    have hq:=add_any (n:={ pl:=pl,lit:=0,el:=l',le:=(leastF s.nodes l').2 }) hRr hv he'
    go_wp2_with fail
    refine hq.mono ?_
    rintro e w9 ⟨rfl,B',hR9,hS9⟩
    have hR9:=Lib.hid hR9
    have hS9:=Lib.hid hS9
    go_wp2_with fail
    go_ret
    exact ⟨rfl,B',hR9.out,(hS.trans hS9.out).weak (fun x hx=>.inl (by simpa [Value.ownBlock] using hx))⟩
 ·cases he
end Go.Proofs.YtmnjakejhbpkoaaGreatDoor
