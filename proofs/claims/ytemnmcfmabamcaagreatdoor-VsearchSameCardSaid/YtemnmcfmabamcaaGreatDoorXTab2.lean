import Derived.Test.YtemnmcfmabamcaaGreatDoorXText
import Derived.Test.YtemnmcfmabamcaaGreatDoorXRefChk
import Derived.Test.YtemnmcfmabamcaaGreatDoorXRef3
import Derived.Test.YtemnmcfmabamcaaGreatDoorXLaw3
section
set_option linter.unusedSimpArgs false
set_option linter.unusedVariables false
namespace Go.Proofs.YtemnmcfmabamcaaGreatDoor
open Go Go.RowKit Go.Shelf
def t3:List VN:=[⟨-1,-1,1⟩,⟨-1,-1,2⟩,⟨0,1,0⟩]
end Go.Proofs.YtemnmcfmabamcaaGreatDoor
namespace Go.Proofs.YtemnmcfmabamcaaGreatDoor
open Go Go.RowKit Go.Shelf
theorem Stp.behind {B B':Blks} {w w1 w2:World} {n:Nat} (hb:Below n w w1) (hm:∀ k∈B.mut,n≤k) (hn:n≤w1.heap.size) (hS:Stp [] B w1 B' w2):Below n w w2∧(∀ k∈B'.mut,n≤k)∧n≤w2.heap.size :=
 ⟨⟨hS.fr.os.trans hb.os,hS.fr.tape.trans hb.tape,hS.fr.output.trans hb.output,Nat.le_trans hb.size hS.fr.size,fun k hk=>(hS.fr.block k (by omega) (fun hc=>by
    rcases List.mem_append.1 hc with hc | hc
    ·have:=hm k hc;omega
    ·simp at hc)).trans (hb.block k hk)⟩,
   fun k hk=>(hS.new k hk).elim (hm k) (fun h=>by omega),Nat.le_trans hn hS.fr.size⟩
end Go.Proofs.YtemnmcfmabamcaaGreatDoor
end
section
set_option linter.unusedSimpArgs false
set_option linter.unusedVariables false
namespace Go.Proofs.YtemnmcfmabamcaaGreatDoor
open Go Go.RowKit Go.Shelf
set_option maxRecDepth 100000 in
set_option maxHeartbeats 1000000 in
theorem at_any {B:Blks} {s:St} {w:World} {a:Nat} {n:SNode} (h:Rep B s w) (ht:s.tree≠[]) (hn:s.nodes[a]? = some n) :
  Calls Tryz.prog 41 #[.pointer (some ⟨B.sb,0,none⟩),.int .i64 a] w fun e w'=>e = .returned (.tuple #[.int .i64 n.pl,.int .i64 0])∧Below w.heap.size w w':=by
 have ha:a < s.nodes.length:=(List.getElem?_eq_some_iff.1 hn).1
 have hch:chkF s.nodes.length [(a:Int)] = 0:=by simp [chkF,ha]
 have hns:=h.small.1
 replace hch:=Lib.hid hch
 have hx1:=(Ext.refl w).alloc (.cells #[.int .i64 a] 3)
 have hz1:=heap_alloc_new w (.cells #[.int .i64 a] 3)
 go_enter Tryz.func41,Tryz.ntmps41
 go_wp2_with fail
 generalize w.alloc (.cells #[.int .i64 a] 3) = w1 at *
 have hR1:=h.below hx1.below
 have hq:=sck_any hR1 ht (slI_one hz1) (by simp)
 rw [hch.out] at hq
 clear hz1
 obtain ⟨cap,_,_,cn,_⟩:=hR1.cells
 obtain ⟨v,_,_,n0,_⟩:=hR1.node hn
 replace hR1:=Lib.hid hR1
 clear h
 refine hq.mono ?_
 rintro e w2 ⟨rfl,rfl⟩
 have d0:decide ((a:Int) < s.nodes.length) = true:=decide_eq_true (by omega)
 have d1:decide (0≤(a:Int)) = true:=decide_eq_true (by omega)
 clear hq
 go_wp2_with fail
 go_ret2
 exact ⟨rfl,hx1.below⟩
theorem TreeAt.below {w w':World} {b o:Nat} {t:List VN} (h:TreeAt w b o t) (hb:Below w.heap.size w w'):TreeAt w' b o t :=
 fun j u hj=>(hb.cell (World.block_lt_of_cell? w _ (h j u hj))).trans (h j u hj)
end Go.Proofs.YtemnmcfmabamcaaGreatDoor
end
section
set_option linter.unusedSimpArgs false
set_option linter.unusedVariables false
namespace Go.Proofs.YtemnmcfmabamcaaGreatDoor
open Go Go.RowKit Go.Shelf
theorem leaf_at {t:List VN} (hc:checkF t = 0) {u:Nat} {y:VN} (hu:t[u]? = some y) (hl:leafB y = true) {v:Nat} (hv:y.var = v):leafAt t v = some u:=by
 unfold leafAt
 have hul:=(List.getElem?_eq_some_iff.1 hu).1
 have hy:t[u] = y:=(List.getElem?_eq_some_iff.1 hu).2
 have hyl:y.left < 0:=by simp only [leafB,Bool.and_eq_true,decide_eq_true_eq] at hl;omega
 rw [List.findIdx?_eq_some_iff_getElem]
 refine ⟨hul,?_,fun j hj=>?_⟩
 ·rw [hy];simp [hyl,hv]
 ·have hjl:j < t.length:=by omega
  have hjs:t[j]? = some t[j]:=List.getElem?_eq_getElem hjl
  intro hh
  simp only [Bool.and_eq_true,decide_eq_true_eq] at hh
  cases hlj:leafB t[j]
  ·obtain ⟨l,r,e1,_⟩:=L.inner_ok hc hjs hlj
   omega
  ·have:=L.leaf_var hc hjs hu hlj hl (by rw [hh.2,hv])
   omega
structure Val (s:St) (r:Nat) (φ:L.Asg→Bool):Prop where
 lt:r < s.nodes.length
 sem:∀ x,L.sem s.nodes r x = φ x
theorem Val.step {s s':St} {r:Nat} {φ:L.Asg→Bool} (h:Val s r φ) (hi:L.Inv s) (hS:L.Step s s'):Val s' r φ :=
 ⟨Nat.lt_of_lt_of_le h.lt hS.len,fun x=>by rw [hS.sem hi h.lt];exact h.sem x⟩
theorem Val.eq {s:St} {a b:Nat} {φ ψ:L.Asg→Bool} (hi:L.Inv s) (ha:Val s a φ) (hb:Val s b ψ) (h:∀ x,φ x = ψ x):a = b :=
 hi.canon ha.lt hb.lt (funext fun x=>by rw [ha.sem,hb.sem,h])
theorem Val.congr {s:St} {a:Nat} {φ ψ:L.Asg→Bool} (ha:Val s a φ) (h:∀ x,φ x = ψ x):Val s a ψ:=⟨ha.lt,fun x=>by rw [ha.sem,h]⟩
theorem dep_root {s:St} (h:L.Inv s) {i:Nat} (hi:i < s.nodes.length):L.Dep (L.Bel s.tree (s.tree.length - 1)) (L.sem s.nodes i):=by
 rcases h.kind hi with rfl | rfl | ⟨h2,n,hn,_⟩
 ·intro x y _;rw [h.sem0,h.sem0]
 ·intro x y _;rw [h.sem1,h.sem1]
 ·obtain ⟨P,_,hP,hd⟩:=h.place h2 hn
  exact hd.mono fun v hv=>hv.up (L.Und.root h.tree s.tree.length P hP (by omega))
structure SS (t:List VN) (B0:Blks) (w0:World) (k:Nat) (s:St) (w:World):Prop where
 held:∃ B,Rep B s w∧Stp [] B0 w0 B w
 room:L.Room s k
 tree:s.tree = t
theorem SS.inv {t:List VN} {B0:Blks} {w0 w:World} {k:Nat} {s:St} (h:SS t B0 w0 k s w):L.Inv s:=h.room.inv
theorem SS.chk {t:List VN} {B0:Blks} {w0 w:World} {k:Nat} {s:St} (h:SS t B0 w0 k s w):checkF t = 0:=by have:=h.inv.tree;rw [h.tree] at this;exact this
theorem SS.few {t:List VN} {B0:Blks} {w0 w:World} {k:Nat} {s:St} (h:SS t B0 w0 k s w):t.length≤11:=by have:=h.room.few;rw [h.tree] at this;exact this
theorem SS.pos {t:List VN} {B0:Blks} {w0 w:World} {k:Nat} {s:St} (h:SS t B0 w0 k s w):0 < t.length:=(check_ok h.chk).1
theorem SS.ne {t:List VN} {B0:Blks} {w0 w:World} {k:Nat} {s:St} (h:SS t B0 w0 k s w):s.tree≠[]:=by rw [h.tree];intro e;have:=h.pos;rw [e] at this;simp at this
theorem SS.below {t:List VN} {B0:Blks} {w0 w w':World} {k:Nat} {s:St} (h:SS t B0 w0 k s w) (hb:Below w.heap.size w w'):SS t B0 w0 k s w':=by
 obtain ⟨B,hR,hS⟩:=h.held
 exact ⟨⟨B,hR.below hb,hS.then (Stp.of_below hb)⟩,h.room,h.tree⟩
theorem SS.here {t:List VN} {B0:Blks} {w0 w:World} {k:Nat} {s:St} (h:SS t B0 w0 k s w):∃ B,B.sb = B0.sb∧Rep B s w∧SS t B w k s w∧Stp [] B0 w0 B w:=by
 obtain ⟨B,hR,hS⟩:=h.held
 exact ⟨B,hS.sb,hR,⟨⟨B,hR,Stp.refl _ _ _⟩,h.room,h.tree⟩,hS⟩
theorem SS.size {t:List VN} {B0:Blks} {w0 w:World} {k:Nat} {s:St} (h:SS t B0 w0 k s w):w0.heap.size≤w.heap.size:=by
 obtain ⟨B,hR,hS⟩:=h.held
 exact hS.fr.size
theorem SS.block {t:List VN} {B0:Blks} {w0 w:World} {k:Nat} {s:St} (h:SS t B0 w0 k s w) {b:Nat} (hb:b < w0.heap.size) (hm:b∉B0.mut):w.heap[b]? = w0.heap[b]?:=by
 obtain ⟨B,hR,hS⟩:=h.held
 exact hS.fr.block b hb (fun hc=>(List.mem_append.1 hc).elim hm (fun h=>by cases h))
theorem SS.cell {t:List VN} {B0:Blks} {w0 w:World} {k:Nat} {s:St} (h:SS t B0 w0 k s w) {a:Addr} {v:Value} (hc:w0.cell? a = some v) (hm:a.block∉B0.mut):w.cell? a = some v:=by
 have hl:=World.block_lt_of_cell? w0 _ hc
 rw [←hc]
 simp only [World.cell?,h.block hl hm]
theorem SS.behind {t:List VN} {B0:Blks} {w0 w wa:World} {k n:Nat} {s:St} (h:SS t B0 w0 k s w) (hb:Below n wa w0) (hm:∀ k∈B0.mut,n≤k) (hn:n≤w0.heap.size):Below n wa w:=by
 obtain ⟨B,hR,hS⟩:=h.held
 exact (Stp.behind hb hm hn hS).1
def RetV (t:List VN) (B0:Blks) (w0:World) (k:Nat) (s:St) (φ:L.Asg→Bool) (e:Ending) (w':World):Prop :=
 ∃ (r:Nat) (s':St),e = .returned (.tuple #[.int .i64 (r:Nat),.int .i64 0])∧SS t B0 w0 k s' w'∧L.Step s s'∧Val s' r φ
theorem ret_did {t:List VN} {B0 B:Blks} {w0 w:World} {k k' c:Nat} {s:St} {φ:L.Asg→Bool} {f:Option (Nat × St)} (h:SS t B0 w0 k s w) (hR:Rep B s w) (hS:Stp [] B0 w0 B w) (hk:k'+c≤k) (hd:L.Did s c φ f)
  (hcall:∀ r s',f = some (r,s')→∀ e w',RetOk r B s' w e w'→RetOk r B s' w e w'):∃ r s',f = some (r,s')∧∀ e w',RetOk r B s' w e w'→RetV t B0 w0 k' s φ e w':=by
 obtain ⟨r,s',e,h1,h2,h3,h4⟩:=hd
 refine ⟨r,s',e,fun e' w' hr=>?_⟩
 obtain ⟨rfl,B',hR',hS'⟩:=hr
 exact ⟨r,s',rfl,⟨⟨B',hR',hS.then hS'⟩,h.room.next h1 h4 (by omega),h1.tree.trans h.tree⟩,h1,h2,h3⟩
theorem root_cost {t:List VN} (hc:checkF t = 0) (hfew:t.length≤11):t.length - 1 < t.length∧L.cn (L.nv t (t.length - 1))≤3∧L.ca (L.nv t (t.length - 1))≤118:=by
 have h0:=(check_ok hc).1
 have h1:=L.nv_le hc (v:=t.length - 1) (by omega)
 refine ⟨by omega,?_,?_⟩
 ·unfold L.cn;split <;> (try split) <;> omega
 ·unfold L.ca;split <;> (try split) <;> omega
def VarOf (t:List VN) (v:Int):Prop:=∃ (u:Nat) (y:VN),t[u]? = some y∧leafB y = true∧y.var = v
def litφ (l:Int):L.Asg→Bool:=fun x=>x (l.natAbs:Int) == decide (0 < l)
theorem VarOf.range {t:List VN} {v:Int} (h:VarOf t v):1≤v∧v≤128:=by
 obtain ⟨u,y,_,h2,rfl⟩:=h
 simp only [leafB,Bool.and_eq_true,decide_eq_true_eq] at h2
 exact h2.2
theorem lit_v {t:List VN} {B0:Blks} {w0 w:World} {k:Nat} {s:St} {l:Int} (h:SS t B0 w0 k s w) (hl:VarOf t (l.natAbs:Int)) :
  Calls Tryz.prog 32 #[.pointer (some ⟨B0.sb,0,none⟩),.int .i64 l] w (RetV t B0 w0 k s (litφ l)):=by
 obtain ⟨B,hR,hS⟩:=h.held
 have hr:=hl.range
 obtain ⟨u,y,h1,h2,h3⟩:=hl
 have hd:L.Did s 0 (litφ l) (literalF s l u):=by
  obtain ⟨c,s',g1,g2,g3,g4,g5⟩:=L.literal_spec h.room (l:=l) (u:=u) (y:=y) (by rw [h.tree];exact h1) h2 h3
  exact ⟨c,s',g1,g2,g3,g4,by omega⟩
 obtain ⟨r,s',e,hr'⟩:=ret_did h hR hS (k':=k) (c:=0) (by omega) hd (fun _ _ _ _ _ h=>h)
 rw [←hS.sb]
 refine (lit_top (v:=l.natAbs) (pl:=u) hR h.ne (by unfold varF;split <;> (try split) <;> omega) (by rw [h.tree];exact leaf_at h.chk h1 h2 h3) e).mono fun e w' hh=>hr' e w' hh
theorem text_v {t:List VN} {B0:Blks} {w0 w:World} {k a:Nat} {s:St} (h:SS t B0 w0 k s w) (ha:a < s.nodes.length) :
  Calls Tryz.prog 14 #[.pointer (some ⟨B0.sb,0,none⟩),.int .i64 a] w fun e w'=>e = .returned (.tuple #[.string ⟨(L.tx s.nodes a).toArray⟩,.int .i64 0])∧Below w.heap.size w w':=by
 obtain ⟨B,hR,hS⟩:=h.held
 have h0:=h.pos
 have hf:=h.few
 rw [←hS.sb]
 exact text_any hR h.ne ha (L.textF_spec h.inv (by rw [h.tree];exact hf) ha (v:=s.tree.length - 1) (by rw [h.tree];omega) (dep_root h.inv ha) (f:=14) (by rw [h.tree];omega))
theorem eval_v {t:List VN} {B0:Blks} {w0 w:World} {k a:Nat} {s:St} {φ:L.Asg→Bool} (h:SS t B0 w0 k s w) (ha:Val s a φ) (x:VSet) :
  Calls Tryz.prog 34 #[.pointer (some ⟨B0.sb,0,none⟩),.int .i64 a,.agg #[.int .u64 (lo x),.int .u64 (hi x)]] w fun e w'=>e = .returned (.bool (φ (L.asg x)))∧Ext w w':=by
 obtain ⟨B,hR,hS⟩:=h.held
 have h0:=h.pos
 have hf:=h.few
 rw [←hS.sb,←ha.sem]
 exact evalF_law 14 B s w a x _ hR h.ne (L.evalF_spec h.inv x a ha.lt (s.tree.length - 1) (by rw [h.tree];omega) (dep_root h.inv ha.lt) 14 (by rw [h.tree];omega))
theorem new_inv {t:List VN} (hc:checkF t = 0):L.Inv (newSt t):=by
 have hn:∀ (i:Nat) (n:SNode),2≤i→(newSt t).nodes[i]? = some n→False:=fun i n hi hn=>by
  have:=(List.getElem?_eq_some_iff.1 hn).1
  simp [newSt] at this;omega
 have h0:∀ (n:SNode) (i:Nat),(newSt t).nodes[i]? = some n→n = L.constN:=fun n i hn'=>by
  have h1:=(List.getElem?_eq_some_iff.1 hn').1
  have h2:i < 2:=by simpa [newSt] using h1
  have:i = 0∨i = 1:=by omega
  rcases this with rfl | rfl
  ·exact (Option.some.inj hn').symm
  ·exact (Option.some.inj hn').symm
 have hk:L.Kids (newSt t).nodes:=fun i n hn' p hp=>by rw [h0 n i hn'] at hp;cases hp
 refine ⟨hc,rfl,rfl,fun i n hi hn'=>(hn i n hi hn').elim,fun i hi hl=>?_,(fun k i h=>by cases h),fun i n hi hn'=>(hn i n hi hn').elim,(fun a b c h=>by cases h),(fun a b h=>by cases h)⟩
 have h2:i < 2:=by simpa [newSt] using hl
 obtain rfl:i = 1:=by omega
 refine ⟨?_,fun m _=>?_⟩
 ·rw [L.sem_node hk (n:=L.constN) rfl];rfl
 ·exact L.sub_le fun i hi hb=>by
   have e0:(0:VSet).getLsbD i = false:=BitVec.getLsbD_zero
   have:leOf (newSt t).nodes 1 = 0:=rfl
   rw [this,e0] at hb;cases hb
theorem new_big (t:List VN):L.big (newSt t) = 0:=by
 have:∀ i:Nat,L.bigAt (newSt t) i = false:=fun i=>by
  unfold L.bigAt
  match i with
  | 0=>rfl
  | 1=>rfl
  | i+2=>rfl
 unfold L.big
 rw [List.filter_eq_nil_iff.2 fun i _=>by rw [this i];simp];rfl
theorem new_v {t:List VN} (w:World) (b o cap:Nat) (hT:TzTab w) (hP:PowTab w) (h:TreeAt w b o t) (hc:checkF t = 0) (hfew:t.length≤11) :
  Calls Tryz.prog 30 #[.slice (some ⟨b,o,none⟩) t.length cap] w fun e w'=>∃ B,e = .returned (.tuple #[.pointer (some ⟨B.sb,0,none⟩),.int .i64 0])∧SS t B w' 300000 (newSt t) w'∧Val (newSt t) 0 (fun _=>false)∧Val (newSt t) 1 (fun _=>true) ∧
   (∀ k∈B.mut,w.heap.size≤k)∧Below w.heap.size w w':=by
 refine (new_ok w b o cap hT hP h hc).mono fun e w' hh=>?_
 obtain ⟨B,rfl,hR,hm,_,_,hb⟩:=hh
 have hi:=new_inv hc
 exact ⟨B,rfl,⟨⟨B,hR,Stp.refl _ _ _⟩,⟨hi,hfew,by rw [new_big];exact Nat.le_refl _⟩,rfl⟩,⟨by simp [newSt],hi.sem0⟩,⟨by simp [newSt],hi.sem1⟩,hm,hb⟩
end Go.Proofs.YtemnmcfmabamcaaGreatDoor
end
section
set_option linter.unusedSimpArgs false
set_option linter.unusedVariables false
namespace Go.Proofs.YtemnmcfmabamcaaGreatDoor
open Go Go.RowKit Go.Shelf
def RetTab (l:List Bool) (w:World) (e:Ending) (w':World):Prop:=∃ (g c:Nat) (cs:Array Value),e = .returned (.slice (some ⟨g,0,none⟩) l.length c)∧w.heap.size≤g∧w'.heap[g]? = some (.cells cs 4 (0,0))∧(∀ j (hj:j < l.length),cs[j]? = some (.bool l[j]))∧Below w.heap.size w w'
def TabAt (w:World) (v:Value) (f:List Bool):Prop:=∃ (g c:Nat) (cs:Array Value),v = .slice (some ⟨g,0,none⟩) f.length c∧w.heap[g]? = some (.cells cs 4 (0,0))∧∀ j (hj:j < f.length),cs[j]? = some (.bool f[j])
def FillB (w:World) (q N:Nat) (g:Nat→Bool) (k:Nat) (wr:World):Prop:=w.heap.size≤q∧Below w.heap.size w wr∧∃ cs:Array Value,wr.heap[q]? = some (.cells cs 4 (0,0))∧N≤cs.size∧∀ j,j < N→j < k→cs[j]? = some (.bool (g j))
theorem FillB.init (w:World) (N:Nat) (g:Nat→Bool):FillB w w.heap.size N g 0 (w.alloc (.cells (madeCells #[.bool false] N) 4)) :=
 ⟨Nat.le_refl _,(Below.refl _ _).alloc (Nat.le_refl _) _,_,heap_alloc_new _ _,by simp [madeCells],fun j _ h=>by omega⟩
theorem FillB.cell {w wr:World} {q N:Nat} {g:Nat→Bool} {k:Nat} (h:FillB w q N g k wr) (hk:k < N):(∃ u,wr.cell? ⟨q,k,none⟩ = some u)∧wr.frozen? ⟨q,k,none⟩ = false:=by
 obtain ⟨_,_,cs,h1,h2,_⟩:=h
 exact ⟨⟨cs[k]'(by omega),by simp [World.cell?,h1]⟩,by simp [World.frozen?,h1]⟩
theorem FillB.set {w wr:World} {q N:Nat} {g:Nat→Bool} {k:Nat} (h:FillB w q N g k wr) (hk:k < N):FillB w q N g (k+1) (wr.setCell ⟨q,k,none⟩ (.bool (g k))):=by
 obtain ⟨hq,h0,cs,h1,h2,h3⟩:=h
 refine ⟨hq,h0.setCell hq _,_,heap_set h1 _ _,by simpa using h2,fun j hj hjk=>?_⟩
 rw [Array.getElem?_setIfInBounds]
 by_cases e:k = j
 ·subst e;rw [if_pos rfl,if_pos (by omega)]
 ·rw [if_neg e];exact h3 j hj (by omega)
def tabN (N:Nat) (g:Nat→Bool):List Bool:=(List.range N).map g
theorem tabN_len (N:Nat) (g:Nat→Bool):(tabN N g).length = N:=by simp [tabN]
theorem tabN_get (N:Nat) (g:Nat→Bool) (j:Nat) (hj:j < (tabN N g).length):(tabN N g)[j] = g j:=by simp [tabN]
theorem FillB.done {w wr:World} {q N:Nat} {g:Nat→Bool} (h:FillB w q N g N wr) (c:Nat):RetTab (tabN N g) w (.returned (.slice (some ⟨q,0,none⟩) N c)) wr:=by
 obtain ⟨hq,h0,cs,h1,h2,h3⟩:=h
 refine ⟨q,c,cs,by rw [tabN_len],hq,h1,fun j hj=>?_,h0⟩
 have hj':j < N:=by rw [tabN_len] at hj;exact hj
 rw [tabN_get]
 exact h3 j hj' hj'
theorem bool_mk (N:Nat) (hN:N≤65536) (w:World):(Instr.makeSlice 40 (.int .i64 (N:Int)) (.int .i64 (N:Int))).run Tryz.prog w = .ok (.slice (some ⟨w.heap.size,0,none⟩) N N) (w.alloc (.cells (madeCells #[.bool false] N) 4)) :=
 run_make_row' (P:=Tryz.prog) 40 4 (.bool false) 1 Tryz.underlying40 info_bool rfl .i64 .i64 N (by omega) (by omega) w
theorem pow_wrap (n:Nat) (hn:n≤30):IntKind.i64.wrap ((2:Int) ^ n) = ((2 ^ n:Nat):Int):=by
 have h1:2 ^ n≤1073741824:=Nat.le_trans (Nat.pow_le_pow_right (by omega) hn) (by decide)
 rw [show ((2:Int) ^ n) = ((2 ^ n:Nat):Int) by simp]
 generalize 2 ^ n = m at *
 rw [IntWalk.i64_in _ (by omega)]
theorem pow_le64 {n:Nat} (hn:n≤6):2 ^ n≤64:=Nat.le_trans (Nat.pow_le_pow_right (by omega) hn) (by decide)
set_option maxRecDepth 100000 in
set_option maxHeartbeats 1000000 in
theorem const_any (n:Nat) (hn:n≤6) (b:Bool) (w:World):Calls Tryz.prog 46 #[.int .i64 n,.bool b] w (RetTab (tabN (2 ^ n) fun _=>b) w):=by
 have hw:=pow_wrap n (by omega)
 have hN:=pow_le64 hn
 have hmk:=bool_mk (2 ^ n) (by omega)
 have h0:Hid (FillB w w.heap.size (2 ^ n) (fun _=>b) 0 (w.alloc (.cells (madeCells #[.bool false] (2 ^ n)) 4))):=Lib.hid (FillB.init _ _ _)
 generalize hNN:2 ^ n = N at *
 replace hNN:=Lib.hid hNN
 go_enter Tryz.func46,Tryz.ntmps46
 go_wp2_with fail
 generalize w.alloc (.cells (madeCells #[.bool false] N) 4) = w1 at *
 go_loopw [6] (fun iv wr=>∃ i:Nat,i≤N∧iv = .int .i64 i∧Hid (FillB w w.heap.size N (fun _=>b) i wr)) (fun iv _=>N - (intOf iv).toNat)
 case atStart=>exact ⟨0,Nat.zero_le _,rfl,h0⟩
 case round =>
  clear h0
  obtain ⟨i,hi,rfl,hI⟩:=hrel
  by_cases hlt:i < N
  ·obtain ⟨⟨u,y1⟩,y2⟩:=hI.out.cell hlt
   have hnext:Hid (FillB w w.heap.size N (fun _=>b) (i+1) (wr.setCell ⟨w.heap.size,i,none⟩ (.bool b))):=Lib.hid (hI.out.set hlt)
   go_wp2_with fail
   go_roundw
   case rel=>exact ⟨i+1,by omega,by go_num,hnext⟩
   case measure=>simp [intOf];omega
  ·obtain rfl:i = N:=by omega
   have hend:=hI.out.done i
   replace hend:=Lib.hid hend
   go_wp2_with fail
   go_ret
   exact hend.out
theorem tabN_congr {N:Nat} {f g:Nat→Bool} (h:∀ i,i < N→f i = g i):tabN N f = tabN N g:=by
 unfold tabN
 exact List.map_congr_left fun i hi=>h i (List.mem_range.1 hi)
theorem tabN_getD {N:Nat} {f:Nat→Bool} {i:Nat} (hi:i < N):(tabN N f).getD i false = f i:=by
 rw [List.getD_eq_getElem?_getD,List.getElem?_eq_getElem (by rw [tabN_len];exact hi),Option.getD_some,tabN_get]
theorem bits_andN (y z:Nat) (hy:y < 9223372036854775808) (hz:z < 9223372036854775808):bits BinOp.and IntKind.i64 (y:Int) (z:Int) = ((y &&& z:Nat):Int):=by
 have hlt:y &&& z < 9223372036854775808:=Nat.lt_of_le_of_lt Nat.and_le_left hy
 show IntKind.i64.wrap (((BitVec.ofInt 64 (y:Int) &&& BitVec.ofInt 64 (z:Int):BitVec 64).toNat:Nat):Int) = _
 rw [show ((BitVec.ofInt 64 (y:Int) &&& BitVec.ofInt 64 (z:Int)).toNat) = y &&& z from by
  rw [BitVec.toNat_and,BitVec.ofInt_natCast,BitVec.ofInt_natCast,BitVec.toNat_ofNat,BitVec.toNat_ofNat,Nat.mod_eq_of_lt (by omega),Nat.mod_eq_of_lt (by omega)]]
 rw [IntWalk.i64_in _ (by omega)]
end Go.Proofs.YtemnmcfmabamcaaGreatDoor
namespace Go.Proofs.YtemnmcfmabamcaaGreatDoor
open Go Go.RowKit Go.Shelf
def idxK (l:List Int) (x:L.Asg):Nat→Nat
 | 0=>0
 | k+1=>idxK l x k+(if x (l.getD k 0) = true then 2 ^ (l.length - 1 - k) else 0)
def idxF (l:List Int) (x:L.Asg):Nat:=idxK l x l.length
theorem idxK_ok (l:List Int) (x:L.Asg):∀ k,k≤l.length→∃ m,idxK l x k = 2 ^ (l.length - k) * m∧m < 2 ^ k∧∀ j,j < k→m.testBit (k - 1 - j) = x (l.getD j 0)
 | 0,_=>⟨0,by simp [idxK],by simp,fun j h=>by omega⟩
 | k+1,h=>by
   obtain ⟨m,e,hm,hb⟩:=idxK_ok l x k (by omega)
   have hp:2 ^ (l.length - k) = 2 ^ (l.length - (k+1)) * 2:=by
    rw [←Nat.pow_succ];congr 1;omega
   have hq:l.length - 1 - k = l.length - (k+1):=by omega
   refine ⟨2 * m+(x (l.getD k 0)).toNat,?_,?_,fun j hj=>?_⟩
   ·rw [idxK,e,hp,hq,Nat.mul_add,Nat.mul_assoc]
    cases x (l.getD k 0) <;> simp
   ·have:(x (l.getD k 0)).toNat≤1:=by cases x (l.getD k 0) <;> simp
    rw [Nat.pow_succ];omega
   ·rcases Nat.lt_or_eq_of_le (Nat.le_of_lt_succ hj) with hj | rfl
    ·rw [show k+1 - 1 - j = (k - 1 - j)+1 by omega,Nat.testBit_succ,show (2 * m+(x (l.getD k 0)).toNat) / 2 = m from by
      have:(x (l.getD k 0)).toNat≤1:=by cases x (l.getD k 0) <;> simp
      omega]
     exact hb j hj
    ·rw [show j+1 - 1 - j = 0 by omega,Nat.testBit_zero]
     cases x (l.getD j 0)
     ·simp
     ·simp
theorem idxF_lt (l:List Int) (x:L.Asg):idxF l x < 2 ^ l.length:=by
 obtain ⟨m,e,hm,_⟩:=idxK_ok l x l.length (Nat.le_refl _)
 rw [idxF,e,Nat.sub_self,Nat.pow_zero,Nat.one_mul];exact hm
theorem idxF_bit (l:List Int) (x:L.Asg) {j:Nat} (hj:j < l.length):(idxF l x).testBit (l.length - 1 - j) = x l[j]:=by
 obtain ⟨m,e,_,hb⟩:=idxK_ok l x l.length (Nat.le_refl _)
 rw [idxF,e,Nat.sub_self,Nat.pow_zero,Nat.one_mul,hb j hj,List.getD_eq_getElem?_getD,List.getElem?_eq_getElem hj];rfl
structure IsTab (l:List Int) (φ:L.Asg→Bool) (f:List Bool):Prop where
 len:f.length = 2 ^ l.length
 says:∀ x,f.getD (idxF l x) false = φ x
end Go.Proofs.YtemnmcfmabamcaaGreatDoor
end
