import Derived.Test.YtmnjakejhbpkoaaGreatDoorXText
import Derived.Test.YtmnjakejhbpkoaaGreatDoorXRefChk
import Derived.Test.YtmnjakejhbpkoaaGreatDoorXReg
import Derived.Test.YtmnjakejhbpkoaaGreatDoorXLaw3
section
set_option linter.unusedSimpArgs false
set_option linter.unusedVariables false
namespace Go.Proofs.YtmnjakejhbpkoaaGreatDoor
open Go Go.RowKit Go.Shelf
def t3:List VN:=[⟨-1,-1,1⟩,⟨-1,-1,2⟩,⟨0,1,0⟩]
end Go.Proofs.YtmnjakejhbpkoaaGreatDoor
namespace Go.Proofs.YtmnjakejhbpkoaaGreatDoor
open Go Go.RowKit Go.Shelf
theorem Stp.behind {B B':Blks} {w w1 w2:World} {n:Nat} (hb:Below n w w1) (hm:∀ k∈B.mut,n≤k) (hn:n≤w1.heap.size) (hS:Stp [] B w1 B' w2):Below n w w2∧(∀ k∈B'.mut,n≤k)∧n≤w2.heap.size :=
 ⟨⟨hS.fr.os.trans hb.os,hS.fr.tape.trans hb.tape,hS.fr.output.trans hb.output,Nat.le_trans hb.size hS.fr.size,fun k hk=>(hS.fr.block k (by omega) (fun hc=>by
    rcases List.mem_append.1 hc with hc | hc
    ·have:=hm k hc;omega
    ·simp at hc)).trans (hb.block k hk)⟩,
   fun k hk=>(hS.new k hk).elim (hm k) (fun h=>by omega),Nat.le_trans hn hS.fr.size⟩
end Go.Proofs.YtmnjakejhbpkoaaGreatDoor
end
section
set_option linter.unusedSimpArgs false
set_option linter.unusedVariables false
namespace Go.Proofs.YtmnjakejhbpkoaaGreatDoor
open Go Go.RowKit Go.Shelf
set_option maxRecDepth 100000 in
set_option maxHeartbeats 1000000 in
theorem at_any {B:Blks} {s:St} {w:World} {a:Nat} {n:SNode} (h:Rep B s w) (ht:s.tree≠[]) (hn:s.nodes[a]? = some n) :
  Calls Tryz.prog 60 #[.pointer (some ⟨B.sb,0,none⟩),.int .i64 a] w fun e w'=>e = .returned (.tuple #[.int .i64 n.pl,.int .i64 0])∧Below w.heap.size w w':=by
 have ha:a < s.nodes.length:=(List.getElem?_eq_some_iff.1 hn).1
 have hch:chkF s.nodes.length [(a:Int)] = 0:=by simp [chkF,ha]
 have hns:=h.small.1
 replace hch:=Lib.hid hch
 have hx1:=(Ext.refl w).alloc (.cells #[.int .i64 a] 3)
 have hz1:=heap_alloc_new w (.cells #[.int .i64 a] 3)
 go_enter Tryz.func60,Tryz.ntmps60
 go_wp2_with fail
 generalize w.alloc (.cells #[.int .i64 a] 3) = w1 at *
 have hR1:=h.below hx1.below
 have hq:=sck_any hR1 ht (slI_one hz1) (by simp)
 rw [hch.out] at hq
 clear hz1
 obtain ⟨cap,_,_,cn,_⟩:=hR1.cells
 obtain ⟨v,_,_,n0,_⟩:=hR1.node hn
 replace hR1:=Lib.hid hR1
 clear h
 refine hq.mono ?_
 rintro e w2 ⟨rfl,rfl⟩
 have d0:decide ((a:Int) < s.nodes.length) = true:=decide_eq_true (by omega)
 have d1:decide (0≤(a:Int)) = true:=decide_eq_true (by omega)
 clear hq
 go_wp2_with fail
 go_ret2
 exact ⟨rfl,hx1.below⟩
theorem TreeAt.below {w w':World} {b o:Nat} {t:List VN} (h:TreeAt w b o t) (hb:Below w.heap.size w w'):TreeAt w' b o t :=
 fun j u hj=>(hb.cell (World.block_lt_of_cell? w _ (h j u hj))).trans (h j u hj)
end Go.Proofs.YtmnjakejhbpkoaaGreatDoor
end
section
set_option linter.unusedSimpArgs false
set_option linter.unusedVariables false
namespace Go.Proofs.YtmnjakejhbpkoaaGreatDoor
open Go Go.RowKit Go.Shelf
theorem leaf_at {t:List VN} (hc:checkF t = 0) {u:Nat} {y:VN} (hu:t[u]? = some y) (hl:leafB y = true) {v:Nat} (hv:y.var = v):leafAt t v = some u:=by
 unfold leafAt
 have hul:=(List.getElem?_eq_some_iff.1 hu).1
 have hy:t[u] = y:=(List.getElem?_eq_some_iff.1 hu).2
 have hyl:y.left < 0:=by simp only [leafB,Bool.and_eq_true,decide_eq_true_eq] at hl;omega
 rw [List.findIdx?_eq_some_iff_getElem]
 refine ⟨hul,?_,fun j hj=>?_⟩
 ·rw [hy];simp [hyl,hv]
 ·have hjl:j < t.length:=by omega
  have hjs:t[j]? = some t[j]:=List.getElem?_eq_getElem hjl
  intro hh
  simp only [Bool.and_eq_true,decide_eq_true_eq] at hh
  cases hlj:leafB t[j]
  ·obtain ⟨l,r,e1,_⟩:=L.inner_ok hc hjs hlj
   omega
  ·have:=L.leaf_var hc hjs hu hlj hl (by rw [hh.2,hv])
   omega
structure Val (s:St) (r:Nat) (φ:L.Asg→Bool):Prop where
 lt:r < s.nodes.length
 sem:∀ x,L.sem s.nodes r x = φ x
theorem Val.step {s s':St} {r:Nat} {φ:L.Asg→Bool} (h:Val s r φ) (hi:L.Inv s) (hS:L.Step s s'):Val s' r φ :=
 ⟨Nat.lt_of_lt_of_le h.lt hS.len,fun x=>by rw [hS.sem hi h.lt];exact h.sem x⟩
theorem Val.congr {s:St} {a:Nat} {φ ψ:L.Asg→Bool} (ha:Val s a φ) (h:∀ x,φ x = ψ x):Val s a ψ:=⟨ha.lt,fun x=>by rw [ha.sem,h]⟩
theorem dep_root {s:St} (h:L.Inv s) {i:Nat} (hi:i < s.nodes.length):L.Dep (L.Bel s.tree (s.tree.length - 1)) (L.sem s.nodes i):=by
 rcases h.kind hi with rfl | rfl | ⟨h2,n,hn,_⟩
 ·intro x y _;rw [h.sem0,h.sem0]
 ·intro x y _;rw [h.sem1,h.sem1]
 ·obtain ⟨P,_,hP,hd⟩:=h.place h2 hn
  exact hd.mono fun v hv=>hv.up (L.Und.root h.tree s.tree.length P hP (by omega))
structure SS (t:List VN) (B0:Blks) (w0:World) (k:Nat) (s:St) (w:World):Prop where
 held:∃ B,Rep B s w∧Stp [] B0 w0 B w
 room:L.Room s k
 tree:s.tree = t
theorem SS.inv {t:List VN} {B0:Blks} {w0 w:World} {k:Nat} {s:St} (h:SS t B0 w0 k s w):L.Inv s:=h.room.inv
theorem SS.chk {t:List VN} {B0:Blks} {w0 w:World} {k:Nat} {s:St} (h:SS t B0 w0 k s w):checkF t = 0:=by have:=h.inv.tree;rw [h.tree] at this;exact this
theorem SS.few {t:List VN} {B0:Blks} {w0 w:World} {k:Nat} {s:St} (h:SS t B0 w0 k s w):t.length≤11:=by have:=h.room.few;rw [h.tree] at this;exact this
theorem SS.pos {t:List VN} {B0:Blks} {w0 w:World} {k:Nat} {s:St} (h:SS t B0 w0 k s w):0 < t.length:=(check_ok h.chk).1
theorem SS.ne {t:List VN} {B0:Blks} {w0 w:World} {k:Nat} {s:St} (h:SS t B0 w0 k s w):s.tree≠[]:=by rw [h.tree];intro e;have:=h.pos;rw [e] at this;simp at this
theorem SS.here {t:List VN} {B0:Blks} {w0 w:World} {k:Nat} {s:St} (h:SS t B0 w0 k s w):∃ B,B.sb = B0.sb∧Rep B s w∧SS t B w k s w∧Stp [] B0 w0 B w:=by
 obtain ⟨B,hR,hS⟩:=h.held
 exact ⟨B,hS.sb,hR,⟨⟨B,hR,Stp.refl _ _ _⟩,h.room,h.tree⟩,hS⟩
def RetV (t:List VN) (B0:Blks) (w0:World) (k:Nat) (s:St) (φ:L.Asg→Bool) (e:Ending) (w':World):Prop :=
 ∃ (r:Nat) (s':St),e = .returned (.tuple #[.int .i64 (r:Nat),.int .i64 0])∧SS t B0 w0 k s' w'∧L.Step s s'∧Val s' r φ
theorem ret_did {t:List VN} {B0 B:Blks} {w0 w:World} {k k' c:Nat} {s:St} {φ:L.Asg→Bool} {f:Option (Nat × St)} (h:SS t B0 w0 k s w) (hR:Rep B s w) (hS:Stp [] B0 w0 B w) (hk:k'+c≤k) (hd:L.Did s c φ f)
  (hcall:∀ r s',f = some (r,s')→∀ e w',RetOk r B s' w e w'→RetOk r B s' w e w'):∃ r s',f = some (r,s')∧∀ e w',RetOk r B s' w e w'→RetV t B0 w0 k' s φ e w':=by
 obtain ⟨r,s',e,h1,h2,h3,h4⟩:=hd
 refine ⟨r,s',e,fun e' w' hr=>?_⟩
 obtain ⟨rfl,B',hR',hS'⟩:=hr
 exact ⟨r,s',rfl,⟨⟨B',hR',hS.then hS'⟩,h.room.next h1 h4 (by omega),h1.tree.trans h.tree⟩,h1,h2,h3⟩
theorem root_cost {t:List VN} (hc:checkF t = 0) (hfew:t.length≤11):t.length - 1 < t.length∧L.cn (L.nv t (t.length - 1))≤3∧L.ca (L.nv t (t.length - 1))≤118:=by
 have h0:=(check_ok hc).1
 have h1:=L.nv_le hc (v:=t.length - 1) (by omega)
 refine ⟨by omega,?_,?_⟩
 ·unfold L.cn;split <;> (try split) <;> omega
 ·unfold L.ca;split <;> (try split) <;> omega
theorem and_v {t:List VN} {B0:Blks} {w0 w:World} {k k' a b:Nat} {s:St} {φ ψ:L.Asg→Bool} (h:SS t B0 w0 k s w) (hk:k'+118≤k) (ha:Val s a φ) (hb:Val s b ψ) :
  Calls Tryz.prog 82 #[.pointer (some ⟨B0.sb,0,none⟩),.int .i64 a,.int .i64 b] w (RetV t B0 w0 k' s fun x=>φ x && ψ x):=by
 obtain ⟨B,hR,hS⟩:=h.held
 obtain ⟨g1,g2,g3⟩:=root_cost h.chk h.few
 have hd:=L.and_spec h.chk h.few _ g1 14 (by have:=h.few;omega) s a b h.tree (h.room.less (by omega)) ha.lt hb.lt (by rw [←h.tree];exact dep_root h.inv ha.lt) (by rw [←h.tree];exact dep_root h.inv hb.lt)
 obtain ⟨r,s',e,hr⟩:=ret_did h hR hS (k':=k') (c:=118) hk (hd.mono g3) (fun _ _ _ _ _ h=>h)
 rw [←hS.sb]
 refine (and_top (andF_law 14) hR h.ne ha.lt hb.lt e).mono fun e w' hh=>?_
 obtain ⟨r,s',h1,h2,h3,h4⟩:=hr e w' hh
 exact ⟨r,s',h1,h2,h3,h4.congr fun x=>by rw [ha.sem,hb.sem]⟩
theorem not_v {t:List VN} {B0:Blks} {w0 w:World} {k k' a:Nat} {s:St} {φ:L.Asg→Bool} (h:SS t B0 w0 k s w) (hk:k'+3≤k) (ha:Val s a φ) :
  Calls Tryz.prog 39 #[.pointer (some ⟨B0.sb,0,none⟩),.int .i64 a] w (RetV t B0 w0 k' s fun x=>!φ x):=by
 obtain ⟨B,hR,hS⟩:=h.held
 obtain ⟨g1,g2,g3⟩:=root_cost h.chk h.few
 have hd:=L.not_spec h.chk h.few _ g1 14 (by have:=h.few;omega) s a h.tree (h.room.less (by omega)) ha.lt (by rw [←h.tree];exact dep_root h.inv ha.lt)
 obtain ⟨r,s',e,hr⟩:=ret_did h hR hS (k':=k') (c:=3) hk (hd.mono g2) (fun _ _ _ _ _ h=>h)
 rw [←hS.sb]
 refine (not_top (notF_law 14) hR h.ne ha.lt e).mono fun e w' hh=>?_
 obtain ⟨r,s',h1,h2,h3,h4⟩:=hr e w' hh
 exact ⟨r,s',h1,h2,h3,h4.congr fun x=>by rw [ha.sem]⟩
theorem or_v {t:List VN} {B0:Blks} {w0 w:World} {k k' a b:Nat} {s:St} {φ ψ:L.Asg→Bool} (h:SS t B0 w0 k s w) (hk:k'+127≤k) (ha:Val s a φ) (hb:Val s b ψ) :
  Calls Tryz.prog 41 #[.pointer (some ⟨B0.sb,0,none⟩),.int .i64 a,.int .i64 b] w (RetV t B0 w0 k' s fun x=>φ x || ψ x):=by
 obtain ⟨B,hR,hS⟩:=h.held
 obtain ⟨g1,g2,g3⟩:=root_cost h.chk h.few
 have hd:=L.or_spec (L.not_spec h.chk h.few _ g1 14 (by have:=h.few;omega)) (L.and_spec h.chk h.few _ g1 14 (by have:=h.few;omega)) s a b h.tree (h.room.less (by omega)) ha.lt hb.lt (by rw [←h.tree];exact dep_root h.inv ha.lt) (by rw [←h.tree];exact dep_root h.inv hb.lt)
 obtain ⟨r,s',e,hr⟩:=ret_did h hR hS (k':=k') (c:=127) hk (hd.mono (by omega)) (fun _ _ _ _ _ h=>h)
 rw [←hS.sb]
 refine (or_top (orF_law (notF_law 14) (andF_law 14)) hR h.ne ha.lt hb.lt e).mono fun e w' hh=>?_
 obtain ⟨r,s',h1,h2,h3,h4⟩:=hr e w' hh
 exact ⟨r,s',h1,h2,h3,h4.congr fun x=>by rw [ha.sem,hb.sem]⟩
def VarOf (t:List VN) (v:Int):Prop:=∃ (u:Nat) (y:VN),t[u]? = some y∧leafB y = true∧y.var = v
def litφ (l:Int):L.Asg→Bool:=fun x=>x (l.natAbs:Int) == decide (0 < l)
theorem VarOf.range {t:List VN} {v:Int} (h:VarOf t v):1≤v∧v≤128:=by
 obtain ⟨u,y,_,h2,rfl⟩:=h
 simp only [leafB,Bool.and_eq_true,decide_eq_true_eq] at h2
 exact h2.2
theorem lit_v {t:List VN} {B0:Blks} {w0 w:World} {k:Nat} {s:St} {l:Int} (h:SS t B0 w0 k s w) (hl:VarOf t (l.natAbs:Int)) :
  Calls Tryz.prog 101 #[.pointer (some ⟨B0.sb,0,none⟩),.int .i64 l] w (RetV t B0 w0 k s (litφ l)):=by
 obtain ⟨B,hR,hS⟩:=h.held
 have hr:=hl.range
 obtain ⟨u,y,h1,h2,h3⟩:=hl
 have hd:L.Did s 0 (litφ l) (literalF s l u):=by
  obtain ⟨c,s',g1,g2,g3,g4,g5⟩:=L.literal_spec h.room (l:=l) (u:=u) (y:=y) (by rw [h.tree];exact h1) h2 h3
  exact ⟨c,s',g1,g2,g3,g4,by omega⟩
 obtain ⟨r,s',e,hr'⟩:=ret_did h hR hS (k':=k) (c:=0) (by omega) hd (fun _ _ _ _ _ h=>h)
 rw [←hS.sb]
 refine (lit_top (v:=l.natAbs) (pl:=u) hR h.ne (by unfold varF;split <;> (try split) <;> omega) (by rw [h.tree];exact leaf_at h.chk h1 h2 h3) e).mono fun e w' hh=>hr' e w' hh
theorem text_v {t:List VN} {B0:Blks} {w0 w:World} {k a:Nat} {s:St} (h:SS t B0 w0 k s w) (ha:a < s.nodes.length) :
  Calls Tryz.prog 65 #[.pointer (some ⟨B0.sb,0,none⟩),.int .i64 a] w fun e w'=>e = .returned (.tuple #[.string ⟨(L.tx s.nodes a).toArray⟩,.int .i64 0])∧Below w.heap.size w w':=by
 obtain ⟨B,hR,hS⟩:=h.held
 have h0:=h.pos
 have hf:=h.few
 rw [←hS.sb]
 exact text_any hR h.ne ha (L.textF_spec h.inv (by rw [h.tree];exact hf) ha (v:=s.tree.length - 1) (by rw [h.tree];omega) (dep_root h.inv ha) (f:=14) (by rw [h.tree];omega))
theorem eval_v {t:List VN} {B0:Blks} {w0 w:World} {k a:Nat} {s:St} {φ:L.Asg→Bool} (h:SS t B0 w0 k s w) (ha:Val s a φ) (x:VSet) :
  Calls Tryz.prog 48 #[.pointer (some ⟨B0.sb,0,none⟩),.int .i64 a,.agg #[.int .u64 (lo x),.int .u64 (hi x)]] w fun e w'=>e = .returned (.bool (φ (L.asg x)))∧Ext w w':=by
 obtain ⟨B,hR,hS⟩:=h.held
 have h0:=h.pos
 have hf:=h.few
 rw [←hS.sb,←ha.sem]
 exact evalF_law 14 B s w a x _ hR h.ne (L.evalF_spec h.inv x a ha.lt (s.tree.length - 1) (by rw [h.tree];omega) (dep_root h.inv ha.lt) 14 (by rw [h.tree];omega))
theorem new_inv {t:List VN} (hc:checkF t = 0):L.Inv (newSt t):=by
 have hn:∀ (i:Nat) (n:SNode),2≤i→(newSt t).nodes[i]? = some n→False:=fun i n hi hn=>by
  have:=(List.getElem?_eq_some_iff.1 hn).1
  simp [newSt] at this;omega
 have h0:∀ (n:SNode) (i:Nat),(newSt t).nodes[i]? = some n→n = L.constN:=fun n i hn'=>by
  have h1:=(List.getElem?_eq_some_iff.1 hn').1
  have h2:i < 2:=by simpa [newSt] using h1
  have:i = 0∨i = 1:=by omega
  rcases this with rfl | rfl
  ·exact (Option.some.inj hn').symm
  ·exact (Option.some.inj hn').symm
 have hk:L.Kids (newSt t).nodes:=fun i n hn' p hp=>by rw [h0 n i hn'] at hp;cases hp
 refine ⟨hc,rfl,rfl,fun i n hi hn'=>(hn i n hi hn').elim,fun i hi hl=>?_,(fun k i h=>by cases h),fun i n hi hn'=>(hn i n hi hn').elim,(fun a b c h=>by cases h),(fun a b h=>by cases h)⟩
 have h2:i < 2:=by simpa [newSt] using hl
 obtain rfl:i = 1:=by omega
 refine ⟨?_,fun m _=>?_⟩
 ·rw [L.sem_node hk (n:=L.constN) rfl];rfl
 ·exact L.sub_le fun i hi hb=>by
   have e0:(0:VSet).getLsbD i = false:=BitVec.getLsbD_zero
   have:leOf (newSt t).nodes 1 = 0:=rfl
   rw [this,e0] at hb;cases hb
theorem new_big (t:List VN):L.big (newSt t) = 0:=by
 have:∀ i:Nat,L.bigAt (newSt t) i = false:=fun i=>by
  unfold L.bigAt
  match i with
  | 0=>rfl
  | 1=>rfl
  | i+2=>rfl
 unfold L.big
 rw [List.filter_eq_nil_iff.2 fun i _=>by rw [this i];simp];rfl
theorem new_w {t:List VN} (w:World) (b o cap:Nat) (hT:TzTab w) (hP:PowTab w) (h:TreeAt w b o t) (hc:checkF t = 0) (hfew:t.length≤11) :
  Calls Tryz.prog 151 #[.slice (some ⟨b,o,none⟩) t.length cap] w fun e w'=>∃ B,e = .returned (.tuple #[.pointer (some ⟨B.sb,0,none⟩),.int .i64 0])∧SS t B w' 327000 (newSt t) w'∧Val (newSt t) 0 (fun _=>false)∧Val (newSt t) 1 (fun _=>true) ∧
   (∀ k∈B.mut,w.heap.size≤k)∧Below w.heap.size w w':=by
 refine (new_ok w b o cap hT hP h hc).mono fun e w' hh=>?_
 obtain ⟨B,rfl,hR,hm,_,_,hb⟩:=hh
 have hi:=new_inv hc
 exact ⟨B,rfl,⟨⟨B,hR,Stp.refl _ _ _⟩,⟨hi,hfew,by rw [new_big];exact Nat.le_refl _⟩,rfl⟩,⟨by simp [newSt],hi.sem0⟩,⟨by simp [newSt],hi.sem1⟩,hm,hb⟩
end Go.Proofs.YtmnjakejhbpkoaaGreatDoor
end
