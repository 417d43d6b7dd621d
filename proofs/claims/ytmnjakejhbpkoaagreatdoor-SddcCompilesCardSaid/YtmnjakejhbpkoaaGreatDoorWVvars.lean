import Derived.Test.YtmnjakejhbpkoaaGreatDoorWRefChk
import Derived.Test.YtmnjakejhbpkoaaGreatDoorWTab2
import Derived.Test.YtmnjakejhbpkoaaGreatDoorWReg
import Derived.ChangeKeysEq
set_option linter.unusedSimpArgs false
set_option linter.unusedVariables false
namespace Go.Proofs.YtmnjakejhbpkoaaGreatDoor
open Go Go.RowKit Go.Shelf
def IsBel (t:List VN) (j:Nat) (m:VSet):Prop:=∀ i,i < 128→(m.getLsbD i = true↔L.Bel t j ((i:Int)+1))
def SetsAt (w:World) (b:Nat) (n:Nat) (f:Nat→VSet):Prop:=∃ c,w.heap[b]? = some (.cells c 41 (0,0))∧c.size = n * 2∧∀ j,j < n→c[j * 2]? = some (.int .u64 (lo (f j)))∧c[j * 2+1]? = some (.int .u64 (hi (f j)))
section
variable {w w':World} {b n:Nat} {f:Nat→VSet}
theorem SetsAt.cell (h:SetsAt w b n f) {j:Nat} (hj:j < n):(w.cell? ⟨b,j * 2,none⟩ = some (.int .u64 (lo (f j)))∧w.cell? ⟨b,j * 2+1,none⟩ = some (.int .u64 (hi (f j))))∧w.frozen? ⟨b,j * 2,none⟩ = false∧w.frozen? ⟨b,j * 2+1,none⟩ = false:=by
 obtain ⟨c,h1,h2,h3⟩:=h
 obtain ⟨h4,h5⟩:=h3 j hj
 simp [World.cell?,World.frozen?,h1,h4,h5]
theorem SetsAt.same (h:SetsAt w b n f) (hs:w'.heap[b]? = w.heap[b]?):SetsAt w' b n f:=by
 obtain ⟨c,h1,h2,h3⟩:=h
 exact ⟨c,hs.trans h1,h2,h3⟩
theorem SetsAt.lt (h:SetsAt w b n f):b < w.heap.size:=by
 obtain ⟨c,h1,h2,h3⟩:=h
 exact (Array.getElem?_eq_some_iff.1 h1).1
theorem SetsAt.ext (h:SetsAt w b n f) (hs:Ext w w'):SetsAt w' b n f:=h.same (hs.below.block b h.lt)
theorem SetsAt.below (h:SetsAt w b n f) (hs:Below w.heap.size w w'):SetsAt w' b n f:=h.same (hs.block b h.lt)
def setVS (f:Nat→VSet) (i:Nat) (m:VSet):Nat→VSet:=fun j=>if j = i then m else f j
theorem SetsAt.set (h:SetsAt w b n f) (i:Nat) (m:VSet):SetsAt ((w.setCell ⟨b,i * 2,none⟩ (.int .u64 (lo m))).setCell ⟨b,i * 2+1,none⟩ (.int .u64 (hi m))) b n (setVS f i m):=by
 obtain ⟨c,h1,h2,h3⟩:=h
 refine ⟨_,heap_set (heap_set h1 _ _) _ _,by simpa using h2,fun j hj=>?_⟩
 obtain ⟨h4,h5⟩:=h3 j hj
 by_cases hij:j = i
 ·subst hij
  simp only [setVS,if_pos]
  constructor
  ·rw [Array.getElem?_setIfInBounds,if_neg (by omega),Array.getElem?_setIfInBounds,if_pos rfl,if_pos (by omega)]
  ·rw [Array.getElem?_setIfInBounds,if_pos rfl,if_pos (by simp;omega)]
 ·simp only [setVS,if_neg hij]
  constructor
  ·rw [Array.getElem?_setIfInBounds,if_neg (by omega),Array.getElem?_setIfInBounds,if_neg (by omega)];exact h4
  ·rw [Array.getElem?_setIfInBounds,if_neg (by omega),Array.getElem?_setIfInBounds,if_neg (by omega)];exact h5
end
theorem setsNew (w:World) (n:Nat) (ad:Nat) (ha:ad = w.heap.size):SetsAt (w.alloc (.cells (madeCells #[.int .u64 0,.int .u64 0] (n * 2)) 41)) ad n (fun _=>0):=by
 refine ⟨_,heap_new_at w _ ad ha,by simp [madeCells],fun j hj=>?_⟩
 have e0:(j * 2) % 2 = 0:=by omega
 have e1:(j * 2+1) % 2 = 1:=by omega
 have l0:j * 2 < n * 2:=by omega
 have l1:j * 2+1 < n * 2:=by omega
 constructor
 ·simp [madeCells,l0,e0,lo]
 ·simp [madeCells,l1,e1,hi]
def VsLoop (w:World) (g:Nat) (t:List VN) (k:Nat) (wr:World):Prop:=∃ f:Nat→VSet,Ext w wr∧SetsAt wr g t.length f∧(∀ j,j < k→IsBel t j (f j))∧∀ j,k≤j→f j = 0
theorem VsLoop.round {w wr w':World} {g k:Nat} {t:List VN} {f:Nat→VSet} {m:VSet} (hX:Ext w w') (hG:SetsAt w' g t.length f) (h1:∀ j,j < k→IsBel t j (f j)) (h2:∀ j,k≤j→f j = 0) (hg:w.heap.size≤g) (hm:IsBel t k m) :
  VsLoop w g t (k+1) ((w'.setCell ⟨g,k * 2,none⟩ (.int .u64 (lo m))).setCell ⟨g,k * 2+1,none⟩ (.int .u64 (hi m))):=by
 refine ⟨_,(hX.setCell (by simpa using hg) _).setCell (by simpa using hg) _,hG.set k m,fun j hj=>?_,fun j hj=>?_⟩
 ·by_cases e:j = k
  ·subst e;simpa [setVS] using hm
  ·simpa [setVS,e] using h1 j (by omega)
 ·have e:j≠k:=by omega
  simpa [setVS,e] using h2 j (by omega)
theorem isBel_leaf {t:List VN} (hc:checkF t = 0) {k:Nat} {y:VN} (hy:t[k]? = some y) (hl:leafB y = true):IsBel t k (withS 0 y.var):=fun i hi=>by
 rw [bit_with _ _ _ hi,L.Bel.leaf hc hy hl]
 simp [eq_comm]
theorem isBel_node {t:List VN} (hc:checkF t = 0) {k a b:Nat} {y:VN} {m n:VSet} (hy:t[k]? = some y) (hl:leafB y = false) (ha:y.left = a) (hb:y.right = b) (h1:IsBel t a m) (h2:IsBel t b n):IsBel t k (m ||| n):=fun i hi=>by
 rw [L.Bel.kids hc hy hl ha hb,BitVec.getLsbD_or,Bool.or_eq_true,h1 i hi,h2 i hi]
theorem cell_two {w:World} {a1 a2 p:Addr} {v1 v2 u:Value} (h:w.cell? p = some u) (h1:a1≠p) (h2:a2≠p):((w.setCell a1 v1).setCell a2 v2).cell? p = some u:=by
 rw [World.cell?_setCell_other (h:=h2),World.cell?_setCell_other (h:=h1)];exact h
theorem union_agg' (a b:VSet) (w:World):Calls Tryz.prog 138 #[.agg #[.int .u64 (lo a),.int .u64 (hi a)],.agg #[.int .u64 (lo b),.int .u64 (hi b)]] w fun e w'=>e = .returned (.agg #[.int .u64 (lo (a ||| b)),.int .u64 (hi (a ||| b))])∧Ext w w':=union_any a b w
theorem with_agg (a:VSet) (v:Int) (w:World):Calls Tryz.prog 113 #[.agg #[.int .u64 (lo a),.int .u64 (hi a)],.int .i64 v] w fun e w'=>e = .returned (.agg #[.int .u64 (lo (withS a v)),.int .u64 (hi (withS a v))])∧Ext w w':=with_any a v w
set_option maxRecDepth 100000 in
set_option maxHeartbeats 4000000 in
theorem vvars_any {t:List VN} (w:World) (b o cap:Nat) (h:TreeAt w b o t) (hc:checkF t = 0) :
  Calls Tryz.prog 99 #[.slice (some ⟨b,o,none⟩) t.length cap] w fun e w'=>∃ g f,w.heap.size≤g∧e = .returned (.slice (some ⟨g,0,none⟩) t.length t.length)∧SetsAt w' g t.length f∧(∀ j,j < t.length→IsBel t j (f j))∧Ext w w':=by
 obtain ⟨hl0,hl1,sc,hrun,_⟩:=check_ok hc
 have hmk:∀ w:World,(Instr.makeSlice 134 (.int .i64 t.length) (.int .i64 t.length)).run Tryz.prog w = .ok (.slice (some ⟨w.heap.size,0,none⟩) t.length t.length) (w.alloc (.cells (madeCells #[.int .u64 0,.int .u64 0] (t.length * 2)) 41)):=fun w=>by
  obtain ⟨i,hi,hz,hs,hb⟩:=info_parts (show (Tryz.prog.info? 41).map (fun i=>(i.zero,i.size,i.bytes)) = some (some (.agg #[.int .u64 0,.int .u64 0]),2,16) by kernel_rfl)
  have hr:=run_make (P:=Tryz.prog) w 134 41 i _ Tryz.underlying134 hi hz .i64 .i64 t.length t.length (by omega) (Int.le_refl _) (by rw [hb];omega) (by omega)
  rw [hs] at hr
  simpa [Value.cells] using hr
 have hq:=check_any w (some ⟨b,o,none⟩) cap (.inr ⟨b,o,rfl,h⟩)
 rw [hc] at hq
 have hbd:=Lib.hid (run_bounds t 0 _ sc hrun)
 replace hc:=Lib.hid hc
 clear hrun
 go_enter Tryz.func99,Tryz.ntmps99
 go_wp2_with fail
 refine hq.mono ?_
 rintro e w1 ⟨rfl,hx1⟩
 clear hq
 go_wp2_with fail
 have hx0:Ext w (w1.alloc (.cells (madeCells #[.int .u64 0,.int .u64 0] (t.length * 2)) 41)):=hx1.alloc _
 have hloop0:Hid (VsLoop w w1.heap.size t 0 (w1.alloc (.cells (madeCells #[.int .u64 0,.int .u64 0] (t.length * 2)) 41))):=Lib.hid ⟨_,hx0,setsNew w1 t.length _ rfl,fun j hj=>by omega,fun j _=>rfl⟩
 have hge:=hx1.size
 clear hx0 hx1
 generalize w1.alloc (.cells (madeCells #[.int .u64 0,.int .u64 0] (t.length * 2)) 41) = w2 at *
 generalize w1.heap.size = g at *
 go_loopw [14] (fun i wr=>∃ k:Nat,k≤t.length∧i = .int .i64 k∧Hid (VsLoop w g t k wr))
  (fun i _=>t.length - (intOf i).toNat)
 case atStart=>exact ⟨0,Nat.zero_le _,rfl,hloop0⟩
 case round =>
  clear hloop0
  obtain ⟨k,hk,rfl,hI⟩:=hrel
  obtain ⟨f,hX,hG,h1,h2⟩:=hI.out
  clear hI
  by_cases hlt:k < t.length
  ·have dlt:decide ((k:Int) < (t.length:Int)) = true:=decide_eq_true (by omega)
   obtain ⟨n0,n1,n2⟩:=(h.ext hX).node hlt
   have hbk:=hbd.out k hlt
   have hy:Hid (t[k]? = some t[k]):=Lib.hid (List.getElem?_eq_getElem hlt)
   generalize t[k] = x at *
   obtain ⟨xl,xr,xv⟩:=x
   simp only [Nat.zero_add] at n0 n1 n2 hbk
   have hbox:=heap_alloc_new wr (.cells #[.int .i64 xl,.int .i64 xr,.int .i64 xv] 106)
   have hx1:Ext wr (wr.alloc (.cells #[.int .i64 xl,.int .i64 xr,.int .i64 xv] 106)):=(Ext.refl wr).alloc _
   have hX3:=Lib.hid (hX.trans hx1)
   have hG3:=Lib.hid (hG.ext hx1)
   obtain ⟨b0,b1,b2⟩:=box3 hbox
   replace h1:=Lib.hid h1
   replace h2:=Lib.hid h2
   clear hG hX hbox hx1
   go_wp2_with fail
   generalize wr.alloc (.cells #[.int .i64 xl,.int .i64 xr,.int .i64 xv] 106) = w3 at *
   generalize wr.heap.size = px at *
   refine (isLeaf_any ⟨xl,xr,xv⟩ w3).mono ?_
   rintro e w4 ⟨rfl,hx4⟩
   have hG4:=Lib.hid (hG3.out.ext hx4)
   have hX4:=Lib.hid (hX3.out.trans hx4)
   have c0:=hx4.cell b0
   have c1:=hx4.cell b1
   have c2:=hx4.cell b2
   clear b0 b1 b2 n0 n1 n2 hG3 hX3 hx4
   have hgk0:(0:Int)≤k:=by omega
   cases hlf:leafB ⟨xl,xr,xv⟩
   ·obtain ⟨_,l0,l1,r0,r1,hne⟩:=hbk hlf
    clear hbk
    obtain ⟨ln,rfl⟩:∃ n:Nat,xl = n:=⟨xl.toNat,by omega⟩
    obtain ⟨rn,rfl⟩:∃ n:Nat,xr = n:=⟨xr.toNat,by omega⟩
    have q0:(0:Int)≤ln:=by omega
    have q1:(ln:Int) < t.length:=by omega
    have q2:(0:Int)≤rn:=by omega
    have q3:(rn:Int) < t.length:=by omega
    have q4:(k:Int) < t.length:=by omega
    have hm:Hid (IsBel t k (f ln ||| f rn)):=Lib.hid (isBel_node hc.out hy.out hlf rfl rfl (h1.out ln (by omega)) (h1.out rn (by omega)))
    have hGd:=hG4.out.same (w':=w4.drew) rfl
    obtain ⟨⟨s1,s2⟩,_⟩:=hGd.cell (j:=ln) (by omega)
    obtain ⟨⟨s3,s4⟩,_⟩:=hGd.cell (j:=rn) (by omega)
    have d0:w4.drew.cell? ⟨px,0,none⟩ = some (.int .i64 ln):=c0
    have d1:w4.drew.cell? ⟨px,1,none⟩ = some (.int .i64 rn):=c1
    generalize hfa:f ln = fa at *
    generalize hfb:f rn = fb at *
    have hun:=fun W=>union_agg' fa fb W
    clear hlf
    replace hGd:=Lib.hid hGd
    have hXd:=Lib.hid hX4.out.drew
    clear c0 c1 c2
    go_wp2_with fail
    (refine wp_region_held_drew (S:=(fun W=>(W.cell? ⟨px,0,none⟩ = some (.int .i64 ln)∧W.cell? ⟨px,1,none⟩ = some (.int .i64 rn))∧(W.cell? ⟨g,ln * 2,none⟩ = some (.int .u64 (lo fa))∧W.cell? ⟨g,ln * 2+1,none⟩ = some (.int .u64 (hi fa)))∧W.cell? ⟨g,rn * 2,none⟩ = some (.int .u64 (lo fb))∧W.cell? ⟨g,rn * 2+1,none⟩ = some (.int .u64 (hi fb)))) (by kernel_rfl) ?_ (fun hHeld=>?_))
    ·exact ⟨⟨d0,d1⟩,⟨s1,s2⟩,s3,s4⟩
    (refine takeL (i:=0) (v:=?_) rfl (by kernel_rfl) (by kernel_rfl) (by kernel_rfl) (fun _ _ _ h=>h) (Or.inl ⟨by rfl,?_⟩) (by assumption) ?_)
    rotate_left
    ·(intro w hSw;(try dsimp only at hSw);go_simp;first | done | with_reducible rfl)
    (try simp only [Act.put,List.setIfInBounds_toArray,List.set_cons_zero,List.set_cons_succ])
    (refine takeL (i:=1) (v:=?_) rfl (by kernel_rfl) (by kernel_rfl) (by kernel_rfl) (fun _ _ _ h=>h) (Or.inl ⟨by rfl,?_⟩) (by assumption) ?_)
    rotate_left
    ·(intro w hSw;(try dsimp only at hSw);go_simp;first | done | with_reducible rfl)
    (try simp only [Act.put,List.setIfInBounds_toArray,List.set_cons_zero,List.set_cons_succ])
    (refine takeL (i:=2) (v:=?_) rfl (by kernel_rfl) (by kernel_rfl) (by kernel_rfl) (fun _ _ _ h=>h) (Or.inl ⟨by rfl,?_⟩) (by assumption) ?_)
    rotate_left
    ·(intro w hSw;(try dsimp only at hSw);go_simp;first | done | with_reducible rfl)
    (try simp only [Act.put,List.setIfInBounds_toArray,List.set_cons_zero,List.set_cons_succ])
    (refine takeL (i:=3) (v:=?_) rfl (by kernel_rfl) (by kernel_rfl) (by kernel_rfl) (fun _ _ _ h=>h) (Or.inl ⟨by rfl,?_⟩) (by assumption) ?_)
    rotate_left
    ·(intro w hSw;(try dsimp only at hSw);go_simp;first | done | with_reducible rfl)
    (try simp only [Act.put,List.setIfInBounds_toArray,List.set_cons_zero,List.set_cons_succ])
    (refine takeL (i:=4) (v:=?_) rfl (by kernel_rfl) (by kernel_rfl) (by kernel_rfl) (fun _ _ _ h=>h) (Or.inl ⟨by rfl,?_⟩) (by assumption) ?_)
    rotate_left
    ·(intro w hSw;(try dsimp only at hSw);go_simp;first | done | with_reducible rfl)
    (try simp only [Act.put,List.setIfInBounds_toArray,List.set_cons_zero,List.set_cons_succ])
    (refine takeL (i:=5) (v:=?_) rfl (by kernel_rfl) (by kernel_rfl) (by kernel_rfl) (fun _ _ _ h=>h) (Or.inl ⟨by rfl,?_⟩) (by assumption) ?_)
    rotate_left
    ·(intro w hSw;(try dsimp only at hSw);go_simp;first | done | with_reducible rfl)
    (try simp only [Act.put,List.setIfInBounds_toArray,List.set_cons_zero,List.set_cons_succ])
    (refine takeL (i:=6) (v:=?_) rfl (by kernel_rfl) (by kernel_rfl) (by kernel_rfl) (fun _ _ _ h=>h) (Or.inl ⟨by rfl,?_⟩) (by assumption) ?_)
    rotate_left
    ·(intro w hSw;(try dsimp only at hSw);go_simp;first | done | with_reducible rfl)
    (try simp only [Act.put,List.setIfInBounds_toArray,List.set_cons_zero,List.set_cons_succ])
    (refine takeL (i:=7) (v:=?_) rfl (by kernel_rfl) (by kernel_rfl) (by kernel_rfl) (fun _ _ _ h=>h) (Or.inl ⟨by rfl,?_⟩) (by assumption) ?_)
    rotate_left
    ·(intro w hSw;(try dsimp only at hSw);go_simp;first | done | with_reducible rfl)
    (try simp only [Act.put,List.setIfInBounds_toArray,List.set_cons_zero,List.set_cons_succ])
    (refine takeL (i:=8) (v:=?_) rfl (by kernel_rfl) (by kernel_rfl) (by kernel_rfl) (fun _ _ _ h=>h) (Or.inl ⟨by rfl,?_⟩) (by assumption) ?_)
    rotate_left
    ·(intro w hSw;(try dsimp only at hSw);go_simp;first | done | with_reducible rfl)
    (try simp only [Act.put,List.setIfInBounds_toArray,List.set_cons_zero,List.set_cons_succ])
    (refine takeL (i:=9) (v:=?_) rfl (by kernel_rfl) (by kernel_rfl) (by kernel_rfl) (fun _ _ _ h=>h) (Or.inl ⟨by rfl,?_⟩) (by assumption) ?_)
    rotate_left
    ·(intro w hSw;(try dsimp only at hSw);go_simp;first | done | with_reducible rfl)
    (try simp only [Act.put,List.setIfInBounds_toArray,List.set_cons_zero,List.set_cons_succ])
    (refine takeL (i:=10) (v:=?_) rfl (by kernel_rfl) (by kernel_rfl) (by kernel_rfl) (fun _ _ _ h=>h) (Or.inl ⟨by rfl,?_⟩) (by assumption) ?_)
    rotate_left
    ·(intro w hSw;(try dsimp only at hSw);go_simp;first | done | with_reducible rfl)
    (try simp only [Act.put,List.setIfInBounds_toArray,List.set_cons_zero,List.set_cons_succ])
    (refine takeL (i:=11) (v:=?_) rfl (by kernel_rfl) (by kernel_rfl) (by kernel_rfl) (fun _ _ _ h=>h) (Or.inl ⟨by rfl,?_⟩) (by assumption) ?_)
    rotate_left
    ·(intro w hSw;(try dsimp only at hSw);go_simp;first | done | with_reducible rfl)
    (try simp only [Act.put,List.setIfInBounds_toArray,List.set_cons_zero,List.set_cons_succ])
    (refine wpAnyH_ready (rs:=[12]) (by kernel_rfl) (by simp) ?_)
    (refine consL rfl (fun K hK=>?_))
    ((rw [if_pos (by rfl)]);go_simp;(go_at_call 138);refine (hun _).mono ?_;rintro e w6 ⟨rfl,hx6⟩;refine hK.out _ _ ⟨⟨hx6.cell d0,hx6.cell d1⟩,⟨hx6.cell s1,hx6.cell s2⟩,hx6.cell s3,hx6.cell s4⟩ (fun hHeld=>?_))
    (clear hK K)
    (try simp only [Act.put,List.setIfInBounds_toArray,List.set_cons_zero,List.set_cons_succ])
    have hG6:=hGd.out.ext hx6
    have hX6:=Lib.hid (hXd.out.trans hx6)
    obtain ⟨⟨z1,z2⟩,z3,z4⟩:=hG6.cell hlt
    have hnl:ln≠k:=by omega
    have hnr:rn≠k:=by omega
    have hgp:g≠px:=fun e=>by
     obtain ⟨c,e1,e2,e3⟩:=hG6
     have d:=hx6.cell d0
     have:=(e3 k hlt).1
     rw [←e] at d
     have d':=(e3 0 (by omega)).1
     rw [World.cell?,e1] at d
     simp at d
     rw [Nat.zero_mul] at d'
     rw [d'] at d;cases d
    (refine takeL (i:=13) (v:=?_) rfl (by kernel_rfl) (by kernel_rfl) (by kernel_rfl) (fun _ _ _ h=>h) (Or.inl ⟨by rfl,?_⟩) (by assumption) ?_)
    rotate_left
    ·(intro w hSw;(try dsimp only at hSw);go_simp;first | done | with_reducible rfl)
    (try simp only [Act.put,List.setIfInBounds_toArray,List.set_cons_zero,List.set_cons_succ])
    have hend:=Lib.hid (VsLoop.round (wr:=w6) hX6.out hG6 h1.out h2.out hge hm.out)
    have hst:Hid (∀ (v1 v2:Value),(fun W:World=>(W.cell? ⟨px,0,none⟩ = some (.int .i64 ln)∧W.cell? ⟨px,1,none⟩ = some (.int .i64 rn))∧(W.cell? ⟨g,ln * 2,none⟩ = some (.int .u64 (lo fa))∧W.cell? ⟨g,ln * 2+1,none⟩ = some (.int .u64 (hi fa)))∧W.cell? ⟨g,rn * 2,none⟩ = some (.int .u64 (lo fb))∧W.cell? ⟨g,rn * 2+1,none⟩ = some (.int .u64 (hi fb))) ((w6.setCell ⟨g,k * 2,none⟩ v1).setCell ⟨g,k * 2+1,none⟩ v2)):=Lib.hid fun v1 v2 =>
     ⟨⟨cell_two (hx6.cell d0) (by simp [hgp]) (by simp [hgp]),cell_two (hx6.cell d1) (by simp [hgp]) (by simp [hgp])⟩,⟨cell_two (hx6.cell s1) (by simp <;> omega) (by simp <;> omega),cell_two (hx6.cell s2) (by simp <;> omega) (by simp <;> omega)⟩,cell_two (hx6.cell s3) (by simp <;> omega) (by simp <;> omega),cell_two (hx6.cell s4) (by simp <;> omega) (by simp <;> omega)⟩
    (refine wpAnyH_ready (rs:=[14]) (by kernel_rfl) (by simp) ?_)
    (refine consL rfl (fun K hK=>?_))
    ((rw [if_pos (by rfl)]);go_simp;refine hK.out _ _ (hst.out _ _) (fun hHeld=>?_))
    (clear hK K)
    (try simp only [Act.put,List.setIfInBounds_toArray,List.set_cons_zero,List.set_cons_succ])
    (refine wpAnyH_done (by kernel_rfl) ?_ _)
    go_wp2_with fail
    go_roundw
    case rel=>exact ⟨k+1,by omega,by go_num,hend⟩
    case measure=>simp [intOf];omega
   ·clear hbk
    have hm:Hid (IsBel t k (withS 0 xv)):=Lib.hid (isBel_leaf hc.out hy.out hlf)
    have q4:(k:Int) < t.length:=by omega
    have hGd:=hG4.out.same (w':=w4.drew) rfl
    obtain ⟨⟨s1,s2⟩,_⟩:=hGd.cell hlt
    rw [h2.out k (Nat.le_refl _)] at s1 s2
    have d2:w4.drew.cell? ⟨px,2,none⟩ = some (.int .i64 xv):=c2
    have hun:=fun W=>with_agg 0 xv W
    clear hlf
    replace hGd:=Lib.hid hGd
    have hXd:=Lib.hid hX4.out.drew
    clear c0 c1 c2
    go_wp2_with fail
    (refine wp_region_held_drew (S:=(fun _=>True)) (by kernel_rfl) ?_ (fun hHeld=>?_))
    ·trivial
    have hT:True:=trivial
    (refine takeL (i:=0) (v:=?_) rfl (by kernel_rfl) (by kernel_rfl) (by kernel_rfl) (fun _ _ _ h=>h) (Or.inl ⟨by rfl,?_⟩) (by assumption) ?_)
    rotate_left
    ·(intro w hSw;(try dsimp only at hSw);go_simp;first | done | with_reducible rfl)
    (try simp only [Act.put,List.setIfInBounds_toArray,List.set_cons_zero,List.set_cons_succ])
    (refine takeL (i:=1) (v:=?_) rfl (by kernel_rfl) (by kernel_rfl) (by kernel_rfl) (fun _ _ _ h=>h) (Or.inl ⟨by rfl,?_⟩) (by assumption) ?_)
    rotate_left
    ·(intro w hSw;(try dsimp only at hSw);go_simp;first | done | with_reducible rfl)
    (try simp only [Act.put,List.setIfInBounds_toArray,List.set_cons_zero,List.set_cons_succ])
    (refine takeL (i:=2) (v:=?_) rfl (by kernel_rfl) (by kernel_rfl) (by kernel_rfl) (fun _ _ _ h=>h) (Or.inl ⟨by rfl,?_⟩) (by assumption) ?_)
    rotate_left
    ·(intro w hSw;(try dsimp only at hSw);go_simp;first | done | with_reducible rfl)
    (try simp only [Act.put,List.setIfInBounds_toArray,List.set_cons_zero,List.set_cons_succ])
    (refine takeL (i:=3) (v:=?_) rfl (by kernel_rfl) (by kernel_rfl) (by kernel_rfl) (fun _ _ _ h=>h) (Or.inl ⟨by rfl,?_⟩) (by assumption) ?_)
    rotate_left
    ·(intro w hSw;(try dsimp only at hSw);go_simp;first | done | with_reducible rfl)
    (try simp only [Act.put,List.setIfInBounds_toArray,List.set_cons_zero,List.set_cons_succ])
    (refine takeL (i:=4) (v:=?_) rfl (by kernel_rfl) (by kernel_rfl) (by kernel_rfl) (fun _ _ _ h=>h) (Or.inl ⟨by rfl,?_⟩) (by assumption) ?_)
    rotate_left
    ·(intro w hSw;(try dsimp only at hSw);go_simp;first | done | with_reducible rfl)
    (try simp only [Act.put,List.setIfInBounds_toArray,List.set_cons_zero,List.set_cons_succ])
    (refine takeL (i:=6) (v:=?_) rfl (by kernel_rfl) (by kernel_rfl) (by kernel_rfl) (fun _ _ _ h=>h) (Or.inl ⟨by rfl,?_⟩) (by assumption) ?_)
    rotate_left
    ·(intro w hSw;(try dsimp only at hSw);go_simp;first | done | with_reducible rfl)
    (try simp only [Act.put,List.setIfInBounds_toArray,List.set_cons_zero,List.set_cons_succ])
    (refine wpAnyH_ready (rs:=[5,7]) (by kernel_rfl) (by simp) ?_)
    (refine consL2 rfl rfl (fun K hK=>?_) (fun K hK=>?_))
    (rw [if_pos (by rfl)])
    go_simp
    (refine hK.out _ _ trivial (fun hT=>?_))
    (clear hT hK K)
    (try simp only [Act.put,List.setIfInBounds_toArray,List.set_cons_zero,List.set_cons_succ])
    (refine wpAnyH_ready (rs:=[7]) (by kernel_rfl) (by simp) ?_)
    (refine consL rfl (fun K hK=>?_))
    (rw [if_pos (by rfl)])
    go_simp
    (refine hK.out _ _ trivial (fun hT=>?_))
    (clear hT hK K)
    (try simp only [Act.put,List.setIfInBounds_toArray,List.set_cons_zero,List.set_cons_succ])
    refine ?hRest1
    rotate_left
    (rw [if_pos (by rfl)])
    go_simp
    (refine hK.out _ _ trivial (fun hT=>?_))
    (clear hT hK K)
    (try simp only [Act.put,List.setIfInBounds_toArray,List.set_cons_zero,List.set_cons_succ])
    (refine wpAnyH_ready (rs:=[5]) (by kernel_rfl) (by simp) ?_)
    (refine consL rfl (fun K hK=>?_))
    (rw [if_pos (by rfl)])
    go_simp
    (refine hK.out _ _ trivial (fun hT=>?_))
    (clear hT hK K)
    (try simp only [Act.put,List.setIfInBounds_toArray,List.set_cons_zero,List.set_cons_succ])
    exact ?hRest1
    (refine wpAnyH_ready (rs:=[8]) (by kernel_rfl) (by simp) ?_)
    (refine consL rfl (fun K hK=>?_))
    ((rw [if_pos (by rfl)]);go_simp;(go_at_call 113);refine (hun _).mono ?_;rintro e w6 ⟨rfl,hx6⟩;refine hK.out _ _ trivial (fun hT=>?_))
    (clear hK K)
    (try simp only [Act.put,List.setIfInBounds_toArray,List.set_cons_zero,List.set_cons_succ])
    have hG6:=hGd.out.ext hx6
    have hX6:=Lib.hid (hXd.out.trans hx6)
    obtain ⟨⟨z1,z2⟩,z3,z4⟩:=hG6.cell hlt
    (refine takeL (i:=9) (v:=?_) rfl (by kernel_rfl) (by kernel_rfl) (by kernel_rfl) (fun _ _ _ h=>h) (Or.inl ⟨by rfl,?_⟩) (by assumption) ?_)
    rotate_left
    ·(intro w hSw;(try dsimp only at hSw);go_simp;first | done | with_reducible rfl)
    (try simp only [Act.put,List.setIfInBounds_toArray,List.set_cons_zero,List.set_cons_succ])
    have hend:=Lib.hid (VsLoop.round (wr:=w6) hX6.out hG6 h1.out h2.out hge hm.out)
    clear hT
    (refine wpAnyH_ready (rs:=[10]) (by kernel_rfl) (by simp) ?_)
    (refine consL rfl (fun K hK=>?_))
    ((rw [if_pos (by rfl)]);go_simp;refine hK.out _ _ trivial (fun hT=>?_))
    (clear hK K)
    (try simp only [Act.put,List.setIfInBounds_toArray,List.set_cons_zero,List.set_cons_succ])
    (refine wpAnyH_done (by kernel_rfl) ?_ _)
    go_wp2_with fail
    go_roundw
    case rel=>exact ⟨k+1,by omega,by go_num,hend⟩
    case measure=>simp [intOf];omega
  ·have dlt:decide ((k:Int) < (t.length:Int)) = false:=decide_eq_false (by omega)
   obtain rfl:k = t.length:=by omega
   replace hG:=Lib.hid hG
   replace hX:=Lib.hid hX
   replace h1:=Lib.hid h1
   go_wp2_with fail
   go_ret
   exact ⟨g,f,hge,rfl,hG.out,h1.out,hX.out⟩
end Go.Proofs.YtmnjakejhbpkoaaGreatDoor
namespace Go.Proofs.YtmnjakejhbpkoaaGreatDoor
open Go Go.RowKit Go.Shelf
set_option maxRecDepth 100000 in
theorem setEqD (x y a b:Int) (w:World):(Op.equalIn 10000 41 (.agg #[.int .u64 x,.int .u64 y]) (.agg #[.int .u64 a,.int .u64 b])).run Tryz.prog w = .ok (decide (x = a) && decide (y = b)) w:=by
 obtain ⟨i0,hi0,_,_,_⟩:=info_parts (show (Tryz.prog.info? 39).map (fun i=>(i.zero,i.size,i.bytes)) = some (some (.int .u64 0),1,8) by kernel_rfl)
 rw [run_equalIn_array w 9999 _ _ Tryz.underlying41 hi0]
 have hc:Tryz.prog.cellsOf 39 = 1:=by kernel_rfl
 rw [hc,show List.range 2 = [0,1] from rfl]
 simp [Op.eqItems,go_sem,Tryz.underlying39]
 by_cases h1:x = a <;> by_cases h2:y = b <;> simp [h1,h2]
set_option maxRecDepth 100000 in
set_option maxHeartbeats 1000000 in
theorem vall_any {t:List VN} (w:World) (b o cap:Nat) (h:TreeAt w b o t) (hc:checkF t = 0) :
  Calls Tryz.prog 150 #[.slice (some ⟨b,o,none⟩) t.length cap] w fun e w'=>∃ m,e = .returned (.agg #[.int .u64 (lo m),.int .u64 (hi m)])∧IsBel t (t.length - 1) m∧Below w.heap.size w w':=by
 obtain ⟨hl0,hl1,_⟩:=check_ok hc
 obtain ⟨n,hn⟩:∃ n,t.length = n+1:=⟨t.length - 1,by omega⟩
 have d0:((t.length:Int) == 0) = false:=beq_eq_false_iff_ne.2 (by omega)
 have hwr:IntKind.i64.wrap ((t.length:Int) - 1) = (n:Int):=by rw [hn];rw [IntWalk.i64_in _ (by omega)];omega
 have g0:(0:Int)≤n:=by omega
 have g1:(n:Int) < t.length:=by omega
 have hb1:=(Below.refl w.heap.size w).alloc (Nat.le_refl _) (.cells #[.int .u64 0,.int .u64 0] 41)
 have hbx:=heap_alloc_new w (.cells #[.int .u64 0,.int .u64 0] 41)
 have q:=vvars_any (cap:=cap) _ b o (h.below hb1) hc
 replace hb1:=Lib.hid hb1
 replace hbx:=Lib.hid hbx
 rw [show t.length - 1 = n by omega]
 replace hn:=Lib.hid hn
 go_enter Tryz.func150,Tryz.ntmps150
 go_wp2_with fail
 generalize w.alloc (.cells #[.int .u64 0,.int .u64 0] 41) = w1 at *
 refine q.mono ?_
 rintro e w2 ⟨g,f,hg,rfl,hS,hf,hx2⟩
 obtain ⟨⟨s1,s2⟩,_⟩:=hS.cell (j:=n) (by have:=hn.out;omega)
 have hm:=Lib.hid (hf n (by have:=hn.out;omega))
 have hblk:w2.heap[w.heap.size]? = _:=(hx2.below.block _ (Array.getElem?_eq_some_iff.1 hbx.out).1).trans hbx.out
 obtain ⟨y0,y1⟩:=pbox_cells hblk
 have z0:w2.frozen? ⟨w.heap.size,0,none⟩ = false:=by simp [World.frozen?,hblk]
 have z1:w2.frozen? ⟨w.heap.size,1,none⟩ = false:=by simp [World.frozen?,hblk]
 generalize hx0:lo (f n) = x0 at *
 generalize hx1:hi (f n) = x1 at *
 obtain ⟨r0,r1⟩:=pbox_cells (heap_set2 hblk (.int .u64 x0) (.int .u64 x1))
 have hBo:Below w.heap.size w ((w2.setCell ⟨w.heap.size,0,none⟩ (.int .u64 x0)).setCell ⟨w.heap.size,1,none⟩ (.int .u64 x1)):=((hb1.out.trans (hx2.below.mono hb1.out.size)).setCell (Nat.le_refl _) _).setCell (Nat.le_refl _) _
 replace hf:=Lib.hid hf
 replace hblk:=Lib.hid hblk
 replace hx2:=Lib.hid hx2
 replace hS:=Lib.hid hS
 replace hBo:=Lib.hid hBo
 clear q
 go_wp2_with fail
 exact bodyPost_ret (v:=.agg #[.int .u64 x0,.int .u64 x1]) (by simp [results,Tryz.results150,go_sem,r0,r1]) rfl ⟨f n,by rw [hx0,hx1],hm.out,hBo.out⟩
theorem bel_root {t:List VN} (hc:checkF t = 0) (v:Int):L.Bel t (t.length - 1) v↔VarOf t v :=
 ⟨fun ⟨u,y,h1,h2,h3,_⟩=>⟨u,y,h1,h2,h3⟩,fun ⟨u,y,h1,h2,h3⟩=>⟨u,y,h1,h2,h3,L.Und.root hc t.length u (List.getElem?_eq_some_iff.1 h1).1 (by omega)⟩⟩
set_option maxRecDepth 100000 in
set_option maxHeartbeats 2000000 in
theorem vsame_any {t u:List VN} (w:World) (ba ca:Option Addr) (c c':Nat) (ht:t = []∨∃ b o,ba = some ⟨b,o,none⟩∧TreeAt w b o t) (hu:u = []∨∃ b o,ca = some ⟨b,o,none⟩∧TreeAt w b o u) (hl:t.length≤1048576) :
  Calls Tryz.prog 25 #[.slice ba t.length c,.slice ca u.length c'] w fun e w'=>e = .returned (.bool (decide (t = u)))∧Ext w w':=by
 generalize hD:decide (t = u) = D at *
 replace hD:=Lib.hid hD
 by_cases hlen:t.length = u.length
 ·have d0:((t.length:Int) != (u.length:Int)) = false:=by simp [hlen]
  have hu':u.length = t.length:=hlen.symm
  replace hlen:=Lib.hid hlen
  rw [hu']
  have dn:((t.length:Int) != (t.length:Int)) = false:=by simp
  clear d0
  replace hu':=Lib.hid hu'
  go_enter Tryz.func25,Tryz.ntmps25
  go_wp2_with fail
  have h0:Hid (Ext w w∧t.take 0 = u.take 0):=Lib.hid ⟨Ext.refl w,rfl⟩
  go_loopw [5] (fun i wr=>∃ k:Nat,k≤t.length∧i = .int .i64 (k:Nat)∧Hid (Ext w wr∧t.take k = u.take k)) (fun i _=>t.length - (intOf i).toNat)
  case atStart=>exact ⟨0,Nat.zero_le _,rfl,h0⟩
  case round =>
   clear h0
   obtain ⟨k,hk,rfl,hI⟩:=hrel
   by_cases hlt:k < t.length
   ·have dlt:decide ((k:Int) < (t.length:Int)) = true:=decide_eq_true (by omega)
    have hlu:k < u.length:=by have:=hlen.out;omega
    obtain ⟨b,o,rfl,hta⟩:=ht.resolve_left (fun e=>by rw [e] at hlt;simp at hlt)
    obtain ⟨b',o',rfl,hua⟩:=hu.resolve_left (fun e=>by rw [e] at hlu;simp at hlu)
    obtain ⟨n0,n1,n2⟩:=(hta.ext hI.out.1).node hlt
    obtain ⟨m0,m1,m2⟩:=(hua.ext hI.out.1).node hlu
    have htk:t.take (k+1) = t.take k++[t[k]]:=by rw [List.take_add_one,List.getElem?_eq_getElem hlt];rfl
    have huk:u.take (k+1) = u.take k++[u[k]]:=by rw [List.take_add_one,List.getElem?_eq_getElem hlu];rfl
    have hne:t[k]≠u[k]→¬ t = u:=fun h e=>by subst e;exact h rfl
    generalize t[k] = x at *
    generalize u[k] = y at *
    obtain ⟨x1,x2,x3⟩:=x
    obtain ⟨y1,y2,y3⟩:=y
    simp only at n0 n1 n2 m0 m1 m2
    have g0:(0:Int)≤k:=by omega
    have g1:(k:Int) < t.length:=by omega
    have hv:∀ W,(Op.equalIn 10000 106 (.agg #[.int .i64 x1,.int .i64 x2,.int .i64 x3]) (.agg #[.int .i64 y1,.int .i64 y2,.int .i64 y3])).run Tryz.prog W = .ok (decide (x1 = y1) && decide (x2 = y2) && decide (x3 = y3)) W:=fun W=>vnEq x1 x2 x3 y1 y2 y3 W
    have F1:=Lib.hid fun (W:World) (hW:Ext wr W)=>And.intro (And.intro (hW.cell n0) (And.intro (hW.cell n1) (hW.cell n2))) (And.intro (hW.cell m0) (And.intro (hW.cell m1) (hW.cell m2)))
    replace htk:=Lib.hid htk
    replace huk:=Lib.hid huk
    clear n0 n1 n2 m0 m1 m2
    cases he:(decide (x1 = y1) && decide (x2 = y2) && decide (x3 = y3))
    ·have hDf:D = false:=hD.out.symm.trans (decide_eq_false (hne fun e=>by
      cases e
      simp at he))
     rw [he] at hv
     replace he:=Lib.hid he
     replace hDf:=Lib.hid hDf
     clear hne
     go_wp2_with fail
     (refine wp_region_below (by kernel_rfl) (by kernel_rfl) ?_
      repeat (refine wpQuiet_step (fun K hK=>?_)
              go_simp
              first
               | (refine hK _ ?_;clear hK K)
               | (replace hK:=Lib.hid hK
                  apply Exists.intro
                  refine ⟨fun wq hq=>?_,hK.out _ ?_⟩
                  ·(obtain ⟨⟨f1,f2,f3⟩,f4,f5,f6⟩:=F1.out wq hq)
                   go_simp
                   first
                    | done
                    | rfl
                    | exact ⟨rfl,rfl⟩
                    | fail
                  clear hK K))
      refine wpQuiet_nil ?_)
     intro w5 hx5
     go_wp2_with fail
     go_ret
     exact ⟨by rw [hDf.out];rfl,hI.out.1.trans hx5⟩
    ·rw [he] at hv
     simp only [Bool.and_eq_true,decide_eq_true_eq] at he
     obtain ⟨⟨rfl,rfl⟩,rfl⟩:=he
     clear hne
     go_wp2_with fail
     (refine wp_region_below (by kernel_rfl) (by kernel_rfl) ?_
      repeat (refine wpQuiet_step (fun K hK=>?_)
              go_simp
              first
               | (refine hK _ ?_;clear hK K)
               | (replace hK:=Lib.hid hK
                  apply Exists.intro
                  refine ⟨fun wq hq=>?_,hK.out _ ?_⟩
                  ·(obtain ⟨⟨f1,f2,f3⟩,f4,f5,f6⟩:=F1.out wq hq)
                   go_simp
                   first
                    | done
                    | rfl
                    | exact ⟨rfl,rfl⟩
                    | fail
                  clear hK K))
      refine wpQuiet_nil ?_)
     intro w5 hx5
     go_wp2_with fail
     go_roundw
     case rel=>exact ⟨k+1,by omega,by go_num,Lib.hid ⟨hI.out.1.trans hx5,by rw [htk.out,huk.out,hI.out.2]⟩⟩
     case measure=>simp [intOf];omega
   ·have dlt:decide ((k:Int) < (t.length:Int)) = false:=decide_eq_false (by omega)
    have hDt:=Lib.hid (hD.out.symm.trans (decide_eq_true (by
     have:=hI.out.2
     rwa [List.take_of_length_le (by omega),List.take_of_length_le (by have:=hlen.out;omega)] at this)))
    go_wp2_with fail
    go_ret
    exact ⟨by rw [hDt.out];rfl,hI.out.1⟩
 ·have d0:((t.length:Int) != (u.length:Int)) = true:=by simp;omega
  have hDf:D = false:=hD.out.symm.trans (decide_eq_false fun e=>hlen (by rw [e]))
  rw [hDf]
  clear hDf
  go_enter Tryz.func25,Tryz.ntmps25
  go_wp2_with fail
  go_ret
  exact ⟨rfl,Ext.refl w⟩
theorem tree_some {W:World} {t:List VN} {ba:Option Addr} (hc:checkF t = 0) (h:t = []∨∃ b o,ba = some ⟨b,o,none⟩∧TreeAt W b o t):∃ b o,ba = some ⟨b,o,none⟩∧TreeAt W b o t :=
 h.resolve_left (fun e=>by have:=(check_ok hc).1;rw [e] at this;simp at this)
end Go.Proofs.YtmnjakejhbpkoaaGreatDoor
