import Derived.Test.YtckhohpbokojdaaGreatDoorLQ5
set_option linter.unusedSimpArgs false
set_option linter.unusedVariables false
namespace Go.Proofs.YtckhohpbokojdaaGreatDoor
open Go Go.RowKit Go.Shelf
def InsI (l:List Nat) (m:Nat) (c:List Nat) (p:Nat):Prop:=c.Perm (l.take m)∧p < c.length∧(∀ i j,i < j→j < c.length→i≠p→j≠p→c.getD i 0≤c.getD j 0)∧∀ j,p < j→j < c.length→c.getD p 0≤c.getD j 0
theorem getD_set' (c:List Nat) (i j x:Nat):(c.set i x).getD j 0 = if i = j∧i < c.length then x else c.getD j 0:=by
 rw [List.getD_eq_getElem?_getD,List.getElem?_set]
 by_cases h:i = j
 ·rw [if_pos h]
  by_cases h2:i < c.length
  ·rw [if_pos h2,if_pos ⟨h,h2⟩];rfl
  ·rw [if_neg h2,if_neg (fun e=>h2 e.2),List.getD_eq_getElem?_getD,List.getElem?_eq_none (by omega)]
 ·rw [if_neg h,if_neg (fun e=>h e.1),←List.getD_eq_getElem?_getD]
theorem pw_getD {c:List Nat}:c.Pairwise (·≤·)↔∀ i j,i < j→j < c.length→c.getD i 0≤c.getD j 0:=by
 rw [List.pairwise_iff_getElem]
 constructor
 ·intro h i j hij hj
  have:=h i j (by omega) hj hij
  rw [List.getD_eq_getElem?_getD,List.getD_eq_getElem?_getD,List.getElem?_eq_getElem hj,List.getElem?_eq_getElem (show i < c.length by omega)]
  exact this
 ·intro h i j hi hj hij
  have:=h i j hij hj
  rw [List.getD_eq_getElem?_getD,List.getD_eq_getElem?_getD,List.getElem?_eq_getElem hj,List.getElem?_eq_getElem hi] at this
  exact this
theorem InsI.start {l c:List Nat} {k:Nat} (hk:k < l.length) (hp:c.Perm (l.take k)) (hs:c.Pairwise (·≤·)):InsI l (k+1) (c++[l[k]]) c.length:=by
 refine ⟨?_,by simp,fun i j hij hj hi' hj'=>?_,fun j h1 h2=>by simp at h2;omega⟩
 ·rw [List.take_succ_eq_append_getElem hk]
  exact hp.append_right _
 ·have hjl:j < c.length:=by simp at hj;omega
  rw [List.getD_eq_getElem?_getD,List.getD_eq_getElem?_getD,List.getElem?_append_left hjl,List.getElem?_append_left (by omega),←List.getD_eq_getElem?_getD,←List.getD_eq_getElem?_getD]
  exact pw_getD.1 hs i j hij hjl
theorem InsI.swap {l c:List Nat} {m q:Nat} (h:InsI l m c (q+1)) (hlt:c.getD (q+1) 0 < c.getD q 0):InsI l m ((c.set (q+1) (c.getD q 0)).set q (c.getD (q+1) 0)) q:=by
 obtain ⟨h1,h2,h3,h4⟩:=h
 have hq:q < c.length:=by omega
 have e1:c.getD q 0 = c[q]:=by rw [List.getD_eq_getElem?_getD,List.getElem?_eq_getElem hq];rfl
 have e2:c.getD (q+1) 0 = c[q+1]:=by rw [List.getD_eq_getElem?_getD,List.getElem?_eq_getElem h2];rfl
 have hg:∀ j,((c.set (q+1) (c.getD q 0)).set q (c.getD (q+1) 0)).getD j 0 = if j = q then c.getD (q+1) 0 else if j = q+1 then c.getD q 0 else c.getD j 0:=fun j=>by
  rw [getD_set',getD_set',List.length_set]
  by_cases a:j = q
  ·rw [if_pos a,if_pos ⟨a.symm,hq⟩]
  ·rw [if_neg a,if_neg (fun e=>a e.1.symm)]
   by_cases b:j = q+1
   ·rw [if_pos b,if_pos ⟨b.symm,h2⟩]
   ·rw [if_neg b,if_neg (fun e=>b e.1.symm)]
 refine ⟨?_,by simp;omega,fun i j hij hj hi' hj'=>?_,fun j hj1 hj2=>?_⟩
 ·rw [e1,e2]
  exact (List.set_set_perm h2 hq).trans h1
 ·rw [List.length_set,List.length_set] at hj
  rw [hg,hg,if_neg hi',if_neg hj']
  by_cases ei:i = q+1
  ·rw [if_pos ei,if_neg (by omega)]
   exact h3 q j (by omega) hj (by omega) (by omega)
  ·rw [if_neg ei]
   by_cases ej:j = q+1
   ·rw [if_pos ej]
    exact h3 i q (by omega) hq (by omega) (by omega)
   ·rw [if_neg ej]
    exact h3 i j hij hj (by omega) (by omega)
 ·rw [List.length_set,List.length_set] at hj2
  rw [hg,hg,if_pos rfl,if_neg (by omega)]
  by_cases ej:j = q+1
  ·rw [if_pos ej];omega
  ·rw [if_neg ej]
   exact h4 j (by omega) hj2
theorem InsI.stop {l c:List Nat} {m p:Nat} (h:InsI l m c p) (hs:p = 0∨c.getD (p - 1) 0≤c.getD p 0):c.Pairwise (·≤·):=by
 obtain ⟨h1,h2,h3,h4⟩:=h
 rw [pw_getD]
 intro i j hij hj
 by_cases ei:i = p
 ·subst ei;exact h4 j hij hj
 ·by_cases ej:j = p
  ·subst ej
   rcases hs with hs | hs
   ·omega
   ·by_cases e:i = j - 1
    ·rw [e];exact hs
    ·exact Nat.le_trans (h3 i (j - 1) (by omega) (by omega) ei (by omega)) hs
  ·exact h3 i j hij hj ei ej
theorem IRow.cellN {w0 V:World} {c:List Nat} {g n cap:Nat} (h:IRow w0 (castL c) (.slice (some ⟨g,0,none⟩) n cap) V) {p:Nat} (hp:p < c.length):V.cell? ⟨g,p,none⟩ = some (.int .i64 ((c.getD p 0:Nat):Int)):=by
 obtain ⟨_,_,e,hc⟩:=slI_castN h.slI
 obtain ⟨b,o,e2,_,h3⟩:=hc p hp
 simp only [Value.slice.injEq] at e
 rw [←e.1] at e2
 simp only [Option.some.injEq,Addr.mk.injEq] at e2
 rw [←e2.1,←e2.2.1,Nat.zero_add] at h3
 rw [h3,List.getD_eq_getElem?_getD,List.getElem?_eq_getElem hp];rfl
theorem IRow.set1 {w0 V:World} {c:List Nat} {g n cap:Nat} (h:IRow w0 (castL c) (.slice (some ⟨g,0,none⟩) n cap) V) (hn:n = (castL c).length) (p x:Nat):IRow w0 (castL (c.set p x)) (.slice (some ⟨g,0,none⟩) n cap) (V.setCell ⟨g,p,none⟩ (.int .i64 (x:Nat))):=by
 subst hn
 obtain ⟨-,hb,-⟩:=own_thaw h.2 p
 have h2:=own_cellset h.2 p (.int .i64 (x:Nat))
 refine ⟨h.1.setCell (p:=⟨g,p,none⟩) hb _,own_cast h2 (by simp [castL]) ?_⟩
 unfold castL
 simp [List.map_set,encZ]
theorem IRow.set2 {w0 V:World} {c:List Nat} {g n cap:Nat} (h:IRow w0 (castL c) (.slice (some ⟨g,0,none⟩) n cap) V) (hn:n = (castL c).length) (p q x y:Nat):IRow w0 (castL ((c.set p x).set q y)) (.slice (some ⟨g,0,none⟩) n cap) ((V.setCell ⟨g,p,none⟩ (.int .i64 (x:Nat))).setCell ⟨g,q,none⟩ (.int .i64 (y:Nat))):=by
 subst hn
 obtain ⟨-,hb,-⟩:=own_thaw h.2 p
 have h2:=own_cellset (own_cellset h.2 p (.int .i64 (x:Nat))) q (.int .i64 (y:Nat))
 refine ⟨(h.1.setCell (p:=⟨g,p,none⟩) hb _).setCell (p:=⟨g,q,none⟩) hb _,own_cast h2 (by simp [castL]) ?_⟩
 unfold castL
 simp [List.map_set,encZ]
set_option maxRecDepth 100000 in
set_option maxHeartbeats 8000000 in
theorem rsorted_any {l:List Nat} {lv:Value} {w:World} (hs:SlI w lv (castL l)) (hll:l.length≤1000000) :
  Calls Tryz.prog 92 #[lv] w fun e w'=>∃ v,e = .returned v∧IRow w (castL (L.sortN l)) v w':=by
 obtain ⟨ba,cp,rfl,hcs⟩:=slI_castN hs
 obtain ⟨i0,hi0,hz0,hz1,hz2⟩:=info_parts int_info
 replace hcs:=Lib.hid hcs
 clear hs
 go_enter Tryz.func92,Tryz.ntmps92
 go_wp2_with fail
 go_loopw [3,4] (fun vo i wr=>∃ k:Nat,k≤l.length∧i = .int .i64 (k:Nat)∧∃ c:List Nat,Hid (IRow w (castL c) vo wr)∧c.length = k∧Hid (c.Perm (l.take k))∧Hid (c.Pairwise (·≤·))) (fun _ i _=>l.length - (intOf i).toNat)
 case atStart=>exact ⟨0,Nat.zero_le _,rfl,[],Lib.hid (IRow.nil (Below.refl _ _)),rfl,Lib.hid (by simp),Lib.hid (by simp)⟩
 case round =>
  obtain ⟨k,hk',rfl,c,hro,hcl,hpm,hso⟩:=hrel
  by_cases hlt:k < l.length
  ·obtain ⟨b,o,rfl,hbl',hc⟩:=hcs.out k hlt
   have hst:=InsI.start hlt hpm.out hso.out
   rw [hcl] at hst
   generalize l[k] = i at *
   have hc2:=(hro.out.1.cell hbl').trans hc
   have g2:(0:Int)≤(k:Int):=by omega
   have g3:(k:Int) < (l.length:Int):=by omega
   obtain ⟨fb,fc,rfl⟩:=hro.out.shapeN
   replace hcl:=Lib.hid hcl
   replace hst:=Lib.hid hst
   rename World=>wr
   go_wp2_with (at_builtin;refine wpList_append_own _ rfl _ _ 25 rfl w.heap.size 3 i0 (.int .i64 0) 1 8 Tryz.underlying25 hi0 hz0 hz1 hz2 rfl (by decide) _ _ _ rfl (hro.out.2.alloc _) ⟨wr.heap.size,0,none⟩ 1 1 [.int .i64 (i:Nat)] rfl rfl (cell_one_at _ _ _ _ rfl) (by simp [Value.oneCell']) (by rw [castL_len,hcl.out];unfold maxLen;omega) (by rw [castL_len,hcl.out];omega) (by simp;have:=hro.out.1.size;omega) ?_;intro v4 w4 ho4 hg4 hzz;clear hzz)
   have hr4:=hro.out.snoc (ho4) hg4
   rw [show castL c++[(i:Int)] = castL (c++[i]) by rw [castL_app];rfl] at hr4
   obtain ⟨len5,hlen5⟩:∃ x,x = k+1:=⟨_,rfl⟩
   have hl5:(c++[i]).length = len5:=by rw [List.length_append,hcl.out,hlen5];rfl
   generalize c++[i] = c5 at *
   obtain ⟨g,cap,rfl⟩:∃ g cap,v4 = .slice (some ⟨g,0,none⟩) len5 cap:=by
    obtain ⟨_,⟨_,e⟩ | ⟨g,cap,cur,e,_⟩⟩:=hr4.2
    ·rw [castL_len,hl5] at e;omega
    ·exact ⟨g,cap,by rw [e,castL_len,hl5]⟩
   have hwk:IntKind.i64.wrap ((len5:Int) - 1) = (k:Int):=IntWalk.i64_in _ (by omega) |>.trans (by omega)
   replace hlen5:=Lib.hid hlen5
   replace hl5:=Lib.hid hl5
   replace hr4:=Lib.hid hr4
   clear ho4 hg4 hro hc hc2 hpm hso
   go_wp2_with fail
   go_simp
   apply_assumption
   go_wp2_with fail
   go_loopw [5] (fun i wr=>∃ p:Nat,i = .int .i64 (p:Nat)∧∃ c:List Nat,Hid (c.length = len5)∧Hid (IRow w (castL c) (.slice (some ⟨g,0,none⟩) len5 cap) wr)∧Hid (InsI l (k+1) c p)) (fun i _=>(intOf i).toNat)
   case atStart=>exact ⟨k,rfl,c5,hl5,hr4,hst⟩
   case round =>
    clear hr4 hst hwk hl5
    obtain ⟨p,rfl,c6,hl6,hr6,hI6⟩:=hrel
    have hpl:=hI6.out.2.1
    by_cases hp0:p = 0
    ·have hso:=Lib.hid (hI6.out.stop (.inl hp0))
     have hpm:=Lib.hid hI6.out.1
     subst hp0
     rename World=>wr
     have hrd:=Lib.hid (hr6.out.next (Below.refl wr.heap.size wr).drew)
     go_wp2_with fail
     (refine wp_region_held_drew (S:=(fun _=>True)) (by kernel_rfl) ?_ (fun hHeld=>?_))
     ·trivial
     (refine takeL (i:=0) (v:=?_) rfl (by kernel_rfl) (by kernel_rfl) (by kernel_rfl) (fun _ _ _ h=>h) (Or.inl ⟨by rfl,?_⟩) (by assumption) ?_)
     rotate_left
     ·(intro w hSw;(try dsimp only at hSw);go_simp;first | done | with_reducible rfl)
     (try simp only [Act.put,List.setIfInBounds_toArray,List.set_cons_zero,List.set_cons_succ])
     (refine takeL (i:=1) (v:=?_) rfl (by kernel_rfl) (by kernel_rfl) (by kernel_rfl) (fun _ _ _ h=>h) (Or.inl ⟨by rfl,?_⟩) (by assumption) ?_)
     rotate_left
     ·(intro w hSw;(try dsimp only at hSw);go_simp;first | done | with_reducible rfl)
     (try simp only [Act.put,List.setIfInBounds_toArray,List.set_cons_zero,List.set_cons_succ])
     (refine takeL (i:=2) (v:=?_) rfl (by kernel_rfl) (by kernel_rfl) (by kernel_rfl) (fun _ _ _ h=>h) (Or.inl ⟨by rfl,?_⟩) (by assumption) ?_)
     rotate_left
     ·(intro w hSw;(try dsimp only at hSw);go_simp;first | done | with_reducible rfl)
     (try simp only [Act.put,List.setIfInBounds_toArray,List.set_cons_zero,List.set_cons_succ])
     (refine takeL (i:=3) (v:=_) rfl (by kernel_rfl) (by kernel_rfl) (by kernel_rfl) (fun _ _ _ h=>h) (Or.inr ⟨by rfl,rfl⟩) (by assumption) ?_)
     (try simp only [Act.put,List.setIfInBounds_toArray,List.set_cons_zero,List.set_cons_succ])
     (refine takeL (i:=4) (v:=_) rfl (by kernel_rfl) (by kernel_rfl) (by kernel_rfl) (fun _ _ _ h=>h) (Or.inr ⟨by rfl,rfl⟩) (by assumption) ?_)
     (try simp only [Act.put,List.setIfInBounds_toArray,List.set_cons_zero,List.set_cons_succ])
     (refine takeL (i:=5) (v:=_) rfl (by kernel_rfl) (by kernel_rfl) (by kernel_rfl) (fun _ _ _ h=>h) (Or.inr ⟨by rfl,rfl⟩) (by assumption) ?_)
     (try simp only [Act.put,List.setIfInBounds_toArray,List.set_cons_zero,List.set_cons_succ])
     (refine takeL (i:=6) (v:=_) rfl (by kernel_rfl) (by kernel_rfl) (by kernel_rfl) (fun _ _ _ h=>h) (Or.inr ⟨by rfl,rfl⟩) (by assumption) ?_)
     (try simp only [Act.put,List.setIfInBounds_toArray,List.set_cons_zero,List.set_cons_succ])
     (refine takeL (i:=7) (v:=_) rfl (by kernel_rfl) (by kernel_rfl) (by kernel_rfl) (fun _ _ _ h=>h) (Or.inr ⟨by rfl,rfl⟩) (by assumption) ?_)
     (try simp only [Act.put,List.setIfInBounds_toArray,List.set_cons_zero,List.set_cons_succ])
     (refine takeL (i:=8) (v:=_) rfl (by kernel_rfl) (by kernel_rfl) (by kernel_rfl) (fun _ _ _ h=>h) (Or.inr ⟨by rfl,rfl⟩) (by assumption) ?_)
     (try simp only [Act.put,List.setIfInBounds_toArray,List.set_cons_zero,List.set_cons_succ])
     (refine takeL (i:=9) (v:=_) rfl (by kernel_rfl) (by kernel_rfl) (by kernel_rfl) (fun _ _ _ h=>h) (Or.inr ⟨by rfl,rfl⟩) (by assumption) ?_)
     (try simp only [Act.put,List.setIfInBounds_toArray,List.set_cons_zero,List.set_cons_succ])
     (refine takeL (i:=10) (v:=_) rfl (by kernel_rfl) (by kernel_rfl) (by kernel_rfl) (fun _ _ _ h=>h) (Or.inr ⟨by rfl,rfl⟩) (by assumption) ?_)
     (try simp only [Act.put,List.setIfInBounds_toArray,List.set_cons_zero,List.set_cons_succ])
     (refine takeL (i:=11) (v:=_) rfl (by kernel_rfl) (by kernel_rfl) (by kernel_rfl) (fun _ _ _ h=>h) (Or.inr ⟨by rfl,rfl⟩) (by assumption) ?_)
     (try simp only [Act.put,List.setIfInBounds_toArray,List.set_cons_zero,List.set_cons_succ])
     (refine takeL (i:=12) (v:=_) rfl (by kernel_rfl) (by kernel_rfl) (by kernel_rfl) (fun _ _ _ h=>h) (Or.inr ⟨by rfl,rfl⟩) (by assumption) ?_)
     (try simp only [Act.put,List.setIfInBounds_toArray,List.set_cons_zero,List.set_cons_succ])
     (refine takeL (i:=13) (v:=?_) rfl (by kernel_rfl) (by kernel_rfl) (by kernel_rfl) (fun _ _ _ h=>h) (Or.inl ⟨by rfl,?_⟩) (by assumption) ?_)
     rotate_left
     ·(intro w hSw;(try dsimp only at hSw);go_simp;first | done | with_reducible rfl)
     (try simp only [Act.put,List.setIfInBounds_toArray,List.set_cons_zero,List.set_cons_succ])
     (refine wpAnyH_done (by kernel_rfl) ?_ _)
     clear hHeld
     go_wp2_with fail
     go_roundw
     case rel=>exact ⟨k+1,by omega,by go_num,c6,hrd,by have:=hl6.out;have:=hlen5.out;omega,hpm,hso⟩
     case measure=>simp [intOf];omega
    ·obtain ⟨q,hq⟩:∃ q,p = q+1:=⟨p - 1,by omega⟩
     have hw:IntKind.i64.wrap ((p:Int) - 1) = (q:Int):=IntWalk.i64_in _ (by have:=hlen5.out;have:=hl6.out;omega) |>.trans (by omega)
     have dgt:decide ((p:Int) > 0) = true:=decide_eq_true (by omega)
     have dg3:0 < p:=by omega
     have dg2:decide (0 < p) = true:=decide_eq_true dg3
     rename World=>wr
     have hrd:=Lib.hid (hr6.out.next (Below.refl wr.heap.size wr).drew)
     have cp0:=hrd.out.cellN hpl
     have cq0:=hrd.out.cellN (show q < c6.length by omega)
     have hsw:=fun (h:c6.getD p 0 < c6.getD q 0)=>(by subst hq;exact hI6.out.swap h:InsI l (k+1) ((c6.set p (c6.getD q 0)).set q (c6.getD p 0)) q)
     have hstop:=fun (h:¬ c6.getD p 0 < c6.getD q 0)=>hI6.out.stop (.inr (by rw [show p - 1 = q by omega];omega))
     have hpm:=Lib.hid hI6.out.1
     have hset:=fun (V:World) (hV:IRow w (castL c6) (.slice (some ⟨g,0,none⟩) len5 cap) V)=>hV.set2 (by rw [castL_len,hl6.out]) p q (c6.getD q 0) (c6.getD p 0)
     have hsl:Hid (((c6.set p (c6.getD q 0)).set q (c6.getD p 0)).length = len5):=Lib.hid (by rw [List.length_set,List.length_set];exact hl6.out)
     have hfz:=fun (V:World) (hV:IRow w (castL c6) (.slice (some ⟨g,0,none⟩) len5 cap) V) (j:Nat)=>(own_thaw (by have:=hV.2;rwa [castL_len,hl6.out] at this) j).1
     have hcc:=fun (V:World) (hV:IRow w (castL c6) (.slice (some ⟨g,0,none⟩) len5 cap) V)=>And.intro (hV.cellN hpl) (hV.cellN (show q < c6.length by omega))
     have hmid:=fun (V:World) (hV:IRow w (castL c6) (.slice (some ⟨g,0,none⟩) len5 cap) V)=>And.intro ((hV.set1 (by rw [castL_len,hl6.out]) p (c6.getD q 0)).cellN (p:=q) (by rw [List.length_set];omega)) (own_thaw (by have:=(hV.set1 (by rw [castL_len,hl6.out]) p (c6.getD q 0)).2;rwa [castL_len,List.length_set,hl6.out] at this) q).1
     generalize (c6.set p (c6.getD q 0)).getD q 0 = zz at *
     generalize (c6.set p (c6.getD q 0)).set q (c6.getD p 0) = c7 at *
     generalize c6.getD p 0 = x at *
     generalize c6.getD q 0 = y at *
     have g4:(0:Int)≤(p:Int):=by omega
     have g5:(p:Int) < (len5:Int):=by have:=hl6.out;omega
     have g6:(0:Int)≤(q:Int):=by omega
     have g7:(q:Int) < (len5:Int):=by have:=hl6.out;omega
     replace hq:=Lib.hid hq
     replace hset:=Lib.hid hset
     replace hfz:=Lib.hid hfz
     replace hcc:=Lib.hid hcc
     replace hmid:=Lib.hid hmid
     replace hI6:=Lib.hid hI6
     by_cases hxy:x < y
     ·have dl:decide ((x:Int) < (y:Int)) = true:=decide_eq_true (by omega)
      have dl2:decide (x < y) = true:=decide_eq_true hxy
      have hsw2:=Lib.hid (hsw hxy)
      clear hsw hstop
      go_wp2_with fail
      (refine wp_region_held_drew (S:=(fun V=>V.cell? ⟨g,p,none⟩ = some (.int .i64 (x:Nat))∧V.cell? ⟨g,q,none⟩ = some (.int .i64 (y:Nat)))) (by kernel_rfl) ?_ (fun hHeld=>?_))
      ·exact ⟨cp0,cq0⟩
      (refine takeL (i:=0) (v:=?_) rfl (by kernel_rfl) (by kernel_rfl) (by kernel_rfl) (fun _ _ _ h=>h) (Or.inl ⟨by rfl,?_⟩) (by assumption) ?_)
      rotate_left
      ·(intro w hSw;(try dsimp only at hSw);go_simp;first | done | with_reducible rfl)
      (try simp only [Act.put,List.setIfInBounds_toArray,List.set_cons_zero,List.set_cons_succ])
      (refine takeL (i:=1) (v:=?_) rfl (by kernel_rfl) (by kernel_rfl) (by kernel_rfl) (fun _ _ _ h=>h) (Or.inl ⟨by rfl,?_⟩) (by assumption) ?_)
      rotate_left
      ·(intro w hSw;(try dsimp only at hSw);go_simp;first | done | with_reducible rfl)
      (try simp only [Act.put,List.setIfInBounds_toArray,List.set_cons_zero,List.set_cons_succ])
      (refine takeL (i:=2) (v:=?_) rfl (by kernel_rfl) (by kernel_rfl) (by kernel_rfl) (fun _ _ _ h=>h) (Or.inl ⟨by rfl,?_⟩) (by assumption) ?_)
      rotate_left
      ·(intro w hSw;(try dsimp only at hSw);go_simp;first | done | with_reducible rfl)
      (try simp only [Act.put,List.setIfInBounds_toArray,List.set_cons_zero,List.set_cons_succ])
      (refine takeL (i:=3) (v:=?_) rfl (by kernel_rfl) (by kernel_rfl) (by kernel_rfl) (fun _ _ _ h=>h) (Or.inl ⟨by rfl,?_⟩) (by assumption) ?_)
      rotate_left
      ·(intro w hSw;(try dsimp only at hSw);go_simp;first | done | with_reducible rfl)
      (try simp only [Act.put,List.setIfInBounds_toArray,List.set_cons_zero,List.set_cons_succ])
      (refine takeL (i:=4) (v:=?_) rfl (by kernel_rfl) (by kernel_rfl) (by kernel_rfl) (fun _ _ _ h=>h) (Or.inl ⟨by rfl,?_⟩) (by assumption) ?_)
      rotate_left
      ·(intro w hSw;(try dsimp only at hSw);go_simp;first | done | with_reducible rfl)
      (try simp only [Act.put,List.setIfInBounds_toArray,List.set_cons_zero,List.set_cons_succ])
      (refine takeL (i:=5) (v:=?_) rfl (by kernel_rfl) (by kernel_rfl) (by kernel_rfl) (fun _ _ _ h=>h) (Or.inl ⟨by rfl,?_⟩) (by assumption) ?_)
      rotate_left
      ·(intro w hSw;(try dsimp only at hSw);go_simp;first | done | with_reducible rfl)
      (try simp only [Act.put,List.setIfInBounds_toArray,List.set_cons_zero,List.set_cons_succ])
      (refine takeL (i:=6) (v:=?_) rfl (by kernel_rfl) (by kernel_rfl) (by kernel_rfl) (fun _ _ _ h=>h) (Or.inl ⟨by rfl,?_⟩) (by assumption) ?_)
      rotate_left
      ·(intro w hSw;(try dsimp only at hSw);go_simp;first | done | with_reducible rfl)
      (try simp only [Act.put,List.setIfInBounds_toArray,List.set_cons_zero,List.set_cons_succ])
      (refine takeL (i:=7) (v:=?_) rfl (by kernel_rfl) (by kernel_rfl) (by kernel_rfl) (fun _ _ _ h=>h) (Or.inl ⟨by rfl,?_⟩) (by assumption) ?_)
      rotate_left
      ·(intro w hSw;(try dsimp only at hSw);go_simp;first | done | with_reducible rfl)
      (try simp only [Act.put,List.setIfInBounds_toArray,List.set_cons_zero,List.set_cons_succ])
      (refine takeL (i:=8) (v:=?_) rfl (by kernel_rfl) (by kernel_rfl) (by kernel_rfl) (fun _ _ _ h=>h) (Or.inl ⟨by rfl,?_⟩) (by assumption) ?_)
      rotate_left
      ·(intro w hSw;(try dsimp only at hSw);go_simp;first | done | with_reducible rfl)
      (try simp only [Act.put,List.setIfInBounds_toArray,List.set_cons_zero,List.set_cons_succ])
      (refine takeL (i:=9) (v:=?_) rfl (by kernel_rfl) (by kernel_rfl) (by kernel_rfl) (fun _ _ _ h=>h) (Or.inl ⟨by rfl,?_⟩) (by assumption) ?_)
      rotate_left
      ·(intro w hSw;(try dsimp only at hSw);go_simp;first | done | with_reducible rfl)
      (try simp only [Act.put,List.setIfInBounds_toArray,List.set_cons_zero,List.set_cons_succ])
      (refine takeL (i:=10) (v:=?_) rfl (by kernel_rfl) (by kernel_rfl) (by kernel_rfl) (fun _ _ _ h=>h) (Or.inl ⟨by rfl,?_⟩) (by assumption) ?_)
      rotate_left
      ·(intro w hSw;(try dsimp only at hSw);go_simp;first | done | with_reducible rfl)
      (try simp only [Act.put,List.setIfInBounds_toArray,List.set_cons_zero,List.set_cons_succ])
      (refine takeL (i:=11) (v:=?_) rfl (by kernel_rfl) (by kernel_rfl) (by kernel_rfl) (fun _ _ _ h=>h) (Or.inl ⟨by rfl,?_⟩) (by assumption) ?_)
      rotate_left
      ·(intro w hSw;(try dsimp only at hSw);go_simp;first | done | with_reducible rfl)
      (try simp only [Act.put,List.setIfInBounds_toArray,List.set_cons_zero,List.set_cons_succ])
      (refine takeL (i:=12) (v:=?_) rfl (by kernel_rfl) (by kernel_rfl) (by kernel_rfl) (fun _ _ _ h=>h) (Or.inl ⟨by rfl,?_⟩) (by assumption) ?_)
      rotate_left
      ·(intro w hSw;(try dsimp only at hSw);go_simp;first | done | with_reducible rfl)
      (try simp only [Act.put,List.setIfInBounds_toArray,List.set_cons_zero,List.set_cons_succ])
      (refine takeL (i:=13) (v:=?_) rfl (by kernel_rfl) (by kernel_rfl) (by kernel_rfl) (fun _ _ _ h=>h) (Or.inl ⟨by rfl,?_⟩) (by assumption) ?_)
      rotate_left
      ·(intro w hSw;(try dsimp only at hSw);go_simp;first | done | with_reducible rfl)
      (try simp only [Act.put,List.setIfInBounds_toArray,List.set_cons_zero,List.set_cons_succ])
      (refine wpAnyH_done (by kernel_rfl) ?_ _)
      clear hHeld cp0 cq0
      go_wp2_with fail
      have hre:=Lib.hid (hrd.out.next (Below.refl wr.drew.heap.size wr.drew).drew)
      obtain ⟨cp1,cq1⟩:=hcc.out _ hre.out
      have hT:True:=trivial
      (refine wp_region_held_drew (S:=(fun _=>True)) (by kernel_rfl) ?_ (fun hHeld=>?_))
      ·trivial
      (refine takeL (i:=0) (v:=?_) rfl (by kernel_rfl) (by kernel_rfl) (by kernel_rfl) (fun _ _ _ h=>h) (Or.inl ⟨by rfl,?_⟩) (by assumption) ?_)
      rotate_left
      ·(intro w hSw;(try dsimp only at hSw);go_simp;first | done | with_reducible rfl)
      (try simp only [Act.put,List.setIfInBounds_toArray,List.set_cons_zero,List.set_cons_succ])
      (refine takeL (i:=1) (v:=?_) rfl (by kernel_rfl) (by kernel_rfl) (by kernel_rfl) (fun _ _ _ h=>h) (Or.inl ⟨by rfl,?_⟩) (by assumption) ?_)
      rotate_left
      ·(intro w hSw;(try dsimp only at hSw);go_simp;first | done | with_reducible rfl)
      (try simp only [Act.put,List.setIfInBounds_toArray,List.set_cons_zero,List.set_cons_succ])
      (refine takeL (i:=2) (v:=?_) rfl (by kernel_rfl) (by kernel_rfl) (by kernel_rfl) (fun _ _ _ h=>h) (Or.inl ⟨by rfl,?_⟩) (by assumption) ?_)
      rotate_left
      ·(intro w hSw;(try dsimp only at hSw);go_simp;first | done | with_reducible rfl)
      (try simp only [Act.put,List.setIfInBounds_toArray,List.set_cons_zero,List.set_cons_succ])
      (refine takeL (i:=3) (v:=?_) rfl (by kernel_rfl) (by kernel_rfl) (by kernel_rfl) (fun _ _ _ h=>h) (Or.inl ⟨by rfl,?_⟩) (by assumption) ?_)
      rotate_left
      ·(intro w hSw;(try dsimp only at hSw);go_simp;first | done | with_reducible rfl)
      (try simp only [Act.put,List.setIfInBounds_toArray,List.set_cons_zero,List.set_cons_succ])
      (refine takeL (i:=4) (v:=?_) rfl (by kernel_rfl) (by kernel_rfl) (by kernel_rfl) (fun _ _ _ h=>h) (Or.inl ⟨by rfl,?_⟩) (by assumption) ?_)
      rotate_left
      ·(intro w hSw;(try dsimp only at hSw);go_simp;first | done | with_reducible rfl)
      (try simp only [Act.put,List.setIfInBounds_toArray,List.set_cons_zero,List.set_cons_succ])
      (refine takeL (i:=5) (v:=?_) rfl (by kernel_rfl) (by kernel_rfl) (by kernel_rfl) (fun _ _ _ h=>h) (Or.inl ⟨by rfl,?_⟩) (by assumption) ?_)
      rotate_left
      ·(intro w hSw;(try dsimp only at hSw);go_simp;first | done | with_reducible rfl)
      (try simp only [Act.put,List.setIfInBounds_toArray,List.set_cons_zero,List.set_cons_succ])
      (refine takeL (i:=6) (v:=?_) rfl (by kernel_rfl) (by kernel_rfl) (by kernel_rfl) (fun _ _ _ h=>h) (Or.inl ⟨by rfl,?_⟩) (by assumption) ?_)
      rotate_left
      ·(intro w hSw;(try dsimp only at hSw);go_simp;first | done | with_reducible rfl)
      (try simp only [Act.put,List.setIfInBounds_toArray,List.set_cons_zero,List.set_cons_succ])
      (refine takeL (i:=7) (v:=?_) rfl (by kernel_rfl) (by kernel_rfl) (by kernel_rfl) (fun _ _ _ h=>h) (Or.inl ⟨by rfl,?_⟩) (by assumption) ?_)
      rotate_left
      ·(intro w hSw;(try dsimp only at hSw);go_simp;first | done | with_reducible rfl)
      (try simp only [Act.put,List.setIfInBounds_toArray,List.set_cons_zero,List.set_cons_succ])
      (refine takeL (i:=8) (v:=?_) rfl (by kernel_rfl) (by kernel_rfl) (by kernel_rfl) (fun _ _ _ h=>h) (Or.inl ⟨by rfl,?_⟩) (by assumption) ?_)
      rotate_left
      ·(intro w hSw;(try dsimp only at hSw);go_simp;first | done | with_reducible rfl)
      (try simp only [Act.put,List.setIfInBounds_toArray,List.set_cons_zero,List.set_cons_succ])
      (refine takeL (i:=10) (v:=?_) rfl (by kernel_rfl) (by kernel_rfl) (by kernel_rfl) (fun _ _ _ h=>h) (Or.inl ⟨by rfl,?_⟩) (by assumption) ?_)
      rotate_left
      ·(intro w hSw;(try dsimp only at hSw);go_simp;first | done | with_reducible rfl)
      (try simp only [Act.put,List.setIfInBounds_toArray,List.set_cons_zero,List.set_cons_succ])
      (refine takeL (i:=11) (v:=?_) rfl (by kernel_rfl) (by kernel_rfl) (by kernel_rfl) (fun _ _ _ h=>h) (Or.inl ⟨by rfl,?_⟩) (by assumption) ?_)
      rotate_left
      ·(intro w hSw;(try dsimp only at hSw);go_simp;first | done | with_reducible rfl)
      (try simp only [Act.put,List.setIfInBounds_toArray,List.set_cons_zero,List.set_cons_succ])
      (refine takeL (i:=12) (v:=?_) rfl (by kernel_rfl) (by kernel_rfl) (by kernel_rfl) (fun _ _ _ h=>h) (Or.inl ⟨by rfl,?_⟩) (by assumption) ?_)
      rotate_left
      ·(intro w hSw;(try dsimp only at hSw);go_simp;first | done | with_reducible rfl)
      (try simp only [Act.put,List.setIfInBounds_toArray,List.set_cons_zero,List.set_cons_succ])
      generalize wr.drew.drew = wd at *
      (refine wpAnyH_ready (rs:=[9,13]) (by kernel_rfl) (by simp) ?_)
      (refine consL2 rfl rfl (fun K hK=>?_) (fun K hK=>?_))
      (rw [if_pos (by rfl)])
      go_simp
      (refine hK.out _ _ trivial (fun hT=>?_))
      (clear hT hK K)
      (try simp only [Act.put,List.setIfInBounds_toArray,List.set_cons_zero,List.set_cons_succ])
      (refine wpAnyH_ready (rs:=[13]) (by kernel_rfl) (by simp) ?_)
      (refine consL rfl (fun K hK=>?_))
      (rw [if_pos (by rfl)])
      go_simp
      (refine hK.out _ _ trivial (fun hT=>?_))
      (clear hT hK K)
      (try simp only [Act.put,List.setIfInBounds_toArray,List.set_cons_zero,List.set_cons_succ])
      refine ?hRest1
      rotate_left
      (rw [if_pos (by rfl)])
      go_simp
      (refine hK.out _ _ trivial (fun hT=>?_))
      (clear hT hK K)
      (try simp only [Act.put,List.setIfInBounds_toArray,List.set_cons_zero,List.set_cons_succ])
      (refine wpAnyH_ready (rs:=[9]) (by kernel_rfl) (by simp) ?_)
      (refine consL rfl (fun K hK=>?_))
      (rw [if_pos (by rfl)])
      go_simp
      (refine hK.out _ _ trivial (fun hT=>?_))
      (clear hT hK K)
      (try simp only [Act.put,List.setIfInBounds_toArray,List.set_cons_zero,List.set_cons_succ])
      exact ?hRest1
      have fp1:=hfz.out _ hre.out p
      obtain ⟨cq2,fq2⟩:=hmid.out _ hre.out
      have hse:=Lib.hid (hset.out _ hre.out)
      have hT:True:=trivial
      (refine takeL (i:=14) (v:=?_) rfl (by kernel_rfl) (by kernel_rfl) (by kernel_rfl) (fun _ _ _ h=>h) (Or.inl ⟨by rfl,?_⟩) (by assumption) ?_)
      rotate_left
      ·(intro w hSw;(try dsimp only at hSw);go_simp;first | done | with_reducible rfl)
      (try simp only [Act.put,List.setIfInBounds_toArray,List.set_cons_zero,List.set_cons_succ])
      clear hT
      (refine wpAnyH_ready (rs:=[15]) (by kernel_rfl) (by simp) ?_)
      (refine consL rfl (fun K hK=>?_))
      ((rw [if_pos (by rfl)]);go_simp;(refine hK.out _ _ trivial (fun hT=>?_)))
      (clear hK K)
      (try simp only [Act.put,List.setIfInBounds_toArray,List.set_cons_zero,List.set_cons_succ])
      (refine takeL (i:=16) (v:=?_) rfl (by kernel_rfl) (by kernel_rfl) (by kernel_rfl) (fun _ _ _ h=>h) (Or.inl ⟨by rfl,?_⟩) (by assumption) ?_)
      rotate_left
      ·(intro w hSw;(try dsimp only at hSw);go_simp;first | done | with_reducible rfl)
      (try simp only [Act.put,List.setIfInBounds_toArray,List.set_cons_zero,List.set_cons_succ])
      clear hT
      (refine wpAnyH_ready (rs:=[17]) (by kernel_rfl) (by simp) ?_)
      (refine consL rfl (fun K hK=>?_))
      ((rw [if_pos (by rfl)]);go_simp;(refine hK.out _ _ trivial (fun hT=>?_));clear hT)
      (clear hK K)
      (try simp only [Act.put,List.setIfInBounds_toArray,List.set_cons_zero,List.set_cons_succ])
      (refine wpAnyH_done (by kernel_rfl) ?_ _)
      clear cp1 cq1 fp1 cq2 fq2
      go_wp2_with fail
      go_roundw
      case rel=>exact ⟨q,by go_num,c7,hsl,hse,hsw2⟩
      case measure=>simp [intOf];have:=hq.out;omega
     ·have dl:decide ((x:Int) < (y:Int)) = false:=decide_eq_false (by omega)
      have dl2:decide (x < y) = false:=decide_eq_false hxy
      have hso:=Lib.hid (hstop hxy)
      clear hsw hstop
      go_wp2_with fail
      (refine wp_region_held_drew (S:=(fun V=>V.cell? ⟨g,p,none⟩ = some (.int .i64 (x:Nat))∧V.cell? ⟨g,q,none⟩ = some (.int .i64 (y:Nat)))) (by kernel_rfl) ?_ (fun hHeld=>?_))
      ·exact ⟨cp0,cq0⟩
      (refine takeL (i:=0) (v:=?_) rfl (by kernel_rfl) (by kernel_rfl) (by kernel_rfl) (fun _ _ _ h=>h) (Or.inl ⟨by rfl,?_⟩) (by assumption) ?_)
      rotate_left
      ·(intro w hSw;(try dsimp only at hSw);go_simp;first | done | with_reducible rfl)
      (try simp only [Act.put,List.setIfInBounds_toArray,List.set_cons_zero,List.set_cons_succ])
      (refine takeL (i:=1) (v:=?_) rfl (by kernel_rfl) (by kernel_rfl) (by kernel_rfl) (fun _ _ _ h=>h) (Or.inl ⟨by rfl,?_⟩) (by assumption) ?_)
      rotate_left
      ·(intro w hSw;(try dsimp only at hSw);go_simp;first | done | with_reducible rfl)
      (try simp only [Act.put,List.setIfInBounds_toArray,List.set_cons_zero,List.set_cons_succ])
      (refine takeL (i:=2) (v:=?_) rfl (by kernel_rfl) (by kernel_rfl) (by kernel_rfl) (fun _ _ _ h=>h) (Or.inl ⟨by rfl,?_⟩) (by assumption) ?_)
      rotate_left
      ·(intro w hSw;(try dsimp only at hSw);go_simp;first | done | with_reducible rfl)
      (try simp only [Act.put,List.setIfInBounds_toArray,List.set_cons_zero,List.set_cons_succ])
      (refine takeL (i:=3) (v:=?_) rfl (by kernel_rfl) (by kernel_rfl) (by kernel_rfl) (fun _ _ _ h=>h) (Or.inl ⟨by rfl,?_⟩) (by assumption) ?_)
      rotate_left
      ·(intro w hSw;(try dsimp only at hSw);go_simp;first | done | with_reducible rfl)
      (try simp only [Act.put,List.setIfInBounds_toArray,List.set_cons_zero,List.set_cons_succ])
      (refine takeL (i:=4) (v:=?_) rfl (by kernel_rfl) (by kernel_rfl) (by kernel_rfl) (fun _ _ _ h=>h) (Or.inl ⟨by rfl,?_⟩) (by assumption) ?_)
      rotate_left
      ·(intro w hSw;(try dsimp only at hSw);go_simp;first | done | with_reducible rfl)
      (try simp only [Act.put,List.setIfInBounds_toArray,List.set_cons_zero,List.set_cons_succ])
      (refine takeL (i:=5) (v:=?_) rfl (by kernel_rfl) (by kernel_rfl) (by kernel_rfl) (fun _ _ _ h=>h) (Or.inl ⟨by rfl,?_⟩) (by assumption) ?_)
      rotate_left
      ·(intro w hSw;(try dsimp only at hSw);go_simp;first | done | with_reducible rfl)
      (try simp only [Act.put,List.setIfInBounds_toArray,List.set_cons_zero,List.set_cons_succ])
      (refine takeL (i:=6) (v:=?_) rfl (by kernel_rfl) (by kernel_rfl) (by kernel_rfl) (fun _ _ _ h=>h) (Or.inl ⟨by rfl,?_⟩) (by assumption) ?_)
      rotate_left
      ·(intro w hSw;(try dsimp only at hSw);go_simp;first | done | with_reducible rfl)
      (try simp only [Act.put,List.setIfInBounds_toArray,List.set_cons_zero,List.set_cons_succ])
      (refine takeL (i:=7) (v:=?_) rfl (by kernel_rfl) (by kernel_rfl) (by kernel_rfl) (fun _ _ _ h=>h) (Or.inl ⟨by rfl,?_⟩) (by assumption) ?_)
      rotate_left
      ·(intro w hSw;(try dsimp only at hSw);go_simp;first | done | with_reducible rfl)
      (try simp only [Act.put,List.setIfInBounds_toArray,List.set_cons_zero,List.set_cons_succ])
      (refine takeL (i:=8) (v:=?_) rfl (by kernel_rfl) (by kernel_rfl) (by kernel_rfl) (fun _ _ _ h=>h) (Or.inl ⟨by rfl,?_⟩) (by assumption) ?_)
      rotate_left
      ·(intro w hSw;(try dsimp only at hSw);go_simp;first | done | with_reducible rfl)
      (try simp only [Act.put,List.setIfInBounds_toArray,List.set_cons_zero,List.set_cons_succ])
      (refine takeL (i:=9) (v:=?_) rfl (by kernel_rfl) (by kernel_rfl) (by kernel_rfl) (fun _ _ _ h=>h) (Or.inl ⟨by rfl,?_⟩) (by assumption) ?_)
      rotate_left
      ·(intro w hSw;(try dsimp only at hSw);go_simp;first | done | with_reducible rfl)
      (try simp only [Act.put,List.setIfInBounds_toArray,List.set_cons_zero,List.set_cons_succ])
      (refine takeL (i:=10) (v:=?_) rfl (by kernel_rfl) (by kernel_rfl) (by kernel_rfl) (fun _ _ _ h=>h) (Or.inl ⟨by rfl,?_⟩) (by assumption) ?_)
      rotate_left
      ·(intro w hSw;(try dsimp only at hSw);go_simp;first | done | with_reducible rfl)
      (try simp only [Act.put,List.setIfInBounds_toArray,List.set_cons_zero,List.set_cons_succ])
      (refine takeL (i:=11) (v:=?_) rfl (by kernel_rfl) (by kernel_rfl) (by kernel_rfl) (fun _ _ _ h=>h) (Or.inl ⟨by rfl,?_⟩) (by assumption) ?_)
      rotate_left
      ·(intro w hSw;(try dsimp only at hSw);go_simp;first | done | with_reducible rfl)
      (try simp only [Act.put,List.setIfInBounds_toArray,List.set_cons_zero,List.set_cons_succ])
      (refine takeL (i:=12) (v:=?_) rfl (by kernel_rfl) (by kernel_rfl) (by kernel_rfl) (fun _ _ _ h=>h) (Or.inl ⟨by rfl,?_⟩) (by assumption) ?_)
      rotate_left
      ·(intro w hSw;(try dsimp only at hSw);go_simp;first | done | with_reducible rfl)
      (try simp only [Act.put,List.setIfInBounds_toArray,List.set_cons_zero,List.set_cons_succ])
      (refine takeL (i:=13) (v:=?_) rfl (by kernel_rfl) (by kernel_rfl) (by kernel_rfl) (fun _ _ _ h=>h) (Or.inl ⟨by rfl,?_⟩) (by assumption) ?_)
      rotate_left
      ·(intro w hSw;(try dsimp only at hSw);go_simp;first | done | with_reducible rfl)
      (try simp only [Act.put,List.setIfInBounds_toArray,List.set_cons_zero,List.set_cons_succ])
      (refine wpAnyH_done (by kernel_rfl) ?_ _)
      clear hHeld cp0 cq0
      go_wp2_with fail
      go_roundw
      case rel=>exact ⟨k+1,by omega,by go_num,c6,hrd,by have:=hl6.out;have:=hlen5.out;omega,hpm,hso⟩
      case measure=>simp [intOf];omega
  ·obtain rfl:k = l.length:=by omega
   have he:=L.sortN_eq (l:=l) hso.out (by have:=hpm.out;rw [List.take_length] at this;exact this)
   subst he
   obtain ⟨fb,fc,rfl⟩:=hro.out.shapeN
   go_wp2_with fail
   go_ret
   exact ⟨_,rfl,hro.out⟩
end Go.Proofs.YtckhohpbokojdaaGreatDoor
