import Derived.Test.YtmnjakejhbpkoaaGreatDoorWRf6
set_option linter.unusedSimpArgs false
set_option linter.unusedVariables false
namespace Go.Proofs.YtmnjakejhbpkoaaGreatDoor
open Go Go.RowKit Go.Shelf
set_option maxRecDepth 100000 in
set_option maxHeartbeats 1000000 in
theorem refHolds5_any {l:Int} (hl:-128≤l∧l≤128) (h0:l≠0) (a:VSet) (w:World):Calls Tryz.prog 159 #[.agg #[.int .u64 (lo a),.int .u64 (hi a)],.int .i64 l] w fun e w'=>e = .returned (.bool (L.liφ l (L.asg a)))∧Ext w w':=by
 have e0:=heap_alloc_new w (.cells #[.int .u64 (lo a),.int .u64 (hi a)] 41)
 have hx1:Ext w (w.alloc (.cells #[.int .u64 (lo a),.int .u64 (hi a)] 41)):=(Ext.refl w).alloc _
 obtain ⟨w1,hw1⟩:∃ w1,w1 = w.alloc (.cells #[.int .u64 (lo a),.int .u64 (hi a)] 41):=⟨_,rfl⟩
 rw [←hw1] at e0 hx1
 obtain ⟨c0,c1⟩:=pbox_cells e0
 have q:=refHas5_any a (l.natAbs:Int) w1
 unfold encS at q
 have hdef:L.liφ l (L.asg a) = (hasS a (l.natAbs:Int) == decide (0 < l)):=rfl
 rw [hdef]
 by_cases hn:l < 0
 ·have d0:decide (l < 0) = true:=decide_eq_true hn
  have d1:decide (0 < l) = false:=decide_eq_false (by omega)
  have wn:wrap64 (-l) = -l:=by unfold wrap64;omega
  have wn2:(l.natAbs:Int) = -l:=by omega
  rw [d1,wn2]
  rw [wn2] at q
  clear d1 hdef
  generalize hasS a (-l) = B at *
  replace e0:=Lib.hid e0
  replace hn:=Lib.hid hn
  replace wn2:=Lib.hid wn2
  go_enter Tryz.func159,Tryz.ntmps159
  go_wp2_with fail
  rw [←hw1]
  replace hw1:=Lib.hid hw1
  try go_wp2_with fail
  refine q.mono ?_
  rintro e w2 ⟨rfl,hx2⟩
  go_wp2_with fail
  go_ret
  exact ⟨by cases B <;> rfl,hx1.trans hx2⟩
 ·have d0:decide (l < 0) = false:=decide_eq_false hn
  have d1:decide (0 < l) = true:=decide_eq_true (by omega)
  have wn2:(l.natAbs:Int) = l:=by omega
  rw [d1,wn2]
  rw [wn2] at q
  clear d1 hdef
  generalize hasS a l = B at *
  replace e0:=Lib.hid e0
  replace hn:=Lib.hid hn
  replace wn2:=Lib.hid wn2
  go_enter Tryz.func159,Tryz.ntmps159
  go_wp2_with fail
  rw [←hw1]
  replace hw1:=Lib.hid hw1
  try go_wp2_with fail
  refine q.mono ?_
  rintro e w2 ⟨rfl,hx2⟩
  go_wp2_with fail
  go_ret
  exact ⟨by cases B <;> rfl,hx1.trans hx2⟩
set_option maxRecDepth 100000 in
set_option maxHeartbeats 1000000 in
theorem refAssign_any {n:Nat} (hn:n≤128) (a:VSet) (ha:∀ u,hasS a u = true→u≤n) (w:World):Calls Tryz.prog 158 #[.agg #[.int .u64 (lo a),.int .u64 (hi a)],.int .i64 (n:Nat)] w fun e w'=>e = .returned (.bool true)∧Ext w w':=by
 have e0:=heap_alloc_new w (.cells #[.int .u64 (lo a),.int .u64 (hi a)] 41)
 have hx1:Ext w (w.alloc (.cells #[.int .u64 (lo a),.int .u64 (hi a)] 41)):=(Ext.refl w).alloc _
 obtain ⟨w1,hw1⟩:∃ w1,w1 = w.alloc (.cells #[.int .u64 (lo a),.int .u64 (hi a)] 41):=⟨_,rfl⟩
 rw [←hw1] at e0 hx1
 obtain ⟨c0,c1⟩:=pbox_cells e0
 have q:=fun v W=>refHas5_any a v W
 unfold encS at q
 replace q:=Lib.hid q
 replace e0:=Lib.hid e0
 replace ha:=Lib.hid ha
 go_enter Tryz.func158,Tryz.ntmps158
 go_wp2_with fail
 rw [←hw1]
 replace hw1:=Lib.hid hw1
 go_loopw [5] (fun i wr=>∃ k:Nat,n≤k∧k≤128∧i = .int .i64 ((k:Int)+1)∧Ext w1 wr) (fun i _=>129 - (intOf i).toNat)
 case atStart=>exact ⟨n,by omega,hn,rfl,Ext.refl _⟩
 case round =>
  obtain ⟨k,hk1,hk,rfl,hxr⟩:=hrel
  have d0:=hxr.cell c0
  have d1:=hxr.cell c1
  by_cases hlt:k < 128
  ·have dk:decide ((k:Int)+1≤128) = true:=decide_eq_true (by omega)
   have q1:=q.out ((k:Int)+1) wr
   have hf:hasS a ((k:Int)+1) = false:=by
    cases h:hasS a ((k:Int)+1)
    ·rfl
    ·have:=ha.out _ h;omega
   rw [hf] at q1
   clear hf
   go_wp2_with fail
   refine q1.mono ?_
   rintro e w2 ⟨rfl,hx2⟩
   go_wp2_with fail
   go_roundw
   case rel=>exact ⟨k+1,by omega,by omega,by go_num,hxr.trans hx2⟩
   case measure=>simp [intOf];omega
  ·obtain rfl:k = 128:=by omega
   have dk:decide (((128:Nat):Int)+1≤128) = false:=by decide
   go_wp2_with fail
   go_ret
   exact ⟨rfl,hx1.trans hxr⟩
theorem clφ_take {c:List Int} {x:L.Asg} {k:Nat} (hk:k < c.length):L.clφ (c.take (k+1)) x = (L.clφ (c.take k) x || L.liφ c[k] x):=by
 rw [List.take_succ_eq_append_getElem hk,L.clφ_snoc]
set_option maxRecDepth 100000 in
set_option maxHeartbeats 8000000 in
theorem refEval5_any {n:Nat} {T:List (List Int)} {v:Value} {w:World} (hv:SlT w v T) (hok:L.thChk n T = 0) (a:VSet) (ha:∀ u,hasS a u = true→u≤n) :
  Calls Tryz.prog 90 #[.agg #[.int .i64 (n:Nat),v],.agg #[.int .u64 (lo a),.int .u64 (hi a)]] w fun e w'=>e = .returned (.bool (L.thφ T (L.asg a)))∧Ext w w':=by
 obtain ⟨⟨hn0,hn1⟩,hT,hall⟩:=L.thChk_ok.1 hok
 have e0:=alloc2h w (.cells #[.int .i64 (n:Nat),v] 24) (.cells #[.int .u64 (lo a),.int .u64 (hi a)] 41)
 have hx1:Ext w ((w.alloc (.cells #[.int .i64 (n:Nat),v] 24)).alloc (.cells #[.int .u64 (lo a),.int .u64 (hi a)] 41)):=((Ext.refl w).alloc _).alloc _
 obtain ⟨w1,hw1⟩:∃ w1,w1 = (w.alloc (.cells #[.int .i64 (n:Nat),v] 24)).alloc (.cells #[.int .u64 (lo a),.int .u64 (hi a)] 41):=⟨_,rfl⟩
 rw [←hw1] at e0 hx1
 obtain ⟨e0,e1⟩:=e0
 have c0:w1.cell? ⟨w.heap.size,0,none⟩ = some (.int .i64 (n:Nat)):=by rw [World.cell?,e0];rfl
 have c1:w1.cell? ⟨w.heap.size,1,none⟩ = some v:=by rw [World.cell?,e0];rfl
 obtain ⟨c2,c3⟩:=pbox_cells e1
 have qc:=rcheck_any (n:=(n:Int)) (hv.ext hx1.below)
 rw [hok] at qc
 have qa:=fun W=>refAssign_any (n:=n) (by omega) a ha W
 obtain ⟨ba,cp,rfl,hv0⟩:=hv
 have hcs:∀ j (hj:j < T.length),∃ b o bb cc,ba = some ⟨b,o,none⟩∧w.cell? ⟨b,o+j,none⟩ = some (.slice bb T[j].length cc)∧∀ i (hi:i < T[j].length),∃ b2 o2,bb = some ⟨b2,o2,none⟩∧w.cell? ⟨b2,o2+i,none⟩ = some (.int .i64 (T[j])[i]):=fun j hj=>by
  rcases hv0 with ⟨_,rfl,_⟩ | ⟨b,o,rfl,h⟩
  ·simp at hj
  ·obtain ⟨u,h1,bb,cc,rfl,h2⟩:=h j hj
   refine ⟨b,o,bb,cc,rfl,h1,fun i hi=>?_⟩
   rcases h2 with ⟨_,h2,_⟩ | ⟨b2,o2,rfl,h2⟩
   ·rw [h2] at hi;simp at hi
   ·exact ⟨b2,o2,rfl,h2 i hi⟩
 replace qa:=Lib.hid qa
 replace hcs:=Lib.hid hcs
 replace hall:=Lib.hid hall
 replace hx1:=Lib.hid hx1
 replace hok:=Lib.hid hok
 replace e0:=Lib.hid e0
 replace e1:=Lib.hid e1
 replace ha:=Lib.hid ha
 clear hv0
 go_enter Tryz.func90,Tryz.ntmps90
 go_wp2_with fail
 rw [←hw1]
 replace hw1:=Lib.hid hw1
 try go_wp2_with fail
 refine qc.mono ?_
 rintro e w2 ⟨rfl,hx2⟩
 have q2:=qa.out w2
 have d0:=hx2.cell c0
 have d2:=hx2.cell c2
 have d3:=hx2.cell c3
 clear qc
 go_wp2_with fail
 refine q2.mono ?_
 rintro e w4 ⟨rfl,hx4⟩
 have hx24:=hx2.trans hx4
 have hx5:=hx1.out.trans hx24
 have f1:=hx24.cell c1
 have f2:=hx24.cell c2
 have f3:=hx24.cell c3
 replace hx5:=Lib.hid hx5
 replace hx24:=Lib.hid hx24
 clear q2 c0 c1 c2 c3 d0 d2 d3 hx2 hx4
 go_wp2_with fail
 go_loopw [5,6,7] (fun i _ _ wr=>∃ k:Nat,k≤T.length∧i = .int .i64 k∧Ext w4 wr∧Hid (L.thφ (T.take k) (L.asg a) = true)) (fun i _ _ _=>T.length - (intOf i).toNat)
 case atStart=>exact ⟨0,Nat.zero_le _,rfl,Ext.refl _,Lib.hid (by simp [L.thφ])⟩
 case round =>
  obtain ⟨k,hk,rfl,hxr,hgood⟩:=hrel
  have g1:=hxr.cell f1
  by_cases hlt:k < T.length
  ·obtain ⟨b,o,bb,cc,rfl,h1,hin⟩:=hcs.out k hlt
   have htk:=Lib.hid (thφ_take (x:=L.asg a) hlt)
   obtain ⟨h128,hval⟩:=hall.out _ (List.getElem_mem hlt)
   have hfin:Hid (L.clφ T[k] (L.asg a) = false→L.thφ T (L.asg a) = false):=Lib.hid fun h=>by
    unfold L.thφ
    rw [List.all_eq_false]
    exact ⟨_,List.getElem_mem hlt,by rw [h];simp⟩
   generalize T[k] = c at *
   have dk:decide ((k:Int) < (T.length:Int)) = true:=decide_eq_true (by omega)
   have kk0:(0:Int)≤k:=by omega
   have kk1:(k:Int) < T.length:=by omega
   replace hin:=Lib.hid hin
   replace hval:=Lib.hid hval
   go_wp2_with fail
   obtain ⟨wo,rfl⟩:∃ wo,wo = wr:=⟨wr,rfl⟩
   go_loopw [6,7] (fun s jv wr'=>∃ j:Nat,j≤c.length∧jv = .int .i64 j∧s = .bool (L.clφ (c.take j) (L.asg a))∧Ext w4 wr') (fun _ jv _=>c.length - (intOf jv).toNat)
   case atStart=>exact ⟨0,Nat.zero_le _,rfl,rfl,hxr⟩
   case round =>
    clear g1
    obtain ⟨j,hj,rfl,rfl,hxr'⟩:=hrel
    have g1:=hxr'.cell f1
    have g2:=hxr'.cell f2
    have g3:=hxr'.cell f3
    have g4:=(hx5.out.trans hxr').cell h1
    by_cases hjl:j < c.length
    ·have dj:decide ((j:Int) < (c.length:Int)) = true:=decide_eq_true (by omega)
     have jj0:(0:Int)≤j:=by omega
     have jj1:(j:Int) < c.length:=by omega
     obtain ⟨b2,o2,rfl,h2⟩:=hin.out j hjl
     have g5:=(hx5.out.trans hxr').cell h2
     have hst:=Lib.hid (clφ_take (x:=L.asg a) hjl)
     have hvl:=L.validB_range (by omega) (hval.out _ (List.getElem_mem hjl))
     generalize c[j] = l at *
     have qh:=fun W=>refHolds5_any (l:=l) (by omega) (by omega) a W
     generalize hA:L.clφ (c.take j) (L.asg a) = A at *
     generalize hB:L.liφ l (L.asg a) = B at *
     replace hA:=Lib.hid hA
     replace hB:=Lib.hid hB
     replace qh:=Lib.hid qh
     replace hvl:=Lib.hid hvl
     have hnx:Hid (L.clφ (c.take (j+1)) (L.asg a) = (A || B)):=hst
     cases A
     ·go_wp2_with fail
      (refine wp_region_held_drew (S:=(fun V=>Ext wr V∧(V.cell? ⟨w.heap.size,1,none⟩ = some (.slice (some ⟨b,o,none⟩) T.length cp))∧(V.cell? ⟨w.heap.size+1,0,none⟩ = some (.int .u64 (lo a))∧V.cell? ⟨w.heap.size+1,1,none⟩ = some (.int .u64 (hi a)))∧V.cell? ⟨b,o+k,none⟩ = some (.slice (some ⟨b2,o2,none⟩) c.length cc)∧V.cell? ⟨b2,o2+j,none⟩ = some (.int .i64 l))) (by kernel_rfl) ?_ (fun hHeld=>?_))
      ·exact ⟨(Ext.refl _).drew,g1,⟨g2,g3⟩,g4,g5⟩
      (refine takeL (i:=0) (v:=?_) rfl (by kernel_rfl) (by kernel_rfl) (by kernel_rfl) (fun _ _ _ h=>h) (Or.inl ⟨by rfl,?_⟩) (by assumption) ?_)
      rotate_left
      ·(intro w hSw;(try dsimp only at hSw);go_simp;first | done | with_reducible rfl)
      (try simp only [Act.put,List.setIfInBounds_toArray,List.set_cons_zero,List.set_cons_succ])
      (refine takeL (i:=1) (v:=?_) rfl (by kernel_rfl) (by kernel_rfl) (by kernel_rfl) (fun _ _ _ h=>h) (Or.inl ⟨by rfl,?_⟩) (by assumption) ?_)
      rotate_left
      ·(intro w hSw;(try dsimp only at hSw);go_simp;first | done | with_reducible rfl)
      (try simp only [Act.put,List.setIfInBounds_toArray,List.set_cons_zero,List.set_cons_succ])
      (refine takeL (i:=2) (v:=?_) rfl (by kernel_rfl) (by kernel_rfl) (by kernel_rfl) (fun _ _ _ h=>h) (Or.inl ⟨by rfl,?_⟩) (by assumption) ?_)
      rotate_left
      ·(intro w hSw;(try dsimp only at hSw);go_simp;first | done | with_reducible rfl)
      (try simp only [Act.put,List.setIfInBounds_toArray,List.set_cons_zero,List.set_cons_succ])
      (refine takeL (i:=3) (v:=?_) rfl (by kernel_rfl) (by kernel_rfl) (by kernel_rfl) (fun _ _ _ h=>h) (Or.inl ⟨by rfl,?_⟩) (by assumption) ?_)
      rotate_left
      ·(intro w hSw;(try dsimp only at hSw);go_simp;first | done | with_reducible rfl)
      (try simp only [Act.put,List.setIfInBounds_toArray,List.set_cons_zero,List.set_cons_succ])
      (refine takeL (i:=4) (v:=?_) rfl (by kernel_rfl) (by kernel_rfl) (by kernel_rfl) (fun _ _ _ h=>h) (Or.inl ⟨by rfl,?_⟩) (by assumption) ?_)
      rotate_left
      ·(intro w hSw;(try dsimp only at hSw);go_simp;first | done | with_reducible rfl)
      (try simp only [Act.put,List.setIfInBounds_toArray,List.set_cons_zero,List.set_cons_succ])
      (refine takeL (i:=5) (v:=?_) rfl (by kernel_rfl) (by kernel_rfl) (by kernel_rfl) (fun _ _ _ h=>h) (Or.inl ⟨by rfl,?_⟩) (by assumption) ?_)
      rotate_left
      ·(intro w hSw;(try dsimp only at hSw);go_simp;first | done | with_reducible rfl)
      (try simp only [Act.put,List.setIfInBounds_toArray,List.set_cons_zero,List.set_cons_succ])
      (refine takeL (i:=6) (v:=?_) rfl (by kernel_rfl) (by kernel_rfl) (by kernel_rfl) (fun _ _ _ h=>h) (Or.inl ⟨by rfl,?_⟩) (by assumption) ?_)
      rotate_left
      ·(intro w hSw;(try dsimp only at hSw);go_simp;first | done | with_reducible rfl)
      (try simp only [Act.put,List.setIfInBounds_toArray,List.set_cons_zero,List.set_cons_succ])
      (refine takeL (i:=7) (v:=?_) rfl (by kernel_rfl) (by kernel_rfl) (by kernel_rfl) (fun _ _ _ h=>h) (Or.inl ⟨by rfl,?_⟩) (by assumption) ?_)
      rotate_left
      ·(intro w hSw;(try dsimp only at hSw);go_simp;first | done | with_reducible rfl)
      (try simp only [Act.put,List.setIfInBounds_toArray,List.set_cons_zero,List.set_cons_succ])
      (refine takeL (i:=8) (v:=?_) rfl (by kernel_rfl) (by kernel_rfl) (by kernel_rfl) (fun _ _ _ h=>h) (Or.inl ⟨by rfl,?_⟩) (by assumption) ?_)
      rotate_left
      ·(intro w hSw;(try dsimp only at hSw);go_simp;first | done | with_reducible rfl)
      (try simp only [Act.put,List.setIfInBounds_toArray,List.set_cons_zero,List.set_cons_succ])
      (refine takeL (i:=9) (v:=?_) rfl (by kernel_rfl) (by kernel_rfl) (by kernel_rfl) (fun _ _ _ h=>h) (Or.inl ⟨by rfl,?_⟩) (by assumption) ?_)
      rotate_left
      ·(intro w hSw;(try dsimp only at hSw);go_simp;first | done | with_reducible rfl)
      (try simp only [Act.put,List.setIfInBounds_toArray,List.set_cons_zero,List.set_cons_succ])
      (refine takeL (i:=10) (v:=?_) rfl (by kernel_rfl) (by kernel_rfl) (by kernel_rfl) (fun _ _ _ h=>h) (Or.inl ⟨by rfl,?_⟩) (by assumption) ?_)
      rotate_left
      ·(intro w hSw;(try dsimp only at hSw);go_simp;first | done | with_reducible rfl)
      (try simp only [Act.put,List.setIfInBounds_toArray,List.set_cons_zero,List.set_cons_succ])
      (refine wpAnyH_ready (rs:=[11]) (by kernel_rfl) (by simp) ?_)
      (refine consL rfl (fun K hK=>?_))
      ((rw [if_pos (by rfl)]);go_simp;(go_at_call 159);refine (qh.out _).mono ?_;rintro e w6 ⟨rfl,hx6⟩;refine hK.out _ _ ⟨hHeld.1.trans hx6,hx6.cell hHeld.2.1,⟨hx6.cell hHeld.2.2.1.1,hx6.cell hHeld.2.2.1.2⟩,hx6.cell hHeld.2.2.2.1,hx6.cell hHeld.2.2.2.2⟩ (fun hHeld=>?_))
      (clear hK K)
      (try simp only [Act.put,List.setIfInBounds_toArray,List.set_cons_zero,List.set_cons_succ])
      (refine takeL (i:=12) (v:=?_) rfl (by kernel_rfl) (by kernel_rfl) (by kernel_rfl) (fun _ _ _ h=>h) (Or.inl ⟨by rfl,?_⟩) (by assumption) ?_)
      rotate_left
      ·(intro w hSw;(try dsimp only at hSw);go_simp;first | done | with_reducible rfl)
      (try simp only [Act.put,List.setIfInBounds_toArray,List.set_cons_zero,List.set_cons_succ])
      (refine takeL (i:=13) (v:=?_) rfl (by kernel_rfl) (by kernel_rfl) (by kernel_rfl) (fun _ _ _ h=>h) (Or.inl ⟨by rfl,?_⟩) (by assumption) ?_)
      rotate_left
      ·(intro w hSw;(try dsimp only at hSw);go_simp;first | done | with_reducible rfl)
      (try simp only [Act.put,List.setIfInBounds_toArray,List.set_cons_zero,List.set_cons_succ])
      (refine wpAnyH_done (by kernel_rfl) ?_ _)
      have hxn:=hxr'.trans hHeld.1
      clear hHeld
      go_wp2_with fail
      go_roundw
      case rel=>exact ⟨j+1,by omega,by go_num,by rw [hnx.out] <;> rfl,hxn⟩
      case measure=>simp [intOf];omega
     ·go_wp2_with fail
      (refine wp_region_held_drew (S:=(fun V=>Ext wr V)) (by kernel_rfl) ?_ (fun hHeld=>?_))
      ·exact (Ext.refl _).drew
      (refine takeL (i:=0) (v:=?_) rfl (by kernel_rfl) (by kernel_rfl) (by kernel_rfl) (fun _ _ _ h=>h) (Or.inl ⟨by rfl,?_⟩) (by assumption) ?_)
      rotate_left
      ·(intro w hSw;(try dsimp only at hSw);go_simp;first | done | with_reducible rfl)
      (try simp only [Act.put,List.setIfInBounds_toArray,List.set_cons_zero,List.set_cons_succ])
      (refine takeL (i:=1) (v:=?_) rfl (by kernel_rfl) (by kernel_rfl) (by kernel_rfl) (fun _ _ _ h=>h) (Or.inl ⟨by rfl,?_⟩) (by assumption) ?_)
      rotate_left
      ·(intro w hSw;(try dsimp only at hSw);go_simp;first | done | with_reducible rfl)
      (try simp only [Act.put,List.setIfInBounds_toArray,List.set_cons_zero,List.set_cons_succ])
      (refine takeL (i:=2) (v:=_) rfl (by kernel_rfl) (by kernel_rfl) (by kernel_rfl) (fun _ _ _ h=>h) (Or.inr ⟨by rfl,rfl⟩) (by assumption) ?_)
      (try simp only [Act.put,List.setIfInBounds_toArray,List.set_cons_zero,List.set_cons_succ])
      (refine takeL (i:=3) (v:=_) rfl (by kernel_rfl) (by kernel_rfl) (by kernel_rfl) (fun _ _ _ h=>h) (Or.inr ⟨by rfl,rfl⟩) (by assumption) ?_)
      (try simp only [Act.put,List.setIfInBounds_toArray,List.set_cons_zero,List.set_cons_succ])
      (refine takeL (i:=4) (v:=_) rfl (by kernel_rfl) (by kernel_rfl) (by kernel_rfl) (fun _ _ _ h=>h) (Or.inr ⟨by rfl,rfl⟩) (by assumption) ?_)
      (try simp only [Act.put,List.setIfInBounds_toArray,List.set_cons_zero,List.set_cons_succ])
      (refine takeL (i:=5) (v:=_) rfl (by kernel_rfl) (by kernel_rfl) (by kernel_rfl) (fun _ _ _ h=>h) (Or.inr ⟨by rfl,rfl⟩) (by assumption) ?_)
      (try simp only [Act.put,List.setIfInBounds_toArray,List.set_cons_zero,List.set_cons_succ])
      (refine takeL (i:=6) (v:=_) rfl (by kernel_rfl) (by kernel_rfl) (by kernel_rfl) (fun _ _ _ h=>h) (Or.inr ⟨by rfl,rfl⟩) (by assumption) ?_)
      (try simp only [Act.put,List.setIfInBounds_toArray,List.set_cons_zero,List.set_cons_succ])
      (refine takeL (i:=7) (v:=_) rfl (by kernel_rfl) (by kernel_rfl) (by kernel_rfl) (fun _ _ _ h=>h) (Or.inr ⟨by rfl,rfl⟩) (by assumption) ?_)
      (try simp only [Act.put,List.setIfInBounds_toArray,List.set_cons_zero,List.set_cons_succ])
      (refine takeL (i:=8) (v:=_) rfl (by kernel_rfl) (by kernel_rfl) (by kernel_rfl) (fun _ _ _ h=>h) (Or.inr ⟨by rfl,rfl⟩) (by assumption) ?_)
      (try simp only [Act.put,List.setIfInBounds_toArray,List.set_cons_zero,List.set_cons_succ])
      (refine takeL (i:=9) (v:=_) rfl (by kernel_rfl) (by kernel_rfl) (by kernel_rfl) (fun _ _ _ h=>h) (Or.inr ⟨by rfl,rfl⟩) (by assumption) ?_)
      (try simp only [Act.put,List.setIfInBounds_toArray,List.set_cons_zero,List.set_cons_succ])
      (refine takeL (i:=10) (v:=_) rfl (by kernel_rfl) (by kernel_rfl) (by kernel_rfl) (fun _ _ _ h=>h) (Or.inr ⟨by rfl,rfl⟩) (by assumption) ?_)
      (try simp only [Act.put,List.setIfInBounds_toArray,List.set_cons_zero,List.set_cons_succ])
      (refine takeL (i:=11) (v:=_) rfl (by kernel_rfl) (by kernel_rfl) (by kernel_rfl) (fun _ _ _ h=>h) (Or.inr ⟨by rfl,rfl⟩) (by assumption) ?_)
      (try simp only [Act.put,List.setIfInBounds_toArray,List.set_cons_zero,List.set_cons_succ])
      (refine takeL (i:=12) (v:=?_) rfl (by kernel_rfl) (by kernel_rfl) (by kernel_rfl) (fun _ _ _ h=>h) (Or.inl ⟨by rfl,?_⟩) (by assumption) ?_)
      rotate_left
      ·(intro w hSw;(try dsimp only at hSw);go_simp;first | done | with_reducible rfl)
      (try simp only [Act.put,List.setIfInBounds_toArray,List.set_cons_zero,List.set_cons_succ])
      (refine takeL (i:=13) (v:=?_) rfl (by kernel_rfl) (by kernel_rfl) (by kernel_rfl) (fun _ _ _ h=>h) (Or.inl ⟨by rfl,?_⟩) (by assumption) ?_)
      rotate_left
      ·(intro w hSw;(try dsimp only at hSw);go_simp;first | done | with_reducible rfl)
      (try simp only [Act.put,List.setIfInBounds_toArray,List.set_cons_zero,List.set_cons_succ])
      (refine wpAnyH_done (by kernel_rfl) ?_ _)
      have hxn:=hxr'.trans hHeld
      clear hHeld
      go_wp2_with fail
      go_roundw
      case rel=>exact ⟨j+1,by omega,by go_num,by rw [hnx.out] <;> rfl,hxn⟩
      case measure=>simp [intOf];omega
    ·obtain rfl:j = c.length:=by omega
     have dj:decide ((c.length:Int) < (c.length:Int)) = false:=decide_eq_false (by omega)
     rw [List.take_length]
     cases hB:L.clφ c (L.asg a)
     ·have hz:=Lib.hid (hfin.out hB)
      go_wp2_with fail
      go_ret
      exact ⟨by rw [hz.out] <;> rfl,hx5.out.trans hxr'⟩
     ·have hn2:Hid (L.thφ (T.take (k+1)) (L.asg a) = true):=Lib.hid (by rw [htk.out,hgood.out,hB];rfl)
      go_wp2_with fail
      go_roundw
      case rel=>exact ⟨k+1,by omega,by go_num,hxr',hn2⟩
      case measure=>simp [intOf];omega
  ·obtain rfl:k = T.length:=by omega
   have dk:decide ((T.length:Int) < (T.length:Int)) = false:=decide_eq_false (by omega)
   rw [List.take_length] at hgood
   go_wp2_with fail
   go_ret
   exact ⟨by rw [hgood.out] <;> rfl,hx5.out.trans hxr⟩
end Go.Proofs.YtmnjakejhbpkoaaGreatDoor
