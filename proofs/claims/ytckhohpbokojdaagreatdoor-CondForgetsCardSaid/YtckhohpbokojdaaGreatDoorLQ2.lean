import Derived.Test.YtckhohpbokojdaaGreatDoorLN36
section
set_option linter.unusedSimpArgs false
set_option linter.unusedVariables false
namespace Go.Proofs.YtckhohpbokojdaaGreatDoor
open Go Go.RowKit Go.Shelf
set_option maxRecDepth 100000 in
set_option maxHeartbeats 1000000 in
theorem var4_any (l:Int) (w:World):Calls Tryz.prog 100 #[.int .i64 l] w fun e w'=>e = .returned (.int .i64 (varF l))∧w = w':=by
 by_cases h1:1≤l
 ·have d1:decide (l≥1) = true:=decide_eq_true h1
  by_cases h2:l≤128
  ·have d2:decide (l≤128) = true:=decide_eq_true h2
   have hr:Hid (varF l = l):=Lib.hid (by unfold varF;rw [if_pos ⟨h1,h2⟩])
   go_enter Tryz.func100,Tryz.ntmps100
   go_wp2_with fail
   go_ret
   exact ⟨by rw [hr.out] <;> rfl,rfl⟩
  ·have d2:decide (l≤128) = false:=decide_eq_false h2
   have d3:decide (l≥-128) = true:=decide_eq_true (by omega)
   have d4:decide (l≤-1) = false:=decide_eq_false (by omega)
   have hr:Hid (varF l = 0):=Lib.hid (by unfold varF;rw [if_neg (by omega),if_neg (by omega)])
   go_enter Tryz.func100,Tryz.ntmps100
   go_wp2_with fail
   go_ret
   exact ⟨by rw [hr.out] <;> rfl,rfl⟩
 ·have d1:decide (l≥1) = false:=decide_eq_false h1
  by_cases h2:-128≤l
  ·have d3:decide (l≥-128) = true:=decide_eq_true h2
   by_cases h3:l≤-1
   ·have d4:decide (l≤-1) = true:=decide_eq_true h3
    have hr:Hid (varF l = -l):=Lib.hid (by unfold varF;rw [if_neg (by omega),if_pos (by omega)])
    have wn:wrap64 (-l) = -l:=by unfold wrap64;omega
    go_enter Tryz.func100,Tryz.ntmps100
    go_wp2_with fail
    go_ret
    exact ⟨by rw [hr.out] <;> rfl,rfl⟩
   ·have d4:decide (l≤-1) = false:=decide_eq_false h3
    have hr:Hid (varF l = 0):=Lib.hid (by unfold varF;rw [if_neg (by omega),if_neg (by omega)])
    go_enter Tryz.func100,Tryz.ntmps100
    go_wp2_with fail
    go_ret
    exact ⟨by rw [hr.out] <;> rfl,rfl⟩
  ·have d3:decide (l≥-128) = false:=decide_eq_false h2
   have hr:Hid (varF l = 0):=Lib.hid (by unfold varF;rw [if_neg (by omega),if_neg (by omega)])
   go_enter Tryz.func100,Tryz.ntmps100
   go_wp2_with fail
   go_ret
   exact ⟨by rw [hr.out] <;> rfl,rfl⟩
theorem varF_nn (l:Int):0≤varF l:=by unfold varF;split <;> (try split) <;> omega
set_option maxRecDepth 100000 in
set_option maxHeartbeats 1000000 in
theorem valid4_any {n l:Int} (h0:0≤n) (h1:n≤128) (w:World):Calls Tryz.prog 88 #[.int .i64 l,.int .i64 n] w fun e w'=>e = .returned (.bool (L.validB n l))∧w = w':=by
 have q:=fun W=>var4_any l W
 have hv:=validB_var (l:=l) h0 h1
 have hnn:=varF_nn l
 generalize varF l = v at *
 generalize L.validB n l = B at *
 by_cases hz:v = 0
 ·have d1:decide (v > 0) = false:=decide_eq_false (by omega)
  have hB:Hid (B = false):=Lib.hid (by rw [hv,decide_eq_false (by omega)];rfl)
  replace hv:=Lib.hid hv
  replace hz:=Lib.hid hz
  go_enter Tryz.func88,Tryz.ntmps88
  go_wp2_with (go_at_call 100;refine (q _).mono ?_;rintro e w' ⟨rfl,rfl⟩)
  go_ret
  exact ⟨by rw [hB.out] <;> rfl,rfl⟩
 ·have d1:decide (v > 0) = true:=decide_eq_true (by omega)
  have hB:Hid (B = decide (v≤n)):=Lib.hid (by rw [hv,decide_eq_true hz,Bool.true_and])
  replace hv:=Lib.hid hv
  replace hz:=Lib.hid hz
  go_enter Tryz.func88,Tryz.ntmps88
  go_wp2_with (go_at_call 100;refine (q _).mono ?_;rintro e w' ⟨rfl,rfl⟩)
  go_ret
  exact ⟨by rw [hB.out] <;> rfl,rfl⟩
set_option maxRecDepth 100000 in
set_option maxHeartbeats 1000000 in
theorem has20_any {w:World} {v:Value} {l:List Int} (x:Int) (hv:SlI w v l) (hl:l.length≤9223372036854775807) :
  Calls Tryz.prog 101 #[v,.int .i64 x] w fun e w'=>e = .returned (.bool (decide (x∈l)))∧w = w':=by
 obtain ⟨ba,cp,rfl,hcs⟩:=hv.shape
 clear hv
 replace hcs:=Lib.hid hcs
 go_enter Tryz.func101,Tryz.ntmps101
 go_wp2_with fail
 go_loopw [5] (fun i wr=>∃ k:Nat,k≤l.length∧i = .int .i64 (k:Int)∧Hid (∀ j (hj:j < l.length),j < k→l[j]≠x)∧w = wr) (fun i _=>l.length - (intOf i).toNat)
 case atStart=>exact ⟨0,by omega,rfl,Lib.hid (fun j _ h=>absurd h (Nat.not_lt_zero _)),rfl⟩
 case round =>
  obtain ⟨k,hk,rfl,hI,rfl⟩:=hrel
  by_cases hlt:k < l.length
  ·have d0:decide ((k:Int) < (l.length:Int)) = true:=decide_eq_true (by omega)
   have g0':(0:Int)≤(k:Int):=by omega
   have g1:(k:Int) < (l.length:Int):=by omega
   obtain ⟨b,o,rfl,hc⟩:=hcs.out k hlt
   have hmem:l[k]∈l:=List.getElem_mem hlt
   have hnx:l[k]≠x→Hid (∀ j (hj:j < l.length),j < k+1→l[j]≠x):=fun h=>Lib.hid fun j hj hjk=>by
    by_cases e:j = k
    ·subst e;exact h
    ·exact hI.out j hj (by omega)
   generalize l[k] = u at *
   by_cases hu:u = x
   ·have dx:(u == x) = true:=by simpa using hu
    have hr:Hid (decide (x∈l) = true):=Lib.hid (decide_eq_true (by rw [←hu];exact hmem))
    replace hu:=Lib.hid hu
    replace hmem:=Lib.hid hmem
    clear hnx
    go_wp2_with fail
    go_ret
    exact ⟨by rw [hr.out] <;> rfl,rfl⟩
   ·have dx:(u == x) = false:=by simpa using hu
    have hnx2:=hnx hu
    replace hu:=Lib.hid hu
    replace hmem:=Lib.hid hmem
    clear hnx
    go_wp2_with fail
    go_roundw
    case rel=>exact ⟨k+1,by omega,by go_num,hnx2,by first | rfl | trivial⟩
    case measure=>simp [intOf];omega
  ·obtain rfl:k = l.length:=by omega
   have d0:decide ((l.length:Int) < (l.length:Int)) = false:=decide_eq_false (by omega)
   have hr:Hid (decide (x∈l) = false):=Lib.hid (decide_eq_false fun h=>by
    obtain ⟨j,hj,e⟩:=List.getElem_of_mem h
    exact hI.out j hj hj e)
   go_wp2_with fail
   go_ret
   exact ⟨by rw [hr.out] <;> rfl,rfl⟩
set_option maxRecDepth 100000 in
set_option maxHeartbeats 4000000 in
theorem same4_full {w:World} {v v':Value} {l l':List Int} (hv:SlI w v l) (hv':SlI w v' l') (hl:l.length≤9223372036854775807) (hl':l'.length≤9223372036854775807) :
  Calls Tryz.prog 69 #[v,v'] w fun e w'=>e = .returned (.bool (decide (l = l')))∧Ext w w':=by
 obtain ⟨ba,cp,rfl,hcs⟩:=hv.shape
 obtain ⟨ba',cp',rfl,hcs'⟩:=hv'.shape
 clear hv hv'
 replace hcs:=Lib.hid hcs
 replace hcs':=Lib.hid hcs'
 by_cases hle:l.length = l'.length
 ·have dn:((l.length:Int) != (l'.length:Int)) = false:=by simp [hle]
  replace hle:=Lib.hid hle
  go_enter Tryz.func69,Tryz.ntmps69
  go_wp2_with fail
  go_loopw [5] (fun i wr=>∃ k:Nat,k≤l.length∧i = .int .i64 (k:Int)∧Hid (∀ j (hj:j < l.length) (hj':j < l'.length),j < k→l[j] = l'[j])∧Hid (Ext w wr)) (fun i _=>l.length - (intOf i).toNat)
  case atStart=>exact ⟨0,by omega,rfl,Lib.hid (fun j _ _ h=>absurd h (Nat.not_lt_zero _)),Lib.hid (Ext.refl _)⟩
  case round =>
   obtain ⟨k,hk,rfl,hI,hX⟩:=hrel
   by_cases hlt:k < l.length
   ·have hlt':k < l'.length:=by have:=hle.out;omega
    have d0:decide ((k:Int) < (l.length:Int)) = true:=decide_eq_true (by omega)
    have g0':(0:Int)≤(k:Int):=by omega
    have g1:(k:Int) < (l.length:Int):=by omega
    have g2:(k:Int) < (l'.length:Int):=by omega
    obtain ⟨b,o,rfl,hc⟩:=hcs.out k hlt
    obtain ⟨b',o',rfl,hc'⟩:=hcs'.out k hlt'
    have hd:=Lib.hid (hX.out.trans ((Ext.refl wr).drew))
    have m0:=hd.out.cell hc
    have m1:=hd.out.cell hc'
    have hne:l[k]≠l'[k]→Hid (decide (l = l') = false):=fun h=>Lib.hid (decide_eq_false fun e=>by subst e;exact h rfl)
    have hnx:l[k] = l'[k]→Hid (∀ j (hj:j < l.length) (hj':j < l'.length),j < k+1→l[j] = l'[j]):=fun h=>Lib.hid fun j hj hj' hjk=>by
     by_cases e:j = k
     ·subst e;exact h
     ·exact hI.out j hj hj' (by omega)
    generalize l[k] = u at *
    generalize l'[k] = u' at *
    replace hc:=Lib.hid hc
    replace hc':=Lib.hid hc'
    by_cases hu:u = u'
    ·have dx:(u != u') = false:=by simpa using hu
     have hnx2:=hnx hu
     replace hu:=Lib.hid hu
     clear hnx hne
     go_wp2_with fail
     (refine wp_region_held_drew (S:=(fun V=>V.cell? ⟨b,o+k,none⟩ = some (.int .i64 u)∧V.cell? ⟨b',o'+k,none⟩ = some (.int .i64 u'))) (by kernel_rfl) ?_ (fun hHeld=>?_))
     ·exact ⟨m0,m1⟩
     (refine takeL (i:=0) (v:=?_) rfl (by kernel_rfl) (by kernel_rfl) (by kernel_rfl) (fun _ _ _ h=>h) (Or.inl ⟨by rfl,?_⟩) (by assumption) ?_)
     rotate_left
     ·(intro w hSw;(try dsimp only at hSw);go_simp;first | done | with_reducible rfl)
     (try simp only [Act.put,List.setIfInBounds_toArray,List.set_cons_zero,List.set_cons_succ])
     (refine takeL (i:=1) (v:=?_) rfl (by kernel_rfl) (by kernel_rfl) (by kernel_rfl) (fun _ _ _ h=>h) (Or.inl ⟨by rfl,?_⟩) (by assumption) ?_)
     rotate_left
     ·(intro w hSw;(try dsimp only at hSw);go_simp;first | done | with_reducible rfl)
     (try simp only [Act.put,List.setIfInBounds_toArray,List.set_cons_zero,List.set_cons_succ])
     (refine takeL (i:=2) (v:=?_) rfl (by kernel_rfl) (by kernel_rfl) (by kernel_rfl) (fun _ _ _ h=>h) (Or.inl ⟨by rfl,?_⟩) (by assumption) ?_)
     rotate_left
     ·(intro w hSw;(try dsimp only at hSw);go_simp;first | done | with_reducible rfl)
     (try simp only [Act.put,List.setIfInBounds_toArray,List.set_cons_zero,List.set_cons_succ])
     (refine takeL (i:=3) (v:=?_) rfl (by kernel_rfl) (by kernel_rfl) (by kernel_rfl) (fun _ _ _ h=>h) (Or.inl ⟨by rfl,?_⟩) (by assumption) ?_)
     rotate_left
     ·(intro w hSw;(try dsimp only at hSw);go_simp;first | done | with_reducible rfl)
     (try simp only [Act.put,List.setIfInBounds_toArray,List.set_cons_zero,List.set_cons_succ])
     (refine takeL (i:=4) (v:=?_) rfl (by kernel_rfl) (by kernel_rfl) (by kernel_rfl) (fun _ _ _ h=>h) (Or.inl ⟨by rfl,?_⟩) (by assumption) ?_)
     rotate_left
     ·(intro w hSw;(try dsimp only at hSw);go_simp;first | done | with_reducible rfl)
     (try simp only [Act.put,List.setIfInBounds_toArray,List.set_cons_zero,List.set_cons_succ])
     (refine takeL (i:=5) (v:=?_) rfl (by kernel_rfl) (by kernel_rfl) (by kernel_rfl) (fun _ _ _ h=>h) (Or.inl ⟨by rfl,?_⟩) (by assumption) ?_)
     rotate_left
     ·(intro w hSw;(try dsimp only at hSw);go_simp;first | done | with_reducible rfl)
     (try simp only [Act.put,List.setIfInBounds_toArray,List.set_cons_zero,List.set_cons_succ])
     (refine takeL (i:=6) (v:=?_) rfl (by kernel_rfl) (by kernel_rfl) (by kernel_rfl) (fun _ _ _ h=>h) (Or.inl ⟨by rfl,?_⟩) (by assumption) ?_)
     rotate_left
     ·(intro w hSw;(try dsimp only at hSw);go_simp;first | done | with_reducible rfl)
     (try simp only [Act.put,List.setIfInBounds_toArray,List.set_cons_zero,List.set_cons_succ])
     (refine takeL (i:=7) (v:=?_) rfl (by kernel_rfl) (by kernel_rfl) (by kernel_rfl) (fun _ _ _ h=>h) (Or.inl ⟨by rfl,?_⟩) (by assumption) ?_)
     rotate_left
     ·(intro w hSw;(try dsimp only at hSw);go_simp;first | done | with_reducible rfl)
     (try simp only [Act.put,List.setIfInBounds_toArray,List.set_cons_zero,List.set_cons_succ])
     (refine takeL (i:=8) (v:=?_) rfl (by kernel_rfl) (by kernel_rfl) (by kernel_rfl) (fun _ _ _ h=>h) (Or.inl ⟨by rfl,?_⟩) (by assumption) ?_)
     rotate_left
     ·(intro w hSw;(try dsimp only at hSw);go_simp;first | done | with_reducible rfl)
     (try simp only [Act.put,List.setIfInBounds_toArray,List.set_cons_zero,List.set_cons_succ])
     (refine wpAnyH_done (by kernel_rfl) ?_ _)
     clear hHeld
     go_wp2_with fail
     go_roundw
     case rel=>exact ⟨k+1,by omega,by go_num,hnx2,hd⟩
     case measure=>simp [intOf];omega
    ·have dx:(u != u') = true:=by simpa using hu
     have hr:=hne hu
     replace hu:=Lib.hid hu
     clear hnx hne
     go_wp2_with fail
     (refine wp_region_held_drew (S:=(fun V=>V.cell? ⟨b,o+k,none⟩ = some (.int .i64 u)∧V.cell? ⟨b',o'+k,none⟩ = some (.int .i64 u'))) (by kernel_rfl) ?_ (fun hHeld=>?_))
     ·exact ⟨m0,m1⟩
     (refine takeL (i:=0) (v:=?_) rfl (by kernel_rfl) (by kernel_rfl) (by kernel_rfl) (fun _ _ _ h=>h) (Or.inl ⟨by rfl,?_⟩) (by assumption) ?_)
     rotate_left
     ·(intro w hSw;(try dsimp only at hSw);go_simp;first | done | with_reducible rfl)
     (try simp only [Act.put,List.setIfInBounds_toArray,List.set_cons_zero,List.set_cons_succ])
     (refine takeL (i:=1) (v:=?_) rfl (by kernel_rfl) (by kernel_rfl) (by kernel_rfl) (fun _ _ _ h=>h) (Or.inl ⟨by rfl,?_⟩) (by assumption) ?_)
     rotate_left
     ·(intro w hSw;(try dsimp only at hSw);go_simp;first | done | with_reducible rfl)
     (try simp only [Act.put,List.setIfInBounds_toArray,List.set_cons_zero,List.set_cons_succ])
     (refine takeL (i:=2) (v:=?_) rfl (by kernel_rfl) (by kernel_rfl) (by kernel_rfl) (fun _ _ _ h=>h) (Or.inl ⟨by rfl,?_⟩) (by assumption) ?_)
     rotate_left
     ·(intro w hSw;(try dsimp only at hSw);go_simp;first | done | with_reducible rfl)
     (try simp only [Act.put,List.setIfInBounds_toArray,List.set_cons_zero,List.set_cons_succ])
     (refine takeL (i:=3) (v:=?_) rfl (by kernel_rfl) (by kernel_rfl) (by kernel_rfl) (fun _ _ _ h=>h) (Or.inl ⟨by rfl,?_⟩) (by assumption) ?_)
     rotate_left
     ·(intro w hSw;(try dsimp only at hSw);go_simp;first | done | with_reducible rfl)
     (try simp only [Act.put,List.setIfInBounds_toArray,List.set_cons_zero,List.set_cons_succ])
     (refine takeL (i:=4) (v:=?_) rfl (by kernel_rfl) (by kernel_rfl) (by kernel_rfl) (fun _ _ _ h=>h) (Or.inl ⟨by rfl,?_⟩) (by assumption) ?_)
     rotate_left
     ·(intro w hSw;(try dsimp only at hSw);go_simp;first | done | with_reducible rfl)
     (try simp only [Act.put,List.setIfInBounds_toArray,List.set_cons_zero,List.set_cons_succ])
     (refine takeL (i:=5) (v:=?_) rfl (by kernel_rfl) (by kernel_rfl) (by kernel_rfl) (fun _ _ _ h=>h) (Or.inl ⟨by rfl,?_⟩) (by assumption) ?_)
     rotate_left
     ·(intro w hSw;(try dsimp only at hSw);go_simp;first | done | with_reducible rfl)
     (try simp only [Act.put,List.setIfInBounds_toArray,List.set_cons_zero,List.set_cons_succ])
     (refine takeL (i:=6) (v:=?_) rfl (by kernel_rfl) (by kernel_rfl) (by kernel_rfl) (fun _ _ _ h=>h) (Or.inl ⟨by rfl,?_⟩) (by assumption) ?_)
     rotate_left
     ·(intro w hSw;(try dsimp only at hSw);go_simp;first | done | with_reducible rfl)
     (try simp only [Act.put,List.setIfInBounds_toArray,List.set_cons_zero,List.set_cons_succ])
     (refine takeL (i:=7) (v:=?_) rfl (by kernel_rfl) (by kernel_rfl) (by kernel_rfl) (fun _ _ _ h=>h) (Or.inl ⟨by rfl,?_⟩) (by assumption) ?_)
     rotate_left
     ·(intro w hSw;(try dsimp only at hSw);go_simp;first | done | with_reducible rfl)
     (try simp only [Act.put,List.setIfInBounds_toArray,List.set_cons_zero,List.set_cons_succ])
     (refine takeL (i:=8) (v:=?_) rfl (by kernel_rfl) (by kernel_rfl) (by kernel_rfl) (fun _ _ _ h=>h) (Or.inl ⟨by rfl,?_⟩) (by assumption) ?_)
     rotate_left
     ·(intro w hSw;(try dsimp only at hSw);go_simp;first | done | with_reducible rfl)
     (try simp only [Act.put,List.setIfInBounds_toArray,List.set_cons_zero,List.set_cons_succ])
     (refine wpAnyH_done (by kernel_rfl) ?_ _)
     clear hHeld
     go_wp2_with fail
     go_ret
     exact ⟨by rw [hr.out] <;> rfl,hd.out⟩
   ·obtain rfl:k = l.length:=by omega
    have d0:decide ((l.length:Int) < (l.length:Int)) = false:=decide_eq_false (by omega)
    have hr:Hid (decide (l = l') = true):=Lib.hid (decide_eq_true (List.ext_getElem hle.out fun j h1 h2=>hI.out j h1 h2 h1))
    go_wp2_with fail
    go_ret
    exact ⟨by rw [hr.out] <;> rfl,hX.out⟩
 ·have dn:((l.length:Int) != (l'.length:Int)) = true:=by
   rw [bne_iff_ne];omega
  have hr:Hid (decide (l = l') = false):=Lib.hid (decide_eq_false fun e=>hle (by rw [e]))
  replace hle:=Lib.hid hle
  go_enter Tryz.func69,Tryz.ntmps69
  go_wp2_with fail
  go_ret
  exact ⟨by rw [hr.out] <;> rfl,Ext.refl _⟩
end Go.Proofs.YtckhohpbokojdaaGreatDoor
end
section
set_option linter.unusedSimpArgs false
set_option linter.unusedVariables false
namespace Go.Proofs.YtckhohpbokojdaaGreatDoor
open Go Go.RowKit Go.Shelf
set_option maxRecDepth 100000 in
set_option maxHeartbeats 4000000 in
theorem sameNode_full {kd lt kd' lt':Int} {w:World} {u u':Value} {l l':List Int} (hu:SlI w u l) (hu':SlI w u' l') (hl:l.length≤9223372036854775807) (hl':l'.length≤9223372036854775807) :
  Calls Tryz.prog 44 #[.agg #[.int .i64 kd,.int .i64 lt,u],.agg #[.int .i64 kd',.int .i64 lt',u']] w fun e w'=>e = .returned (.bool (decide (kd = kd'∧lt = lt'∧l = l')))∧Ext w w':=by
 obtain ⟨e0,e1⟩:=alloc2h w (.cells #[.int .i64 kd,.int .i64 lt,u] 40) (.cells #[.int .i64 kd',.int .i64 lt',u'] 40)
 have hx1:Ext w ((w.alloc (.cells #[.int .i64 kd,.int .i64 lt,u] 40)).alloc (.cells #[.int .i64 kd',.int .i64 lt',u'] 40)):=((Ext.refl w).alloc _).alloc _
 have q:=same4_full (hu.ext hx1.below) (hu'.ext hx1.below) hl hl'
 obtain ⟨w1,hw1⟩:∃ w1,w1 = (w.alloc (.cells #[.int .i64 kd,.int .i64 lt,u] 40)).alloc (.cells #[.int .i64 kd',.int .i64 lt',u'] 40):=⟨_,rfl⟩
 rw [←hw1] at e0 e1 hx1 q
 obtain ⟨ba,cp,rfl,-⟩:=hu
 obtain ⟨ba',cp',rfl,-⟩:=hu'
 have y0:w1.cell? ⟨w.heap.size,0,none⟩ = some (.int .i64 kd):=by rw [World.cell?,e0];rfl
 have y1:w1.cell? ⟨w.heap.size,1,none⟩ = some (.int .i64 lt):=by rw [World.cell?,e0];rfl
 have y2:w1.cell? ⟨w.heap.size,2,none⟩ = some (.slice ba l.length cp):=by rw [World.cell?,e0];rfl
 have y3:w1.cell? ⟨w.heap.size+1,0,none⟩ = some (.int .i64 kd'):=by rw [World.cell?,e1];rfl
 have y4:w1.cell? ⟨w.heap.size+1,1,none⟩ = some (.int .i64 lt'):=by rw [World.cell?,e1];rfl
 have y5:w1.cell? ⟨w.heap.size+1,2,none⟩ = some (.slice ba' l'.length cp'):=by rw [World.cell?,e1];rfl
 replace e0:=Lib.hid e0
 replace e1:=Lib.hid e1
 replace hx1:=Lib.hid hx1
 rw [hw1] at y0 y1 y2 y3 y4 y5
 have hR:kd = kd'→lt = lt'→Hid (decide (kd = kd'∧lt = lt'∧l = l') = decide (l = l')):=fun h1 h2=>Lib.hid (decide_eq_decide.2 ⟨fun h=>h.2.2,fun h=>⟨h1,h2,h⟩⟩)
 have hR1:kd≠kd'→Hid (decide (kd = kd'∧lt = lt'∧l = l') = false):=fun h1=>Lib.hid (decide_eq_false fun h=>h1 h.1)
 have hR2:lt≠lt'→Hid (decide (kd = kd'∧lt = lt'∧l = l') = false):=fun h1=>Lib.hid (decide_eq_false fun h=>h1 h.2.1)
 generalize decide (kd = kd'∧lt = lt'∧l = l') = R at *
 generalize decide (l = l') = B at *
 by_cases h1:kd = kd'
 ·have d1:(kd == kd') = true:=by simpa using h1
  by_cases h2:lt = lt'
  ·have d2:(lt == lt') = true:=by simpa using h2
   have hr:=hR h1 h2
   replace h1:=Lib.hid h1
   replace h2:=Lib.hid h2
   clear hR hR1 hR2
   go_enter Tryz.func44,Tryz.ntmps44
   go_wp2_with fail
   rw [←hw1]
   refine q.mono ?_
   rintro e w2 ⟨rfl,hx2⟩
   clear q y0 y1 y2 y3 y4 y5
   go_wp2_with fail
   go_ret
   exact ⟨by rw [hr.out] <;> rfl,hx1.out.trans hx2⟩
  ·have d2:(lt == lt') = false:=by simpa using h2
   have hr:=hR2 h2
   replace h1:=Lib.hid h1
   replace h2:=Lib.hid h2
   clear hR hR1 hR2
   go_enter Tryz.func44,Tryz.ntmps44
   go_wp2_with fail
   rw [←hw1]
   go_ret
   exact ⟨by rw [hr.out] <;> rfl,hx1.out⟩
 ·have d1:(kd == kd') = false:=by simpa using h1
  have hr:=hR1 h1
  replace h1:=Lib.hid h1
  clear hR hR1 hR2
  go_enter Tryz.func44,Tryz.ntmps44
  go_wp2_with fail
  rw [←hw1]
  go_ret
  exact ⟨by rw [hr.out] <;> rfl,hx1.out⟩
def RBat (fb lo base bx:Nat) (n:Int) (bl:List L.ND) (vL:Value) (us:List Value) (W:World):Prop :=
 W.heap[bx]? = some (.cells #[.int .i64 n,vL] 92 (0,0))∧W.ownsRow base 40 3 vL bl.length (gCells (bl.map L.ofND) us)∧RowsOf W base us (bl.map fun y=>castL y.inp)∧(lo≤bx∧lo≤base∧∀ u∈us,u.ownBlock≠some fb)
def RB (fb lo base bx:Nat) (n:Int) (bl:List L.ND) (W:World):Prop:=∃ vL us,RBat fb lo base bx n bl vL us W
section
variable {fb lo base bx:Nat} {n:Int} {bl:List L.ND} {vL:Value} {us:List Value} {W W':World}
theorem RBat.next (h:RBat fb lo base bx n bl vL us W) (hb:Below W.heap.size W W'):RBat fb lo base bx n bl vL us W':=by
 obtain ⟨h1,h2,h3,h5⟩:=h
 exact ⟨(hb.block _ (Array.getElem?_eq_some_iff.1 h1).1).trans h1,ownsRow_keep h2 (fun g c h=>hb.block g (Array.getElem?_eq_some_iff.1 h).1),h3.keep (fun g c h=>hb.block g (Array.getElem?_eq_some_iff.1 h).1),h5⟩
theorem RB.next (h:RB fb lo base bx n bl W) (hb:Below W.heap.size W W'):RB fb lo base bx n bl W':=by
 obtain ⟨vL,us,h⟩:=h
 exact ⟨vL,us,h.next hb⟩
theorem RBat.cells (h:RBat fb lo base bx n bl vL us W):W.cell? ⟨bx,0,none⟩ = some (.int .i64 n)∧W.cell? ⟨bx,1,none⟩ = some vL:=by
 refine ⟨?_,?_⟩ <;> (rw [World.cell?,h.1];rfl)
theorem RBat.shape (h:RBat fb lo base bx n bl vL us W):∃ ba cp,vL = .slice ba bl.length cp:=by
 obtain ⟨_,⟨rfl,e⟩ | ⟨g,cap,cur,rfl,_⟩⟩:=h.2.1
 ·rw [e];exact ⟨_,_,rfl⟩
 ·exact ⟨_,_,rfl⟩
theorem RBat.grow {b1 m:Nat} {v v6:Value} {xs:List Value} {w6:World} (h:RBat fb lo base bx n bl vL us W) (ho:W.ownsRow b1 3 1 v m xs) (hv:∀ k,v.ownBlock = some k→k = fb) (hg:W.grownBy w6 v.ownBlock) (hv6:v6.ownBlock = v.ownBlock∨v6.ownBlock = some W.heap.size) {xs6:List Value} {m6:Nat} (ho6:w6.ownsRow b1 3 1 v6 m6 xs6) (hf:fb < W.heap.size):∃ fb',(∀ k,v6.ownBlock = some k→k = fb')∧fb' < w6.heap.size∧RBat fb' lo base bx n bl vL us w6:=by
 obtain ⟨h1,h2,h3,h4⟩:=h
 have hk:∀ {g:Nat} {c:Array Value} {t:TypeId},W.heap[g]? = some (.cells c t (0,0))→t≠3→w6.heap[g]? = some (.cells c t (0,0)):=fun {g c t} e ht=>(grown_other ho hg e ht).trans e
 have hrows:RowsOf w6 base us (bl.map fun y=>castL y.inp):=⟨h3.1,fun i u c hu hc=>by
  obtain ⟨a,hh | ⟨g,cap,cur,rfl,hgb,hgh,hrr⟩⟩:=h3.2 i u c hu hc
  ·exact ⟨a,.inl hh⟩
  ·refine ⟨a,.inr ⟨g,cap,cur,rfl,hgb,?_,hrr⟩⟩
   refine (hg.block g (Array.getElem?_eq_some_iff.1 hgh).1 (fun e=>?_)).trans hgh
   exact h4.2.2 _ (List.mem_of_getElem? hu) (by rw [hv g e.symm] at *;simp [Value.ownBlock])⟩
 have hlt:∀ u∈us,∀ k,u.ownBlock = some k→k < W.heap.size:=fun u hu k e=>by
  obtain ⟨i,hi,rfl⟩:=List.getElem_of_mem hu
  have hr:=h3.2 i us[i] ((bl.map fun y=>castL y.inp)[i]'(by rw [←h3.1];exact hi)) (List.getElem?_eq_getElem hi) (List.getElem?_eq_getElem _)
  obtain ⟨a,⟨hh,_⟩ | ⟨g,cap,cur,hh,hgb,hgh,hrr⟩⟩:=hr
  ·rw [hh] at e;simp [Value.ownBlock] at e
  ·rw [hh] at e;simp [Value.ownBlock] at e
   rw [←e];exact (Array.getElem?_eq_some_iff.1 hgh).1
 rcases hv6 with e | e
 ·exact ⟨fb,fun k hk=>hv k (by rw [←e];exact hk),Nat.lt_of_lt_of_le hf hg.size,hk h1 (by decide),ownsRow_keep h2 (fun g c h=>grown_other ho hg h (by decide)),hrows,h4⟩
 ·exact ⟨W.heap.size,fun k hk=>by rw [e] at hk;cases hk;rfl,by
   obtain ⟨_,hc⟩:=own_blk ho6 e
   exact (Array.getElem?_eq_some_iff.1 hc).1,hk h1 (by decide),ownsRow_keep h2 (fun g c h=>grown_other ho hg h (by decide)),hrows,h4.1,h4.2.1,fun u hu e'=>absurd (hlt u hu _ e') (Nat.lt_irrefl _)⟩
end
end Go.Proofs.YtckhohpbokojdaaGreatDoor
end
