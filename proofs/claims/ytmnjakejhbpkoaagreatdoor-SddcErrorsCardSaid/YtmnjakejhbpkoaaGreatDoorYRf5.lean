import Derived.Test.YtmnjakejhbpkoaaGreatDoorYThy2
set_option linter.unusedSimpArgs false
set_option linter.unusedVariables false
namespace Go.Proofs.YtmnjakejhbpkoaaGreatDoor
open Go Go.RowKit Go.Shelf
set_option maxRecDepth 100000 in
set_option maxHeartbeats 2000000 in
theorem rvalid_any {n l:Int} (h0:0≤n) (h1:n≤128) (w:World):Calls Tryz.prog 85 #[.int .i64 l,.int .i64 n] w fun e w'=>e = .returned (.bool (L.validB n l))∧w = w':=by
 have wn:wrap64 (-n) = -n:=by unfold wrap64;omega
 by_cases a:l = 0
 ·have d:(l != 0) = false:=by simp [a]
  have hr:Hid (L.validB n l = false):=Lib.hid (by unfold L.validB;rw [decide_eq_false (by omega:¬ l≠0)];rfl)
  replace a:=Lib.hid a
  go_enter Tryz.func85,Tryz.ntmps85
  go_wp2_with fail
  go_ret
  exact ⟨by rw [hr.out] <;> rfl,rfl⟩
 have d:(l != 0) = true:=by simpa using a
 by_cases b:l≥-n
 ·have d2:decide (l≥-n) = true:=decide_eq_true b
  have hr:Hid (L.validB n l = decide (l≤n)):=Lib.hid (by unfold L.validB;rw [decide_eq_true (a:l≠0),decide_eq_true (by omega:-n≤l)];rfl)
  replace a:=Lib.hid a
  go_enter Tryz.func85,Tryz.ntmps85
  go_wp2_with fail
  go_ret
  exact ⟨by rw [hr.out] <;> rfl,rfl⟩
 ·have d2:decide (l≥-n) = false:=decide_eq_false b
  have hr:Hid (L.validB n l = false):=Lib.hid (by unfold L.validB;rw [decide_eq_false (by omega:¬ -n≤l)];simp)
  replace a:=Lib.hid a
  go_enter Tryz.func85,Tryz.ntmps85
  go_wp2_with fail
  go_ret
  exact ⟨by rw [hr.out] <;> rfl,rfl⟩
set_option maxRecDepth 100000 in
set_option maxHeartbeats 1000000 in
theorem rcheck_any {n:Int} {T:List (List Int)} {v:Value} {w:World} (hv:SlT w v T) :
  Calls Tryz.prog 22 #[.agg #[.int .i64 n,v]] w fun e w'=>e = .returned (.int .i64 (L.thChk n T))∧Ext w w':=by
 obtain ⟨ba,cp,rfl,hv⟩:=hv
 have hx1:Ext w (w.alloc (.cells #[.int .i64 n,.slice ba T.length cp] 24)):=(Ext.refl w).alloc _
 have hn1:=heap_alloc_new w (.cells #[.int .i64 n,.slice ba T.length cp] 24)
 obtain ⟨w1,hw1⟩:∃ w1,w1 = w.alloc (.cells #[.int .i64 n,.slice ba T.length cp] 24):=⟨_,rfl⟩
 rw [←hw1] at hx1 hn1
 have c0:w1.cell? ⟨w.heap.size,0,none⟩ = some (.int .i64 n):=by simp [World.cell?,hn1]
 have c1:w1.cell? ⟨w.heap.size,1,none⟩ = some (.slice ba T.length cp):=by simp [World.cell?,hn1]
 have hcs:∀ j (hj:j < T.length),∃ b o u,ba = some ⟨b,o,none⟩∧w1.cell? ⟨b,o+j,none⟩ = some u∧SlI w1 u T[j]:=fun j hj=>by
  rcases hv with ⟨_,rfl,_⟩ | ⟨b,o,rfl,h⟩
  ·simp at hj
  ·obtain ⟨u,h1,h2⟩:=h j hj
   exact ⟨b,o,u,rfl,hx1.cell h1,h2.ext hx1.below⟩
 replace hcs:=Lib.hid hcs
 clear hv hn1
 replace hx1:=Lib.hid hx1
 by_cases hn0:n < 0
 ·have d0:decide (n < 0) = true:=decide_eq_true hn0
  have hr:L.thChk n T = 6:=by unfold L.thChk;rw [if_pos (.inl hn0)]
  rw [hr]
  clear hr hn0
  go_enter Tryz.func22,Tryz.ntmps22
  go_wp2_with fail
  rw [←hw1]
  replace hw1:=Lib.hid hw1
  go_wp2_with fail
  go_ret
  exact ⟨rfl,hx1.out⟩
 have d0:decide (n < 0) = false:=decide_eq_false hn0
 by_cases hn1:n > 128
 ·have d1:decide (n > 128) = true:=decide_eq_true hn1
  have hr:L.thChk n T = 6:=by unfold L.thChk;rw [if_pos (.inr hn1)]
  rw [hr]
  clear hr hn0 hn1
  go_enter Tryz.func22,Tryz.ntmps22
  go_wp2_with fail
  rw [←hw1]
  replace hw1:=Lib.hid hw1
  go_wp2_with fail
  go_ret
  exact ⟨rfl,hx1.out⟩
 have d1:decide (n > 128) = false:=decide_eq_false hn1
 by_cases hl:(T.length:Int) > 4096
 ·have d2:decide ((T.length:Int) > 4096) = true:=decide_eq_true hl
  have hr:L.thChk n T = 2:=by unfold L.thChk;rw [if_neg (by omega),if_pos (by omega)]
  rw [hr]
  clear hr hn0 hn1 hl
  go_enter Tryz.func22,Tryz.ntmps22
  go_wp2_with fail
  rw [←hw1]
  replace hw1:=Lib.hid hw1
  go_wp2_with fail
  go_ret
  exact ⟨rfl,hx1.out⟩
 have d2:decide ((T.length:Int) > 4096) = false:=decide_eq_false hl
 rw [th_scan (by omega) (by omega) (by omega)]
 have qv:=fun l W=>rvalid_any (n:=n) (l:=l) (by omega) (by omega) W
 replace qv:=Lib.hid qv
 go_enter Tryz.func22,Tryz.ntmps22
 go_wp2_with fail
 rw [←hw1]
 replace hw1:=Lib.hid hw1
 go_wp2_with fail
 clear d0 d1 d2
 have c0':=Lib.hid c0
 have c1':=Lib.hid c1
 go_loopw [3] (fun i wr=>∃ k:Nat,k≤T.length∧i = .int .i64 k∧(∀ j (hj:j < k) (hj2:j < T.length),L.clChk n T[j] = 0)∧Ext w1 wr) (fun i _=>T.length - (intOf i).toNat)
 case atStart=>exact ⟨0,Nat.zero_le _,rfl,(fun j hj=>by omega),Ext.refl _⟩
 case round =>
  obtain ⟨k,hk,rfl,hgood,hxr⟩:=hrel
  have b0:=hxr.cell c0
  have b1:=hxr.cell c1
  replace hgood:=Lib.hid hgood
  have g0:(0:Int)≤k:=by omega
  by_cases hlt:k < T.length
  ·have glt:(k:Int) < T.length:=by omega
   obtain ⟨b,o,u,rfl,f1',f2⟩:=hcs.out k hlt
   have f1:=hxr.cell f1'
   obtain ⟨bb,cc,rfl,f2⟩:=f2
   have hbad:=fun c=>scan_bad (n:=n) (T:=T) hlt (c:=c) fun j hj=>hgood.out j hj (by omega)
   have hgood2:=hgood.out
   clear hcs hw1 hgood
   generalize hcT:T[k] = c at *
   have f3:∀ j (hj:j < c.length),∃ b o,bb = some ⟨b,o,none⟩∧w1.cell? ⟨b,o+j,none⟩ = some (.int .i64 c[j]):=fun j hj=>by
    rcases f2 with ⟨_,rfl,_⟩ | ⟨b,o,h1,h2⟩
    ·simp at hj
    ·exact ⟨b,o,h1,h2 j hj⟩
   replace f3:=Lib.hid f3
   clear f2
   replace hgood2:=Lib.hid hgood2
   replace hbad:=Lib.hid hbad
   replace hcT:=Lib.hid hcT
   replace hxr:=Lib.hid hxr
   by_cases hlen:(c.length:Int) > 128
   ·have d3:decide ((c.length:Int) > 128) = true:=decide_eq_true hlen
    have hr:=hbad.out 2 (cl_long (by omega)) (by decide)
    replace hr:=Lib.hid hr
    clear hlen
    go_wp2_with fail
    go_ret
    exact ⟨by rw [hr.out] <;> rfl,hx1.out.trans hxr.out⟩
   have d3:decide ((c.length:Int) > 128) = false:=decide_eq_false hlen
   clear c0 c1
   go_wp2_with fail
   clear b0 b1 f1
   go_loopw [4] (fun i w'=>∃ m:Nat,m≤c.length∧i = .int .i64 m∧(∀ j (hj:j < m) (hj2:j < c.length),L.validB n c[j] = true)∧Ext w1 w') (fun i _=>c.length - (intOf i).toNat)
   case atStart=>exact ⟨0,Nat.zero_le _,rfl,(fun j hj=>by omega),hxr.out⟩
   case round =>
    obtain ⟨m,hm,rfl,hv,hxm⟩:=hrel
    have b0:=hxm.cell c0'.out
    have b1:=hxm.cell c1'.out
    have f1:=hxm.cell f1'
    have g2:(0:Int)≤m:=by omega
    replace hv:=Lib.hid hv
    replace hxm:=Lib.hid hxm
    by_cases hlt2:m < c.length
    ·have glt2:(m:Int) < c.length:=by omega
     obtain ⟨b2,o2,rfl,f4'⟩:=f3.out m hlt2
     have f4:=hxm.out.cell f4'
     clear f4' f1'
     go_wp2_with fail
     have hbx:=hbad.out 1
     obtain ⟨x,hx⟩:∃ x,x = c[m]:=⟨_,rfl⟩
     rw [←hx] at f4
     replace hbx:=Lib.hid hbx
     replace hx:=Lib.hid hx
     (refine wp_region_held_drew (S:=(fun V=>V.cell? ⟨w.heap.size,0,none⟩ = some (.int .i64 n)∧V.cell? ⟨w.heap.size,1,none⟩ = some (.slice (some ⟨b,o,none⟩) T.length cp)∧V.cell? ⟨b,o+k,none⟩ = some (.slice (some ⟨b2,o2,none⟩) c.length cc)∧V.cell? ⟨b2,o2+m,none⟩ = some (.int .i64 x))) (by kernel_rfl) ?_ (fun hHeld=>?_))
     ·exact ⟨b0,b1,f1,f4⟩
     (refine takeL (i:=0) (v:=?_) rfl (by kernel_rfl) (by kernel_rfl) (by kernel_rfl) (fun _ _ _ h=>h) (Or.inl ⟨by rfl,?_⟩) (by assumption) ?_)
     rotate_left
     ·(intro w hSw;(try dsimp only at hSw);obtain ⟨s0,s1,s2,s3⟩:=hSw;go_simp;first | done | with_reducible rfl)
     (try simp only [Act.put,List.setIfInBounds_toArray,List.set_cons_zero,List.set_cons_succ])
     (refine takeL (i:=1) (v:=?_) rfl (by kernel_rfl) (by kernel_rfl) (by kernel_rfl) (fun _ _ _ h=>h) (Or.inl ⟨by rfl,?_⟩) (by assumption) ?_)
     rotate_left
     ·(intro w hSw;(try dsimp only at hSw);obtain ⟨s0,s1,s2,s3⟩:=hSw;go_simp;first | done | with_reducible rfl)
     (try simp only [Act.put,List.setIfInBounds_toArray,List.set_cons_zero,List.set_cons_succ])
     (refine takeL (i:=2) (v:=?_) rfl (by kernel_rfl) (by kernel_rfl) (by kernel_rfl) (fun _ _ _ h=>h) (Or.inl ⟨by rfl,?_⟩) (by assumption) ?_)
     rotate_left
     ·(intro w hSw;(try dsimp only at hSw);obtain ⟨s0,s1,s2,s3⟩:=hSw;go_simp;first | done | with_reducible rfl)
     (try simp only [Act.put,List.setIfInBounds_toArray,List.set_cons_zero,List.set_cons_succ])
     (refine takeL (i:=3) (v:=?_) rfl (by kernel_rfl) (by kernel_rfl) (by kernel_rfl) (fun _ _ _ h=>h) (Or.inl ⟨by rfl,?_⟩) (by assumption) ?_)
     rotate_left
     ·(intro w hSw;(try dsimp only at hSw);obtain ⟨s0,s1,s2,s3⟩:=hSw;go_simp;first | done | with_reducible rfl)
     (try simp only [Act.put,List.setIfInBounds_toArray,List.set_cons_zero,List.set_cons_succ])
     (refine takeL (i:=4) (v:=?_) rfl (by kernel_rfl) (by kernel_rfl) (by kernel_rfl) (fun _ _ _ h=>h) (Or.inl ⟨by rfl,?_⟩) (by assumption) ?_)
     rotate_left
     ·(intro w hSw;(try dsimp only at hSw);obtain ⟨s0,s1,s2,s3⟩:=hSw;go_simp;first | done | with_reducible rfl)
     (try simp only [Act.put,List.setIfInBounds_toArray,List.set_cons_zero,List.set_cons_succ])
     (refine takeL (i:=5) (v:=?_) rfl (by kernel_rfl) (by kernel_rfl) (by kernel_rfl) (fun _ _ _ h=>h) (Or.inl ⟨by rfl,?_⟩) (by assumption) ?_)
     rotate_left
     ·(intro w hSw;(try dsimp only at hSw);obtain ⟨s0,s1,s2,s3⟩:=hSw;go_simp;first | done | with_reducible rfl)
     (try simp only [Act.put,List.setIfInBounds_toArray,List.set_cons_zero,List.set_cons_succ])
     (refine takeL (i:=6) (v:=?_) rfl (by kernel_rfl) (by kernel_rfl) (by kernel_rfl) (fun _ _ _ h=>h) (Or.inl ⟨by rfl,?_⟩) (by assumption) ?_)
     rotate_left
     ·(intro w hSw;(try dsimp only at hSw);obtain ⟨s0,s1,s2,s3⟩:=hSw;go_simp;first | done | with_reducible rfl)
     (try simp only [Act.put,List.setIfInBounds_toArray,List.set_cons_zero,List.set_cons_succ])
     (refine takeL (i:=7) (v:=?_) rfl (by kernel_rfl) (by kernel_rfl) (by kernel_rfl) (fun _ _ _ h=>h) (Or.inl ⟨by rfl,?_⟩) (by assumption) ?_)
     rotate_left
     ·(intro w hSw;(try dsimp only at hSw);obtain ⟨s0,s1,s2,s3⟩:=hSw;go_simp;first | done | with_reducible rfl)
     (try simp only [Act.put,List.setIfInBounds_toArray,List.set_cons_zero,List.set_cons_succ])
     (refine takeL (i:=8) (v:=?_) rfl (by kernel_rfl) (by kernel_rfl) (by kernel_rfl) (fun _ _ _ h=>h) (Or.inl ⟨by rfl,?_⟩) (by assumption) ?_)
     rotate_left
     ·(intro w hSw;(try dsimp only at hSw);obtain ⟨s0,s1,s2,s3⟩:=hSw;go_simp;first | done | with_reducible rfl)
     (try simp only [Act.put,List.setIfInBounds_toArray,List.set_cons_zero,List.set_cons_succ])
     (refine takeL (i:=9) (v:=?_) rfl (by kernel_rfl) (by kernel_rfl) (by kernel_rfl) (fun _ _ _ h=>h) (Or.inl ⟨by rfl,?_⟩) (by assumption) ?_)
     rotate_left
     ·(intro w hSw;(try dsimp only at hSw);obtain ⟨s0,s1,s2,s3⟩:=hSw;go_simp;first | done | with_reducible rfl)
     (try simp only [Act.put,List.setIfInBounds_toArray,List.set_cons_zero,List.set_cons_succ])
     (refine wpAnyH_ready (rs:=[10]) (by kernel_rfl) (by simp) ?_)
     (refine consL rfl (fun K hK=>?_))
     ((rw [if_pos (by rfl)]);go_simp;(go_at_call 85);refine (qv.out x _).mono ?_;rintro e w2 ⟨rfl,rfl⟩;refine hK.out _ _ hHeld (fun hHeld=>?_))
     (clear hK K)
     (try simp only [Act.put,List.setIfInBounds_toArray,List.set_cons_zero,List.set_cons_succ])
     (refine takeL (i:=11) (v:=?_) rfl (by kernel_rfl) (by kernel_rfl) (by kernel_rfl) (fun _ _ _ h=>h) (Or.inl ⟨by rfl,?_⟩) (by assumption) ?_)
     rotate_left
     ·(intro w hSw;(try dsimp only at hSw);skip;go_simp;first | done | with_reducible rfl)
     (try simp only [Act.put,List.setIfInBounds_toArray,List.set_cons_zero,List.set_cons_succ])
     (refine wpAnyH_done (by kernel_rfl) ?_ _)
     have hxd:Ext w1 wr.drew:=hxm.out.drew
     clear hHeld
     replace hxd:=Lib.hid hxd
     cases hvb:L.validB n x
     ·have hr:=hbx.out (cl_bad (by omega) hlt2 (by rw [←hx.out];exact hvb)) (by decide)
      replace hr:=Lib.hid hr
      go_wp2_with fail
      go_ret
      exact ⟨by rw [hr.out] <;> rfl,hx1.out.trans hxd.out⟩
     ·have hv':∀ j (hj:j < m+1) (hj2:j < c.length),L.validB n c[j] = true:=fun j hj hj2=>by
       by_cases e:j = m
       ·subst e;rw [←hx.out];exact hvb
       ·exact hv.out j (by omega) hj2
      replace hv':=Lib.hid hv'
      replace hvb:=Lib.hid hvb
      go_wp2_with fail
      go_roundw
      case rel=>exact ⟨m+1,by omega,by go_num,hv'.out,hxd.out⟩
      case measure=>simp [intOf];omega
    ·obtain rfl:m = c.length:=by omega
     have hc0:L.clChk n c = 0:=cl_good (by omega) fun j hj=>hv.out j hj hj
     replace hc0:=Lib.hid hc0
     clear hv
     go_wp2_with fail
     go_roundw
     case rel =>
      refine ⟨k+1,by omega,by go_num,fun j hj hj2=>?_,hxm.out⟩
      by_cases e:j = k
      ·subst e;rw [hcT.out];exact hc0.out
      ·exact hgood2.out j (by omega) hj2
     case measure=>simp [intOf];omega
  ·obtain rfl:k = T.length:=by omega
   have hr:L.scanChk n T = 0:=scan_good fun j hj=>hgood.out j hj hj
   replace hr:=Lib.hid hr
   replace hxr:=Lib.hid hxr
   go_wp2_with fail
   go_ret
   exact ⟨by rw [hr.out] <;> rfl,hx1.out.trans hxr.out⟩
end Go.Proofs.YtmnjakejhbpkoaaGreatDoor
