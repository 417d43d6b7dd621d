import Derived.Test.YtmnjakejhbpkoaaGreatDoorWEv5
import Derived.Test.YtmnjakejhbpkoaaGreatDoorWRefChk
import Derived.Test.YtmnjakejhbpkoaaGreatDoorWWk2
import Derived.Test.YtmnjakejhbpkoaaGreatDoorWVars
import Derived.Test.YtmnjakejhbpkoaaGreatDoorWReg
import Derived.Shelf.SlGeneric
import Derived.Shelf.SlIterI.Collect
import Derived.Test.YtmnjakejhbpkoaaGreatDoorProg
import Derived.Shelf.AbstractIn
section
set_option linter.unusedSimpArgs false
set_option linter.unusedVariables false
namespace Go.Proofs.YtmnjakejhbpkoaaGreatDoor
open Go Go.RowKit Go.Shelf
set_option maxRecDepth 100000 in
set_option maxHeartbeats 2000000 in
theorem rvalid_any {n l:Int} (h0:0≤n) (h1:n≤128) (w:World):Calls Tryz.prog 85 #[.int .i64 l,.int .i64 n] w fun e w'=>e = .returned (.bool (L.validB n l))∧w = w':=by
 have wn:wrap64 (-n) = -n:=by unfold wrap64;omega
 by_cases a:l = 0
 ·have d:(l != 0) = false:=by simp [a]
  have hr:Hid (L.validB n l = false):=Lib.hid (by unfold L.validB;rw [decide_eq_false (by omega:¬ l≠0)];rfl)
  replace a:=Lib.hid a
  go_enter Tryz.func85,Tryz.ntmps85
  go_wp2_with fail
  go_ret
  exact ⟨by rw [hr.out] <;> rfl,rfl⟩
 have d:(l != 0) = true:=by simpa using a
 by_cases b:l≥-n
 ·have d2:decide (l≥-n) = true:=decide_eq_true b
  have hr:Hid (L.validB n l = decide (l≤n)):=Lib.hid (by unfold L.validB;rw [decide_eq_true (a:l≠0),decide_eq_true (by omega:-n≤l)];rfl)
  replace a:=Lib.hid a
  go_enter Tryz.func85,Tryz.ntmps85
  go_wp2_with fail
  go_ret
  exact ⟨by rw [hr.out] <;> rfl,rfl⟩
 ·have d2:decide (l≥-n) = false:=decide_eq_false b
  have hr:Hid (L.validB n l = false):=Lib.hid (by unfold L.validB;rw [decide_eq_false (by omega:¬ -n≤l)];simp)
  replace a:=Lib.hid a
  go_enter Tryz.func85,Tryz.ntmps85
  go_wp2_with fail
  go_ret
  exact ⟨by rw [hr.out] <;> rfl,rfl⟩
set_option maxRecDepth 100000 in
set_option maxHeartbeats 1000000 in
theorem rcheck_any {n:Int} {T:List (List Int)} {v:Value} {w:World} (hv:SlT w v T) :
  Calls Tryz.prog 22 #[.agg #[.int .i64 n,v]] w fun e w'=>e = .returned (.int .i64 (L.thChk n T))∧Ext w w':=by
 obtain ⟨ba,cp,rfl,hv⟩:=hv
 have hx1:Ext w (w.alloc (.cells #[.int .i64 n,.slice ba T.length cp] 24)):=(Ext.refl w).alloc _
 have hn1:=heap_alloc_new w (.cells #[.int .i64 n,.slice ba T.length cp] 24)
 obtain ⟨w1,hw1⟩:∃ w1,w1 = w.alloc (.cells #[.int .i64 n,.slice ba T.length cp] 24):=⟨_,rfl⟩
 rw [←hw1] at hx1 hn1
 have c0:w1.cell? ⟨w.heap.size,0,none⟩ = some (.int .i64 n):=by simp [World.cell?,hn1]
 have c1:w1.cell? ⟨w.heap.size,1,none⟩ = some (.slice ba T.length cp):=by simp [World.cell?,hn1]
 have hcs:∀ j (hj:j < T.length),∃ b o u,ba = some ⟨b,o,none⟩∧w1.cell? ⟨b,o+j,none⟩ = some u∧SlI w1 u T[j]:=fun j hj=>by
  rcases hv with ⟨_,rfl,_⟩ | ⟨b,o,rfl,h⟩
  ·simp at hj
  ·obtain ⟨u,h1,h2⟩:=h j hj
   exact ⟨b,o,u,rfl,hx1.cell h1,h2.ext hx1.below⟩
 replace hcs:=Lib.hid hcs
 clear hv hn1
 replace hx1:=Lib.hid hx1
 by_cases hn0:n < 0
 ·have d0:decide (n < 0) = true:=decide_eq_true hn0
  have hr:L.thChk n T = 6:=by unfold L.thChk;rw [if_pos (.inl hn0)]
  rw [hr]
  clear hr hn0
  go_enter Tryz.func22,Tryz.ntmps22
  go_wp2_with fail
  rw [←hw1]
  replace hw1:=Lib.hid hw1
  go_wp2_with fail
  go_ret
  exact ⟨rfl,hx1.out⟩
 have d0:decide (n < 0) = false:=decide_eq_false hn0
 by_cases hn1:n > 128
 ·have d1:decide (n > 128) = true:=decide_eq_true hn1
  have hr:L.thChk n T = 6:=by unfold L.thChk;rw [if_pos (.inr hn1)]
  rw [hr]
  clear hr hn0 hn1
  go_enter Tryz.func22,Tryz.ntmps22
  go_wp2_with fail
  rw [←hw1]
  replace hw1:=Lib.hid hw1
  go_wp2_with fail
  go_ret
  exact ⟨rfl,hx1.out⟩
 have d1:decide (n > 128) = false:=decide_eq_false hn1
 by_cases hl:(T.length:Int) > 4096
 ·have d2:decide ((T.length:Int) > 4096) = true:=decide_eq_true hl
  have hr:L.thChk n T = 2:=by unfold L.thChk;rw [if_neg (by omega),if_pos (by omega)]
  rw [hr]
  clear hr hn0 hn1 hl
  go_enter Tryz.func22,Tryz.ntmps22
  go_wp2_with fail
  rw [←hw1]
  replace hw1:=Lib.hid hw1
  go_wp2_with fail
  go_ret
  exact ⟨rfl,hx1.out⟩
 have d2:decide ((T.length:Int) > 4096) = false:=decide_eq_false hl
 rw [th_scan (by omega) (by omega) (by omega)]
 have qv:=fun l W=>rvalid_any (n:=n) (l:=l) (by omega) (by omega) W
 replace qv:=Lib.hid qv
 go_enter Tryz.func22,Tryz.ntmps22
 go_wp2_with fail
 rw [←hw1]
 replace hw1:=Lib.hid hw1
 go_wp2_with fail
 clear d0 d1 d2
 have c0':=Lib.hid c0
 have c1':=Lib.hid c1
 go_loopw [3] (fun i wr=>∃ k:Nat,k≤T.length∧i = .int .i64 k∧(∀ j (hj:j < k) (hj2:j < T.length),L.clChk n T[j] = 0)∧Ext w1 wr) (fun i _=>T.length - (intOf i).toNat)
 case atStart=>exact ⟨0,Nat.zero_le _,rfl,(fun j hj=>by omega),Ext.refl _⟩
 case round =>
  obtain ⟨k,hk,rfl,hgood,hxr⟩:=hrel
  have b0:=hxr.cell c0
  have b1:=hxr.cell c1
  replace hgood:=Lib.hid hgood
  have g0:(0:Int)≤k:=by omega
  by_cases hlt:k < T.length
  ·have glt:(k:Int) < T.length:=by omega
   obtain ⟨b,o,u,rfl,f1',f2⟩:=hcs.out k hlt
   have f1:=hxr.cell f1'
   obtain ⟨bb,cc,rfl,f2⟩:=f2
   have hbad:=fun c=>scan_bad (n:=n) (T:=T) hlt (c:=c) fun j hj=>hgood.out j hj (by omega)
   have hgood2:=hgood.out
   clear hcs hw1 hgood
   generalize hcT:T[k] = c at *
   have f3:∀ j (hj:j < c.length),∃ b o,bb = some ⟨b,o,none⟩∧w1.cell? ⟨b,o+j,none⟩ = some (.int .i64 c[j]):=fun j hj=>by
    rcases f2 with ⟨_,rfl,_⟩ | ⟨b,o,h1,h2⟩
    ·simp at hj
    ·exact ⟨b,o,h1,h2 j hj⟩
   replace f3:=Lib.hid f3
   clear f2
   replace hgood2:=Lib.hid hgood2
   replace hbad:=Lib.hid hbad
   replace hcT:=Lib.hid hcT
   replace hxr:=Lib.hid hxr
   by_cases hlen:(c.length:Int) > 128
   ·have d3:decide ((c.length:Int) > 128) = true:=decide_eq_true hlen
    have hr:=hbad.out 2 (cl_long (by omega)) (by decide)
    replace hr:=Lib.hid hr
    clear hlen
    go_wp2_with fail
    go_ret
    exact ⟨by rw [hr.out] <;> rfl,hx1.out.trans hxr.out⟩
   have d3:decide ((c.length:Int) > 128) = false:=decide_eq_false hlen
   clear c0 c1
   go_wp2_with fail
   clear b0 b1 f1
   go_loopw [4] (fun i w'=>∃ m:Nat,m≤c.length∧i = .int .i64 m∧(∀ j (hj:j < m) (hj2:j < c.length),L.validB n c[j] = true)∧Ext w1 w') (fun i _=>c.length - (intOf i).toNat)
   case atStart=>exact ⟨0,Nat.zero_le _,rfl,(fun j hj=>by omega),hxr.out⟩
   case round =>
    obtain ⟨m,hm,rfl,hv,hxm⟩:=hrel
    have b0:=hxm.cell c0'.out
    have b1:=hxm.cell c1'.out
    have f1:=hxm.cell f1'
    have g2:(0:Int)≤m:=by omega
    replace hv:=Lib.hid hv
    replace hxm:=Lib.hid hxm
    by_cases hlt2:m < c.length
    ·have glt2:(m:Int) < c.length:=by omega
     obtain ⟨b2,o2,rfl,f4'⟩:=f3.out m hlt2
     have f4:=hxm.out.cell f4'
     clear f4' f1'
     go_wp2_with fail
     have hbx:=hbad.out 1
     obtain ⟨x,hx⟩:∃ x,x = c[m]:=⟨_,rfl⟩
     rw [←hx] at f4
     replace hbx:=Lib.hid hbx
     replace hx:=Lib.hid hx
     (refine wp_region_held_drew (S:=(fun V=>V.cell? ⟨w.heap.size,0,none⟩ = some (.int .i64 n)∧V.cell? ⟨w.heap.size,1,none⟩ = some (.slice (some ⟨b,o,none⟩) T.length cp)∧V.cell? ⟨b,o+k,none⟩ = some (.slice (some ⟨b2,o2,none⟩) c.length cc)∧V.cell? ⟨b2,o2+m,none⟩ = some (.int .i64 x))) (by kernel_rfl) ?_ (fun hHeld=>?_))
     ·exact ⟨b0,b1,f1,f4⟩
     (refine takeL (i:=0) (v:=?_) rfl (by kernel_rfl) (by kernel_rfl) (by kernel_rfl) (fun _ _ _ h=>h) (Or.inl ⟨by rfl,?_⟩) (by assumption) ?_)
     rotate_left
     ·(intro w hSw;(try dsimp only at hSw);obtain ⟨s0,s1,s2,s3⟩:=hSw;go_simp;first | done | with_reducible rfl)
     (try simp only [Act.put,List.setIfInBounds_toArray,List.set_cons_zero,List.set_cons_succ])
     (refine takeL (i:=1) (v:=?_) rfl (by kernel_rfl) (by kernel_rfl) (by kernel_rfl) (fun _ _ _ h=>h) (Or.inl ⟨by rfl,?_⟩) (by assumption) ?_)
     rotate_left
     ·(intro w hSw;(try dsimp only at hSw);obtain ⟨s0,s1,s2,s3⟩:=hSw;go_simp;first | done | with_reducible rfl)
     (try simp only [Act.put,List.setIfInBounds_toArray,List.set_cons_zero,List.set_cons_succ])
     (refine takeL (i:=2) (v:=?_) rfl (by kernel_rfl) (by kernel_rfl) (by kernel_rfl) (fun _ _ _ h=>h) (Or.inl ⟨by rfl,?_⟩) (by assumption) ?_)
     rotate_left
     ·(intro w hSw;(try dsimp only at hSw);obtain ⟨s0,s1,s2,s3⟩:=hSw;go_simp;first | done | with_reducible rfl)
     (try simp only [Act.put,List.setIfInBounds_toArray,List.set_cons_zero,List.set_cons_succ])
     (refine takeL (i:=3) (v:=?_) rfl (by kernel_rfl) (by kernel_rfl) (by kernel_rfl) (fun _ _ _ h=>h) (Or.inl ⟨by rfl,?_⟩) (by assumption) ?_)
     rotate_left
     ·(intro w hSw;(try dsimp only at hSw);obtain ⟨s0,s1,s2,s3⟩:=hSw;go_simp;first | done | with_reducible rfl)
     (try simp only [Act.put,List.setIfInBounds_toArray,List.set_cons_zero,List.set_cons_succ])
     (refine takeL (i:=4) (v:=?_) rfl (by kernel_rfl) (by kernel_rfl) (by kernel_rfl) (fun _ _ _ h=>h) (Or.inl ⟨by rfl,?_⟩) (by assumption) ?_)
     rotate_left
     ·(intro w hSw;(try dsimp only at hSw);obtain ⟨s0,s1,s2,s3⟩:=hSw;go_simp;first | done | with_reducible rfl)
     (try simp only [Act.put,List.setIfInBounds_toArray,List.set_cons_zero,List.set_cons_succ])
     (refine takeL (i:=5) (v:=?_) rfl (by kernel_rfl) (by kernel_rfl) (by kernel_rfl) (fun _ _ _ h=>h) (Or.inl ⟨by rfl,?_⟩) (by assumption) ?_)
     rotate_left
     ·(intro w hSw;(try dsimp only at hSw);obtain ⟨s0,s1,s2,s3⟩:=hSw;go_simp;first | done | with_reducible rfl)
     (try simp only [Act.put,List.setIfInBounds_toArray,List.set_cons_zero,List.set_cons_succ])
     (refine takeL (i:=6) (v:=?_) rfl (by kernel_rfl) (by kernel_rfl) (by kernel_rfl) (fun _ _ _ h=>h) (Or.inl ⟨by rfl,?_⟩) (by assumption) ?_)
     rotate_left
     ·(intro w hSw;(try dsimp only at hSw);obtain ⟨s0,s1,s2,s3⟩:=hSw;go_simp;first | done | with_reducible rfl)
     (try simp only [Act.put,List.setIfInBounds_toArray,List.set_cons_zero,List.set_cons_succ])
     (refine takeL (i:=7) (v:=?_) rfl (by kernel_rfl) (by kernel_rfl) (by kernel_rfl) (fun _ _ _ h=>h) (Or.inl ⟨by rfl,?_⟩) (by assumption) ?_)
     rotate_left
     ·(intro w hSw;(try dsimp only at hSw);obtain ⟨s0,s1,s2,s3⟩:=hSw;go_simp;first | done | with_reducible rfl)
     (try simp only [Act.put,List.setIfInBounds_toArray,List.set_cons_zero,List.set_cons_succ])
     (refine takeL (i:=8) (v:=?_) rfl (by kernel_rfl) (by kernel_rfl) (by kernel_rfl) (fun _ _ _ h=>h) (Or.inl ⟨by rfl,?_⟩) (by assumption) ?_)
     rotate_left
     ·(intro w hSw;(try dsimp only at hSw);obtain ⟨s0,s1,s2,s3⟩:=hSw;go_simp;first | done | with_reducible rfl)
     (try simp only [Act.put,List.setIfInBounds_toArray,List.set_cons_zero,List.set_cons_succ])
     (refine takeL (i:=9) (v:=?_) rfl (by kernel_rfl) (by kernel_rfl) (by kernel_rfl) (fun _ _ _ h=>h) (Or.inl ⟨by rfl,?_⟩) (by assumption) ?_)
     rotate_left
     ·(intro w hSw;(try dsimp only at hSw);obtain ⟨s0,s1,s2,s3⟩:=hSw;go_simp;first | done | with_reducible rfl)
     (try simp only [Act.put,List.setIfInBounds_toArray,List.set_cons_zero,List.set_cons_succ])
     (refine wpAnyH_ready (rs:=[10]) (by kernel_rfl) (by simp) ?_)
     (refine consL rfl (fun K hK=>?_))
     ((rw [if_pos (by rfl)]);go_simp;(go_at_call 85);refine (qv.out x _).mono ?_;rintro e w2 ⟨rfl,rfl⟩;refine hK.out _ _ hHeld (fun hHeld=>?_))
     (clear hK K)
     (try simp only [Act.put,List.setIfInBounds_toArray,List.set_cons_zero,List.set_cons_succ])
     (refine takeL (i:=11) (v:=?_) rfl (by kernel_rfl) (by kernel_rfl) (by kernel_rfl) (fun _ _ _ h=>h) (Or.inl ⟨by rfl,?_⟩) (by assumption) ?_)
     rotate_left
     ·(intro w hSw;(try dsimp only at hSw);skip;go_simp;first | done | with_reducible rfl)
     (try simp only [Act.put,List.setIfInBounds_toArray,List.set_cons_zero,List.set_cons_succ])
     (refine wpAnyH_done (by kernel_rfl) ?_ _)
     have hxd:Ext w1 wr.drew:=hxm.out.drew
     clear hHeld
     replace hxd:=Lib.hid hxd
     cases hvb:L.validB n x
     ·have hr:=hbx.out (cl_bad (by omega) hlt2 (by rw [←hx.out];exact hvb)) (by decide)
      replace hr:=Lib.hid hr
      go_wp2_with fail
      go_ret
      exact ⟨by rw [hr.out] <;> rfl,hx1.out.trans hxd.out⟩
     ·have hv':∀ j (hj:j < m+1) (hj2:j < c.length),L.validB n c[j] = true:=fun j hj hj2=>by
       by_cases e:j = m
       ·subst e;rw [←hx.out];exact hvb
       ·exact hv.out j (by omega) hj2
      replace hv':=Lib.hid hv'
      replace hvb:=Lib.hid hvb
      go_wp2_with fail
      go_roundw
      case rel=>exact ⟨m+1,by omega,by go_num,hv'.out,hxd.out⟩
      case measure=>simp [intOf];omega
    ·obtain rfl:m = c.length:=by omega
     have hc0:L.clChk n c = 0:=cl_good (by omega) fun j hj=>hv.out j hj hj
     replace hc0:=Lib.hid hc0
     clear hv
     go_wp2_with fail
     go_roundw
     case rel =>
      refine ⟨k+1,by omega,by go_num,fun j hj hj2=>?_,hxm.out⟩
      by_cases e:j = k
      ·subst e;rw [hcT.out];exact hc0.out
      ·exact hgood2.out j (by omega) hj2
     case measure=>simp [intOf];omega
  ·obtain rfl:k = T.length:=by omega
   have hr:L.scanChk n T = 0:=scan_good fun j hj=>hgood.out j hj hj
   replace hr:=Lib.hid hr
   replace hxr:=Lib.hid hxr
   go_wp2_with fail
   go_ret
   exact ⟨by rw [hr.out] <;> rfl,hx1.out.trans hxr.out⟩
end Go.Proofs.YtmnjakejhbpkoaaGreatDoor
end
section
set_option linter.unusedSimpArgs false
set_option linter.unusedVariables false
namespace Go.Proofs.YtmnjakejhbpkoaaGreatDoor
open Go Go.RowKit Go.Shelf
def lightB (T:List (List Int)):Bool:=T.all (fun c=>decide (c.length≤140)) && decide (T.length≤60)
set_option maxRecDepth 100000 in
set_option maxHeartbeats 1000000 in
theorem light05_any {n:Int} {T:List (List Int)} {v:Value} {w:World} (hv:SlT w v T) (hlT:T.length≤9223372036854775807) :
  Calls Tryz.prog 76 #[.agg #[.int .i64 n,v]] w fun e w'=>e = .returned (.bool (lightB T))∧Ext w w':=by
 obtain ⟨ba,cp,rfl,hv⟩:=hv
 have hx1:Ext w (w.alloc (.cells #[.int .i64 n,.slice ba T.length cp] 24)):=(Ext.refl w).alloc _
 have hn1:=heap_alloc_new w (.cells #[.int .i64 n,.slice ba T.length cp] 24)
 obtain ⟨w1,hw1⟩:∃ w1,w1 = w.alloc (.cells #[.int .i64 n,.slice ba T.length cp] 24):=⟨_,rfl⟩
 rw [←hw1] at hx1 hn1
 have c0:w1.cell? ⟨w.heap.size,0,none⟩ = some (.int .i64 n):=by simp [World.cell?,hn1]
 have c1:w1.cell? ⟨w.heap.size,1,none⟩ = some (.slice ba T.length cp):=by simp [World.cell?,hn1]
 have hcs:∀ j (hj:j < T.length),∃ b o bb cc,ba = some ⟨b,o,none⟩∧w1.cell? ⟨b,o+j,none⟩ = some (.slice bb T[j].length cc):=fun j hj=>by
  rcases hv with ⟨_,rfl,_⟩ | ⟨b,o,rfl,h⟩
  ·simp at hj
  ·obtain ⟨u,h1,bb,cc,rfl,_⟩:=h j hj
   exact ⟨b,o,bb,cc,rfl,hx1.cell h1⟩
 replace hcs:=Lib.hid hcs
 clear hv hn1
 replace hx1:=Lib.hid hx1
 go_enter Tryz.func76,Tryz.ntmps76
 go_wp2_with fail
 rw [←hw1]
 replace hw1:=Lib.hid hw1
 go_wp2_with fail
 go_loopw [8] (fun i wr=>wr = w1∧∃ k:Nat,k≤T.length∧i = .int .i64 k∧∀ j (hj:j < k) (hj2:j < T.length),T[j].length≤140) (fun i _=>T.length - (intOf i).toNat)
 case atStart=>exact ⟨rfl,0,Nat.zero_le _,rfl,fun j hj=>by omega⟩
 case round =>
  obtain ⟨rfl,k,hk,rfl,hgood⟩:=hrel
  replace hgood:=Lib.hid hgood
  by_cases hlt:k < T.length
  ·obtain ⟨b,o,bb,cc,rfl,f1⟩:=hcs.out k hlt
   by_cases hlen:(T[k].length:Int) > 140
   ·have d3:decide ((T[k].length:Int) > 140) = true:=decide_eq_true hlen
    have hr:Hid (lightB T = false):=Lib.hid (by
     unfold lightB
     rw [show T.all (fun c=>decide (c.length≤140)) = false from by
      rw [Bool.eq_false_iff]
      intro e
      have:=List.all_eq_true.1 e _ (List.getElem_mem hlt)
      simp at this;omega]
     rfl)
    clear hlen hcs hw1
    generalize T[k].length = N at *
    go_wp2_with fail
    go_ret
    exact ⟨by rw [hr.out] <;> rfl,hx1.out⟩
   ·have d3:decide ((T[k].length:Int) > 140) = false:=decide_eq_false hlen
    have hg2:Hid (∀ j (hj:j < k+1) (hj2:j < T.length),T[j].length≤140):=Lib.hid fun j hj hj2=>by
     by_cases e:j = k
     ·subst e;omega
     ·exact hgood.out j (by omega) hj2
    clear hlen hcs hw1
    generalize T[k].length = N at *
    go_wp2_with fail
    go_roundw
    case rel=>exact ⟨trivial,k+1,by omega,by go_num,hg2.out⟩
    case measure=>simp [intOf];omega
  ·obtain rfl:k = T.length:=by omega
   have hr:lightB T = decide ((T.length:Int)≤60):=by
    unfold lightB
    rw [show T.all (fun c=>decide (c.length≤140)) = true from List.all_eq_true.2 fun c hc=>by
     obtain ⟨j,hj,rfl⟩:=List.getElem_of_mem hc
     simpa using hgood.out j hj hj]
    rw [Bool.true_and]
    exact decide_eq_decide.2 (by omega)
   replace hr:=Lib.hid hr
   go_wp2_with fail
   go_ret
   exact ⟨by rw [hr.out] <;> rfl,hx1.out⟩
end Go.Proofs.YtmnjakejhbpkoaaGreatDoor
end
section
set_option linter.unusedSimpArgs false
set_option linter.unusedVariables false
namespace Go.Proofs.YtmnjakejhbpkoaaGreatDoor
open Go Go.RowKit Go.Shelf
def light27B (n:Int) (T:List (List Int)):Bool:=lightB T && (decide (T.length≤30) || decide (L.thChk n T≠0))
set_option maxRecDepth 100000 in
set_option maxHeartbeats 1000000 in
theorem light27_any {n:Int} {T:List (List Int)} {v:Value} {w:World} (hv:SlT w v T) (hlT:T.length≤9223372036854775807) :
  Calls Tryz.prog 14 #[.agg #[.int .i64 n,v]] w fun e w'=>e = .returned (.bool (light27B n T))∧Ext w w':=by
 have hx1:Ext w (w.alloc (.cells #[.int .i64 n,v] 24)):=(Ext.refl w).alloc _
 have hn1:=heap_alloc_new w (.cells #[.int .i64 n,v] 24)
 obtain ⟨w1,hw1⟩:∃ w1,w1 = w.alloc (.cells #[.int .i64 n,v] 24):=⟨_,rfl⟩
 rw [←hw1] at hx1 hn1
 have c0:w1.cell? ⟨w.heap.size,0,none⟩ = some (.int .i64 n):=by simp [World.cell?,hn1]
 have c1:w1.cell? ⟨w.heap.size,1,none⟩ = some v:=by simp [World.cell?,hn1]
 have q:=light05_any (n:=n) (hv.ext hx1.below) hlT
 have qc:=fun W (h:Ext w W)=>rcheck_any (n:=n) (hv.ext h.below)
 obtain ⟨ba,cp,rfl,_⟩:=hv
 replace qc:=Lib.hid qc
 replace hx1:=Lib.hid hx1
 clear hn1
 unfold light27B
 generalize lightB T = B at *
 cases B
 ·go_enter Tryz.func14,Tryz.ntmps14
  go_wp2_with fail
  rw [←hw1]
  replace hw1:=Lib.hid hw1
  go_wp2_with fail
  refine q.mono ?_
  rintro e w2 ⟨rfl,hx2⟩
  go_wp2_with fail
  go_ret
  exact ⟨rfl,hx1.out.trans hx2⟩
 ·by_cases h30:(T.length:Int)≤30
  ·have d:decide ((T.length:Int)≤30) = true:=decide_eq_true h30
   have d2:Hid (decide (T.length≤30) = true):=Lib.hid (decide_eq_true (by omega))
   clear h30
   go_enter Tryz.func14,Tryz.ntmps14
   go_wp2_with fail
   rw [←hw1]
   replace hw1:=Lib.hid hw1
   go_wp2_with fail
   refine q.mono ?_
   rintro e w2 ⟨rfl,hx2⟩
   have b0:=hx2.cell c0
   have b1:=hx2.cell c1
   go_wp2_with fail
   go_ret
   exact ⟨by rw [d2.out] <;> rfl,hx1.out.trans hx2⟩
  ·have d:decide ((T.length:Int)≤30) = false:=decide_eq_false h30
   have d2:Hid (decide (T.length≤30) = false):=Lib.hid (decide_eq_false (by omega))
   clear h30
   go_enter Tryz.func14,Tryz.ntmps14
   go_wp2_with fail
   rw [←hw1]
   replace hw1:=Lib.hid hw1
   go_wp2_with fail
   refine q.mono ?_
   rintro e w2 ⟨rfl,hx2⟩
   have b0:=hx2.cell c0
   have b1:=hx2.cell c1
   have hxx:=hx1.out.trans hx2
   have q2:=qc.out w2 hxx
   replace hxx:=Lib.hid hxx
   clear q
   go_wp2_with fail
   refine q2.mono ?_
   rintro e w3 ⟨rfl,hx3⟩
   have hb:Hid ((L.thChk n T != 0) = decide (L.thChk n T≠0)):=Lib.hid (by rw [Bool.eq_iff_iff];simp)
   go_wp2_with fail
   go_ret
   exact ⟨by rw [d2.out,←hb.out] <;> simp,hxx.out.trans hx3⟩
def few27B (t:List VN):Bool:=if checkF t≠0 then decide (t.length≤300) else decide (t.length≤11)
set_option maxRecDepth 100000 in
set_option maxHeartbeats 1000000 in
theorem few27_any {t:List VN} (w:World) (ba:Option Addr) (cap:Nat) (q:Calls Tryz.prog 77 #[.slice ba t.length cap] w fun e w'=>e = .returned (.int .i64 (checkF t))∧Ext w w') :
  Calls Tryz.prog 15 #[.slice ba t.length cap] w fun e w'=>e = .returned (.bool (few27B t))∧Ext w w':=by
 unfold few27B
 generalize checkF t = z at *
 have h1:Hid (decide ((t.length:Int)≤300) = decide (t.length≤300)):=Lib.hid (decide_eq_decide.2 (by omega))
 have h2:Hid (decide ((t.length:Int)≤11) = decide (t.length≤11)):=Lib.hid (decide_eq_decide.2 (by omega))
 by_cases hz:z = 0
 ·subst hz
  rw [if_neg (by simp),←h2.out]
  go_enter Tryz.func15,Tryz.ntmps15
  go_wp2_with fail
  refine q.mono ?_
  rintro e w2 ⟨rfl,hx2⟩
  go_wp2_with fail
  go_ret
  exact ⟨rfl,hx2⟩
 ·have d:(z != 0) = true:=by simpa using hz
  rw [if_pos hz,←h1.out]
  replace hz:=Lib.hid hz
  go_enter Tryz.func15,Tryz.ntmps15
  go_wp2_with fail
  refine q.mono ?_
  rintro e w2 ⟨rfl,hx2⟩
  go_wp2_with fail
  go_ret
  exact ⟨rfl,hx2⟩
end Go.Proofs.YtmnjakejhbpkoaaGreatDoor
end
section
set_option linter.unusedSimpArgs false
set_option linter.unusedVariables false
namespace Go.Proofs.YtmnjakejhbpkoaaGreatDoor
open Go Go.RowKit Go.Shelf
open Classical in
noncomputable def compE (n:Int) (T:List (List Int)) (t:List VN):Int :=
 if L.thChk n T≠0 then L.thChk n T else if checkF t≠0 then checkF t else if (∀ u,hasS (L.thVars T) u = true→VarOf t u) then 0 else 1
theorem compE_ok {n:Int} {T:List (List Int)} {t:List VN} (h:compE n T t = 0):L.thChk n T = 0∧checkF t = 0∧∀ u,hasS (L.thVars T) u = true→VarOf t u:=by
 unfold compE at h
 split at h
 ·rename_i h1;exact absurd h h1
 ·rename_i h1
  split at h
  ·rename_i h2;exact absurd h h2
  ·rename_i h2
   split at h
   ·rename_i h3;exact ⟨Decidable.not_not.1 h1,Decidable.not_not.1 h2,h3⟩
   ·cases h
theorem compile_no {n:Int} {T:List (List Int)} {v:Value} {w:World} (hv:SlT w v T) {t:List VN} (ba:Option Addr) (cap:Nat) (h:t = []∨∃ b o,ba = some ⟨b,o,none⟩∧TreeAt w b o t) (hE:compE n T t≠0) :
  Calls Tryz.prog 19 #[.agg #[.int .i64 n,v],.slice ba t.length cap] w fun e w'=>e = .returned (.tuple #[.pointer none,.int .i64 0,.int .i64 (compE n T t)])∧Below w.heap.size w w':=by
 by_cases h1:L.thChk n T = 0
 ·by_cases h2:checkF t = 0
  ·by_cases h3:∀ u,hasS (L.thVars T) u = true→VarOf t u
   ·exact absurd (by unfold compE;rw [if_neg (fun h=>h h1),if_neg (fun h=>h h2),if_pos h3]) hE
   ·have e:compE n T t = 1:=by unfold compE;rw [if_neg (fun h=>h h1),if_neg (fun h=>h h2),if_neg h3]
    rw [e]
    obtain ⟨b,o,rfl,ht⟩:=tree_some h2 h
    have h4:∃ u,hasS (L.thVars T) u = true∧¬ VarOf t u:=Classical.byContradiction fun hn=>h3 fun u hu=>Classical.byContradiction fun hv=>hn ⟨u,hu,hv⟩
    exact compile_bad hv (some ⟨b,o,none⟩) cap h1 (E:=1) (by decide) fun W hW=>open_no W b o cap (L.thVars T) (ht.ext hW) h2 h4
  ·have e:compE n T t = checkF t:=by unfold compE;rw [if_neg (fun h=>h h1),if_pos h2]
   rw [e]
   exact compile_bad hv ba cap h1 (E:=checkF t) h2 fun W hW=>(open_bad W ba cap (L.thVars T) (h.imp id fun ⟨b,o,e,ht⟩=>⟨b,o,e,ht.ext hW⟩) h2).mono fun e w' hh=>⟨hh.1,hh.2.below⟩
 ·have e:compE n T t = L.thChk n T:=by unfold compE;rw [if_pos h1]
  rw [e]
  exact (compile_err hv ba t.length cap h1).mono fun e w' hh=>⟨hh.1,hh.2.below⟩
theorem light_few {n:Int} {T:List (List Int)} (h:light27B n T = true) (h0:L.thChk n T = 0):T.length≤30:=by
 unfold light27B at h
 simp only [Bool.and_eq_true,Bool.or_eq_true,decide_eq_true_eq] at h
 rcases h.2 with h | h
 ·exact h
 ·exact absurd h0 h
theorem few_len {t:List VN} (h:few27B t = true) (h0:checkF t = 0):t.length≤11:=by
 unfold few27B at h
 rw [if_neg (fun e=>e h0)] at h
 simpa using h
theorem isBel_sorted {t:List VN} {j:Nat} {m:VSet} (h:IsBel t j m):L.SortedBel t j (listV m):=⟨L.listVK_sorted m 128,fun x=>by
 rw [L.listV_mem]
 exact ⟨fun hx=>(isBel_has h (L.hasS_range hx)).1 hx,fun hx=>(isBel_has h hx.range).2 hx⟩⟩
theorem sorted_var {t:List VN} (hc:checkF t = 0) {l:List Int} (h:L.SortedBel t (t.length - 1) l) {x:Int} (hx:x∈l):VarOf t x:=(bel_root hc x).1 ((h.mem x).1 hx)
end Go.Proofs.YtmnjakejhbpkoaaGreatDoor
end
