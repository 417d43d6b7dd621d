import Derived.Test.YtmnjakejhbpkoaaGreatDoorXT27g
set_option linter.unusedSimpArgs false
set_option linter.unusedVariables false
namespace Go.Proofs.YtmnjakejhbpkoaaGreatDoor
open Go Go.RowKit Go.Shelf
set_option maxRecDepth 100000 in
set_option maxHeartbeats 8000000 in
theorem fnExists_any {φ:L.Asg→Bool} {vf:Value} {l:List Int} {w:World} (hf:FnAt w vf l φ) (hnd:l.Nodup) (hr:∀ v∈l,1≤v∧v≤128) (hl:l.length≤12) {v:Int} (hv:v∈l) :
  Calls Tryz.prog 38 #[vf,.int .i64 v] w fun e w'=>∃ v',e = .returned v'∧FnAt w' v' l (fun x=>L.giv φ v true x || L.giv φ v false x)∧Below w.heap.size w w':=by
 obtain ⟨vl,g0,c0,rfl,hvl,hb0⟩:=hf
 have hv1:=hr v hv
 have hg0:=hb0.lt
 have hN:=pow_le4096 hl
 obtain ⟨M,hM⟩:∃ M:Bool→Nat→Nat,∀ b k,L.withK l v b k l.length = M b k:=⟨_,fun _ _=>rfl⟩
 have hMl:∀ b k,k < 2 ^ l.length→M b k < 2 ^ l.length:=fun b k hk=>by rw [←hM];exact L.withK_lt hnd v b hk
 have hMn:∀ b k,φ (L.nth l (M b k)) = L.giv φ v b (L.nth l k):=fun b k=>by rw [←hM,L.nth_withK hnd hv];rfl
 obtain ⟨e0,e1⟩:=alloc2h w (.cells #[vl,.slice (some ⟨g0,0,none⟩) (2 ^ l.length) c0] 48) (.cells #[.slice none 0 0,.slice none 0 0] 48)
 have hx1:Ext w ((w.alloc (.cells #[vl,.slice (some ⟨g0,0,none⟩) (2 ^ l.length) c0] 48)).alloc (.cells #[.slice none 0 0,.slice none 0 0] 48)):=((Ext.refl w).alloc _).alloc _
 have hs1:((w.alloc (.cells #[vl,.slice (some ⟨g0,0,none⟩) (2 ^ l.length) c0] 48)).alloc (.cells #[.slice none 0 0,.slice none 0 0] 48)).heap.size = w.heap.size+2:=by simp
 obtain ⟨w1,hw1⟩:∃ w1,w1 = (w.alloc (.cells #[vl,.slice (some ⟨g0,0,none⟩) (2 ^ l.length) c0] 48)).alloc (.cells #[.slice none 0 0,.slice none 0 0] 48):=⟨_,rfl⟩
 rw [←hw1] at e0 e1 hx1 hs1
 have hvl1:=hvl.ext hx1.below
 have qb:=blank_any hvl1 hl
 have qw:=fun b k (hk:k < 2 ^ l.length) (W:World) (h:Below w1.heap.size w1 W)=>fnWith_any (vo:=.slice (some ⟨g0,0,none⟩) (2 ^ l.length) c0) (hvl1.ext h) hnd hl rfl hk v b
 simp only [hM] at qw
 have hfin:∀ (W:World) (g c:Nat),Below w.heap.size w W→BoolsAt W g 4 (2 ^ l.length) (fun k=>L.giv φ v true (L.nth l k) || L.giv φ v false (L.nth l k))→FnAt W (.agg #[vl,.slice (some ⟨g,0,none⟩) (2 ^ l.length) c]) l (fun x=>L.giv φ v true x || L.giv φ v false x):=fun W g c h hb=>⟨vl,g,c,rfl,hvl.ext h,hb⟩
 have hc0:∀ (W:World) (j:Nat),Below w1.heap.size w1 W→j < 2 ^ l.length→W.cell? ⟨g0,j,none⟩ = some (.bool (φ (L.nth l j))):=fun W j h hj =>
  (((hb0.same (hx1.below.block _ hg0)).same (h.block _ (by rw [hs1];omega))).cell hj).1
 generalize hNN:2 ^ l.length = N at *
 have hvc:∃ ba cp,vl = .slice ba l.length cp:=by obtain ⟨ba,cp,h,_⟩:=hvl;exact ⟨ba,cp,h⟩
 clear hvl hnd hr hb0 hvl1 hv
 obtain ⟨ba,cp,rfl⟩:=hvc
 obtain ⟨f,hh⟩:∃ f:Bool→Nat→Bool,∀ b k,L.giv φ v b (L.nth l k) = f b k:=⟨_,fun _ _=>rfl⟩
 simp only [hh] at hMn hfin
 replace hh:=Lib.hid hh
 replace hs1:=Lib.hid hs1
 replace hNN:=Lib.hid hNN
 replace hfin:=Lib.hid hfin
 replace qw:=Lib.hid qw
 replace e0:=Lib.hid e0
 replace e1:=Lib.hid e1
 replace hM:=Lib.hid hM
 replace hMl:=Lib.hid hMl
 replace hMn:=Lib.hid hMn
 have hS:∀ (g fb k j:Nat) V,j < N→FillF w1.heap.size w1 g fb N (.slice ba l.length cp) (fun k=>f true k || f false k) k V→(V.cell? ⟨fb,0,none⟩ = some (.slice ba l.length cp)∧V.cell? ⟨fb,1,none⟩ = some (.slice (some ⟨g,0,none⟩) N N))∧(V.cell? ⟨w.heap.size,0,none⟩ = some (.slice ba l.length cp)∧V.cell? ⟨w.heap.size,1,none⟩ = some (.slice (some ⟨g0,0,none⟩) N c0))∧∀ b,V.cell? ⟨g0,M b j,none⟩ = some (.bool (f b j)):=fun g fb k j V hj h=>by
  have f0:=(h.1.block w.heap.size (by rw [hs1.out];omega)).trans e0.out
  have c3:=fun b=>hc0 V (M b j) h.1 (hMl.out b j hj)
  simp only [hMn.out] at c3
  exact ⟨h.cells,⟨by rw [World.cell?,f0];rfl,by rw [World.cell?,f0];rfl⟩,c3⟩
 replace hS:=Lib.hid hS
 replace hc0:=Lib.hid hc0
 go_enter Tryz.func38,Tryz.ntmps38
 go_wp2_with fail
 rw [←hw1]
 replace hw1:=Lib.hid hw1
 go_wp2_with fail
 refine qb.mono ?_
 rintro e w2 ⟨g,rfl,hg,hbt,hb2⟩
 clear qb
 have hf0:=Lib.hid (FillF.first (vl:=.slice ba l.length cp) (h:=(fun k=>f true k || f false k)) hb2 hg hbt hb2.size)
 go_wp2_with fail
 go_loopw [6] (fun i wr=>∃ k:Nat,k≤N∧i = .int .i64 (k:Int)∧Hid (FillF w1.heap.size w1 g w2.heap.size N (.slice ba l.length cp) (fun k=>f true k || f false k) k wr)) (fun i _=>N - (intOf i).toNat)
 case atStart=>exact ⟨0,by omega,rfl,hf0⟩
 case round =>
  clear hf0 hbt hb2
  obtain ⟨k,hk,rfl,hI⟩:=hrel
  have hbr:=hI.out.1
  obtain ⟨k0,k1⟩:=hI.out.cells
  have f0:=(hbr.block _ (by rw [hs1.out];omega)).trans e0.out
  have f1:=(hbr.block _ (by rw [hs1.out];omega)).trans e1.out
  have r0:wr.cell? ⟨w.heap.size,0,none⟩ = some (.slice ba l.length cp):=by rw [World.cell?,f0];rfl
  have r1:wr.cell? ⟨w.heap.size,1,none⟩ = some (.slice (some ⟨g0,0,none⟩) N c0):=by rw [World.cell?,f0];rfl
  have x0:wr.cell? ⟨w.heap.size+1,0,none⟩ = some (.slice none 0 0):=by rw [World.cell?,f1];rfl
  have x1:wr.cell? ⟨w.heap.size+1,1,none⟩ = some (.slice none 0 0):=by rw [World.cell?,f1];rfl
  have z0:wr.frozen? ⟨w.heap.size+1,0,none⟩ = false:=by simp [World.frozen?,f1]
  have z1:wr.frozen? ⟨w.heap.size+1,1,none⟩ = false:=by simp [World.frozen?,f1]
  by_cases hlt:k < N
  ·have d0:decide ((k:Int) < (N:Int)) = true:=decide_eq_true (by omega)
   have g0':(0:Int)≤(k:Int):=by omega
   have g1:(k:Int) < (N:Int):=by omega
   have hfd:=Lib.hid (hI.out.next (Below.refl _ _).drew hI.out.size)
   clear f0 f1 x0 x1 z0 z1
   have m0:(0:Int)≤(M true k:Int):=by omega
   have m1:(M true k:Int) < (N:Int):=by have:=hMl.out true k hlt;omega
   have m2:(0:Int)≤(M false k:Int):=by omega
   have m3:(M false k:Int) < (N:Int):=by have:=hMl.out false k hlt;omega
   have hSg:∀ k' V,FillF w1.heap.size w1 g w2.heap.size N (.slice ba l.length cp) (fun k=>f true k || f false k) k' V→_:=fun k' V h=>hS.out g w2.heap.size k' k V hlt h
   obtain ⟨B,hB⟩:∃ B,f true k = B:=⟨_,rfl⟩
   obtain ⟨C,hC⟩:∃ C,f false k = C:=⟨_,rfl⟩
   have hSk:=Lib.hid (fun V h=>(show (fun V=>(V.cell? ⟨w2.heap.size,0,none⟩ = some (.slice ba l.length cp)∧V.cell? ⟨w2.heap.size,1,none⟩ = some (.slice (some ⟨g,0,none⟩) N N))∧(V.cell? ⟨w.heap.size,0,none⟩ = some (.slice ba l.length cp)∧V.cell? ⟨w.heap.size,1,none⟩ = some (.slice (some ⟨g0,0,none⟩) N c0))∧V.cell? ⟨g0,M true k,none⟩ = some (.bool B)∧V.cell? ⟨g0,M false k,none⟩ = some (.bool C)) V from ⟨(hSg k V h).1,(hSg k V h).2.1,hB ▸ (hSg k V h).2.2 true,hC ▸ (hSg k V h).2.2 false⟩))
   have hSk1:=Lib.hid (fun V h=>(show (fun V=>(V.cell? ⟨w2.heap.size,0,none⟩ = some (.slice ba l.length cp)∧V.cell? ⟨w2.heap.size,1,none⟩ = some (.slice (some ⟨g,0,none⟩) N N))∧(V.cell? ⟨w.heap.size,0,none⟩ = some (.slice ba l.length cp)∧V.cell? ⟨w.heap.size,1,none⟩ = some (.slice (some ⟨g0,0,none⟩) N c0))∧V.cell? ⟨g0,M true k,none⟩ = some (.bool B)∧V.cell? ⟨g0,M false k,none⟩ = some (.bool C)) V from ⟨(hSg (k+1) V h).1,(hSg (k+1) V h).2.1,hB ▸ (hSg (k+1) V h).2.2 true,hC ▸ (hSg (k+1) V h).2.2 false⟩))
   clear hSg
   replace hB:=Lib.hid hB
   replace hC:=Lib.hid hC
   cases B
   ·go_wp2_with fail
    (refine wp_region_held_drew (S:=(fun V=>(V.cell? ⟨w2.heap.size,0,none⟩ = some (.slice ba l.length cp)∧V.cell? ⟨w2.heap.size,1,none⟩ = some (.slice (some ⟨g,0,none⟩) N N))∧(V.cell? ⟨w.heap.size,0,none⟩ = some (.slice ba l.length cp)∧V.cell? ⟨w.heap.size,1,none⟩ = some (.slice (some ⟨g0,0,none⟩) N c0))∧V.cell? ⟨g0,M true k,none⟩ = some (.bool false)∧V.cell? ⟨g0,M false k,none⟩ = some (.bool C))) (by kernel_rfl) ?_ (fun hHeld=>?_))
    ·exact hSk.out _ hfd.out
    (refine takeL (i:=0) (v:=?_) rfl (by kernel_rfl) (by kernel_rfl) (by kernel_rfl) (fun _ _ _ h=>h) (Or.inl ⟨by rfl,?_⟩) (by assumption) ?_)
    rotate_left
    ·(intro w hSw;(try dsimp only at hSw);go_simp;first | done | with_reducible rfl)
    (try simp only [Act.put,List.setIfInBounds_toArray,List.set_cons_zero,List.set_cons_succ])
    (refine takeL (i:=1) (v:=?_) rfl (by kernel_rfl) (by kernel_rfl) (by kernel_rfl) (fun _ _ _ h=>h) (Or.inl ⟨by rfl,?_⟩) (by assumption) ?_)
    rotate_left
    ·(intro w hSw;(try dsimp only at hSw);go_simp;first | done | with_reducible rfl)
    (try simp only [Act.put,List.setIfInBounds_toArray,List.set_cons_zero,List.set_cons_succ])
    (refine takeL (i:=2) (v:=?_) rfl (by kernel_rfl) (by kernel_rfl) (by kernel_rfl) (fun _ _ _ h=>h) (Or.inl ⟨by rfl,?_⟩) (by assumption) ?_)
    rotate_left
    ·(intro w hSw;(try dsimp only at hSw);go_simp;first | done | with_reducible rfl)
    (try simp only [Act.put,List.setIfInBounds_toArray,List.set_cons_zero,List.set_cons_succ])
    (refine takeL (i:=3) (v:=?_) rfl (by kernel_rfl) (by kernel_rfl) (by kernel_rfl) (fun _ _ _ h=>h) (Or.inl ⟨by rfl,?_⟩) (by assumption) ?_)
    rotate_left
    ·(intro w hSw;(try dsimp only at hSw);go_simp;first | done | with_reducible rfl)
    (try simp only [Act.put,List.setIfInBounds_toArray,List.set_cons_zero,List.set_cons_succ])
    (refine takeL (i:=4) (v:=?_) rfl (by kernel_rfl) (by kernel_rfl) (by kernel_rfl) (fun _ _ _ h=>h) (Or.inl ⟨by rfl,?_⟩) (by assumption) ?_)
    rotate_left
    ·(intro w hSw;(try dsimp only at hSw);go_simp;first | done | with_reducible rfl)
    (try simp only [Act.put,List.setIfInBounds_toArray,List.set_cons_zero,List.set_cons_succ])
    (refine takeL (i:=5) (v:=?_) rfl (by kernel_rfl) (by kernel_rfl) (by kernel_rfl) (fun _ _ _ h=>h) (Or.inl ⟨by rfl,?_⟩) (by assumption) ?_)
    rotate_left
    ·(intro w hSw;(try dsimp only at hSw);go_simp;first | done | with_reducible rfl)
    (try simp only [Act.put,List.setIfInBounds_toArray,List.set_cons_zero,List.set_cons_succ])
    (refine takeL (i:=6) (v:=?_) rfl (by kernel_rfl) (by kernel_rfl) (by kernel_rfl) (fun _ _ _ h=>h) (Or.inl ⟨by rfl,?_⟩) (by assumption) ?_)
    rotate_left
    ·(intro w hSw;(try dsimp only at hSw);go_simp;first | done | with_reducible rfl)
    (try simp only [Act.put,List.setIfInBounds_toArray,List.set_cons_zero,List.set_cons_succ])
    (refine takeL (i:=7) (v:=?_) rfl (by kernel_rfl) (by kernel_rfl) (by kernel_rfl) (fun _ _ _ h=>h) (Or.inl ⟨by rfl,?_⟩) (by assumption) ?_)
    rotate_left
    ·(intro w hSw;(try dsimp only at hSw);go_simp;first | done | with_reducible rfl)
    (try simp only [Act.put,List.setIfInBounds_toArray,List.set_cons_zero,List.set_cons_succ])
    (refine wpAnyH_ready (rs:=[8]) (by kernel_rfl) (by simp) ?_)
    (refine consL rfl (fun K hK=>?_))
    ((rw [if_pos (by rfl)]);go_simp;refine (qw.out true k hlt _ hfd.out.1).mono ?_;rintro e w3 ⟨rfl,hb3⟩;have hf3:=Lib.hid (hfd.out.next hb3.below hfd.out.size);refine hK.out _ _ (hSk.out _ hf3.out) (fun hHeld=>?_);clear hb3)
    (clear hK K)
    (try simp only [Act.put,List.setIfInBounds_toArray,List.set_cons_zero,List.set_cons_succ])
    (refine takeL (i:=9) (v:=?_) rfl (by kernel_rfl) (by kernel_rfl) (by kernel_rfl) (fun _ _ _ h=>h) (Or.inl ⟨by rfl,?_⟩) (by assumption) ?_)
    rotate_left
    ·(intro w hSw;(try dsimp only at hSw);go_simp;first | done | with_reducible rfl)
    (try simp only [Act.put,List.setIfInBounds_toArray,List.set_cons_zero,List.set_cons_succ])
    (refine takeL (i:=10) (v:=?_) rfl (by kernel_rfl) (by kernel_rfl) (by kernel_rfl) (fun _ _ _ h=>h) (Or.inl ⟨by rfl,?_⟩) (by assumption) ?_)
    rotate_left
    ·(intro w hSw;(try dsimp only at hSw);go_simp;first | done | with_reducible rfl)
    (try simp only [Act.put,List.setIfInBounds_toArray,List.set_cons_zero,List.set_cons_succ])
    (refine takeL (i:=11) (v:=?_) rfl (by kernel_rfl) (by kernel_rfl) (by kernel_rfl) (fun _ _ _ h=>h) (Or.inl ⟨by rfl,?_⟩) (by assumption) ?_)
    rotate_left
    ·(intro w hSw;(try dsimp only at hSw);go_simp;first | done | with_reducible rfl)
    (try simp only [Act.put,List.setIfInBounds_toArray,List.set_cons_zero,List.set_cons_succ])
    (refine takeL (i:=12) (v:=?_) rfl (by kernel_rfl) (by kernel_rfl) (by kernel_rfl) (fun _ _ _ h=>h) (Or.inl ⟨by rfl,?_⟩) (by assumption) ?_)
    rotate_left
    ·(intro w hSw;(try dsimp only at hSw);go_simp;first | done | with_reducible rfl)
    (try simp only [Act.put,List.setIfInBounds_toArray,List.set_cons_zero,List.set_cons_succ])
    (refine takeL (i:=13) (v:=?_) rfl (by kernel_rfl) (by kernel_rfl) (by kernel_rfl) (fun _ _ _ h=>h) (Or.inl ⟨by rfl,?_⟩) (by assumption) ?_)
    rotate_left
    ·(intro w hSw;(try dsimp only at hSw);go_simp;first | done | with_reducible rfl)
    (try simp only [Act.put,List.setIfInBounds_toArray,List.set_cons_zero,List.set_cons_succ])
    (refine takeL (i:=14) (v:=?_) rfl (by kernel_rfl) (by kernel_rfl) (by kernel_rfl) (fun _ _ _ h=>h) (Or.inl ⟨by rfl,?_⟩) (by assumption) ?_)
    rotate_left
    ·(intro w hSw;(try dsimp only at hSw);go_simp;first | done | with_reducible rfl)
    (try simp only [Act.put,List.setIfInBounds_toArray,List.set_cons_zero,List.set_cons_succ])
    (refine takeL (i:=15) (v:=?_) rfl (by kernel_rfl) (by kernel_rfl) (by kernel_rfl) (fun _ _ _ h=>h) (Or.inl ⟨by rfl,?_⟩) (by assumption) ?_)
    rotate_left
    ·(intro w hSw;(try dsimp only at hSw);go_simp;first | done | with_reducible rfl)
    (try simp only [Act.put,List.setIfInBounds_toArray,List.set_cons_zero,List.set_cons_succ])
    (refine takeL (i:=16) (v:=?_) rfl (by kernel_rfl) (by kernel_rfl) (by kernel_rfl) (fun _ _ _ h=>h) (Or.inl ⟨by rfl,?_⟩) (by assumption) ?_)
    rotate_left
    ·(intro w hSw;(try dsimp only at hSw);go_simp;first | done | with_reducible rfl)
    (try simp only [Act.put,List.setIfInBounds_toArray,List.set_cons_zero,List.set_cons_succ])
    (refine wpAnyH_ready (rs:=[17]) (by kernel_rfl) (by simp) ?_)
    (refine consL rfl (fun K hK=>?_))
    ((rw [if_pos (by rfl)]);go_simp;refine (qw.out false k hlt _ hf3.out.1).mono ?_;rintro e w4 ⟨rfl,hb4⟩;have hf4:=Lib.hid (hf3.out.next hb4.below hf3.out.size);refine hK.out _ _ (hSk.out _ hf4.out) (fun hHeld=>?_);clear hb4)
    (clear hK K)
    (try simp only [Act.put,List.setIfInBounds_toArray,List.set_cons_zero,List.set_cons_succ])
    (refine takeL (i:=18) (v:=?_) rfl (by kernel_rfl) (by kernel_rfl) (by kernel_rfl) (fun _ _ _ h=>h) (Or.inl ⟨by rfl,?_⟩) (by assumption) ?_)
    rotate_left
    ·(intro w hSw;(try dsimp only at hSw);go_simp;first | done | with_reducible rfl)
    (try simp only [Act.put,List.setIfInBounds_toArray,List.set_cons_zero,List.set_cons_succ])
    (refine takeL (i:=19) (v:=?_) rfl (by kernel_rfl) (by kernel_rfl) (by kernel_rfl) (fun _ _ _ h=>h) (Or.inl ⟨by rfl,?_⟩) (by assumption) ?_)
    rotate_left
    ·(intro w hSw;(try dsimp only at hSw);go_simp;first | done | with_reducible rfl)
    (try simp only [Act.put,List.setIfInBounds_toArray,List.set_cons_zero,List.set_cons_succ])
    (refine takeL (i:=20) (v:=?_) rfl (by kernel_rfl) (by kernel_rfl) (by kernel_rfl) (fun _ _ _ h=>h) (Or.inl ⟨by rfl,?_⟩) (by assumption) ?_)
    rotate_left
    ·(intro w hSw;(try dsimp only at hSw);go_simp;first | done | with_reducible rfl)
    (try simp only [Act.put,List.setIfInBounds_toArray,List.set_cons_zero,List.set_cons_succ])
    (refine takeL (i:=21) (v:=?_) rfl (by kernel_rfl) (by kernel_rfl) (by kernel_rfl) (fun _ _ _ h=>h) (Or.inl ⟨by rfl,?_⟩) (by assumption) ?_)
    rotate_left
    ·(intro w hSw;(try dsimp only at hSw);go_simp;first | done | with_reducible rfl)
    (try simp only [Act.put,List.setIfInBounds_toArray,List.set_cons_zero,List.set_cons_succ])
    obtain ⟨s1,s2⟩:=hf4.out.2.2.2.cell (j:=k) hlt
    have hf7:=Lib.hid (hf4.out.put (b:=C) (by rw [hB.out,hC.out] <;> rfl))
    (refine wpAnyH_ready (rs:=[22]) (by kernel_rfl) (by simp) ?_)
    (refine consL rfl (fun K hK=>?_))
    ((rw [if_pos (by rfl)]);go_simp;refine hK.out _ _ (hSk1.out _ hf7.out) (fun hHeld=>?_))
    (clear hK K)
    (try simp only [Act.put,List.setIfInBounds_toArray,List.set_cons_zero,List.set_cons_succ])
    (refine wpAnyH_done (by kernel_rfl) ?_ _)
    clear hHeld
    go_wp2_with fail
    go_roundw
    case rel=>exact ⟨k+1,by omega,by go_num,hf7⟩
    case measure=>simp [intOf];omega
   ·go_wp2_with fail
    (refine wp_region_held_drew (S:=(fun V=>(V.cell? ⟨w2.heap.size,0,none⟩ = some (.slice ba l.length cp)∧V.cell? ⟨w2.heap.size,1,none⟩ = some (.slice (some ⟨g,0,none⟩) N N))∧(V.cell? ⟨w.heap.size,0,none⟩ = some (.slice ba l.length cp)∧V.cell? ⟨w.heap.size,1,none⟩ = some (.slice (some ⟨g0,0,none⟩) N c0))∧V.cell? ⟨g0,M true k,none⟩ = some (.bool true)∧V.cell? ⟨g0,M false k,none⟩ = some (.bool C))) (by kernel_rfl) ?_ (fun hHeld=>?_))
    ·exact hSk.out _ hfd.out
    (refine takeL (i:=0) (v:=?_) rfl (by kernel_rfl) (by kernel_rfl) (by kernel_rfl) (fun _ _ _ h=>h) (Or.inl ⟨by rfl,?_⟩) (by assumption) ?_)
    rotate_left
    ·(intro w hSw;(try dsimp only at hSw);go_simp;first | done | with_reducible rfl)
    (try simp only [Act.put,List.setIfInBounds_toArray,List.set_cons_zero,List.set_cons_succ])
    (refine takeL (i:=1) (v:=?_) rfl (by kernel_rfl) (by kernel_rfl) (by kernel_rfl) (fun _ _ _ h=>h) (Or.inl ⟨by rfl,?_⟩) (by assumption) ?_)
    rotate_left
    ·(intro w hSw;(try dsimp only at hSw);go_simp;first | done | with_reducible rfl)
    (try simp only [Act.put,List.setIfInBounds_toArray,List.set_cons_zero,List.set_cons_succ])
    (refine takeL (i:=2) (v:=?_) rfl (by kernel_rfl) (by kernel_rfl) (by kernel_rfl) (fun _ _ _ h=>h) (Or.inl ⟨by rfl,?_⟩) (by assumption) ?_)
    rotate_left
    ·(intro w hSw;(try dsimp only at hSw);go_simp;first | done | with_reducible rfl)
    (try simp only [Act.put,List.setIfInBounds_toArray,List.set_cons_zero,List.set_cons_succ])
    (refine takeL (i:=3) (v:=?_) rfl (by kernel_rfl) (by kernel_rfl) (by kernel_rfl) (fun _ _ _ h=>h) (Or.inl ⟨by rfl,?_⟩) (by assumption) ?_)
    rotate_left
    ·(intro w hSw;(try dsimp only at hSw);go_simp;first | done | with_reducible rfl)
    (try simp only [Act.put,List.setIfInBounds_toArray,List.set_cons_zero,List.set_cons_succ])
    (refine takeL (i:=4) (v:=?_) rfl (by kernel_rfl) (by kernel_rfl) (by kernel_rfl) (fun _ _ _ h=>h) (Or.inl ⟨by rfl,?_⟩) (by assumption) ?_)
    rotate_left
    ·(intro w hSw;(try dsimp only at hSw);go_simp;first | done | with_reducible rfl)
    (try simp only [Act.put,List.setIfInBounds_toArray,List.set_cons_zero,List.set_cons_succ])
    (refine takeL (i:=5) (v:=?_) rfl (by kernel_rfl) (by kernel_rfl) (by kernel_rfl) (fun _ _ _ h=>h) (Or.inl ⟨by rfl,?_⟩) (by assumption) ?_)
    rotate_left
    ·(intro w hSw;(try dsimp only at hSw);go_simp;first | done | with_reducible rfl)
    (try simp only [Act.put,List.setIfInBounds_toArray,List.set_cons_zero,List.set_cons_succ])
    (refine takeL (i:=6) (v:=?_) rfl (by kernel_rfl) (by kernel_rfl) (by kernel_rfl) (fun _ _ _ h=>h) (Or.inl ⟨by rfl,?_⟩) (by assumption) ?_)
    rotate_left
    ·(intro w hSw;(try dsimp only at hSw);go_simp;first | done | with_reducible rfl)
    (try simp only [Act.put,List.setIfInBounds_toArray,List.set_cons_zero,List.set_cons_succ])
    (refine takeL (i:=7) (v:=?_) rfl (by kernel_rfl) (by kernel_rfl) (by kernel_rfl) (fun _ _ _ h=>h) (Or.inl ⟨by rfl,?_⟩) (by assumption) ?_)
    rotate_left
    ·(intro w hSw;(try dsimp only at hSw);go_simp;first | done | with_reducible rfl)
    (try simp only [Act.put,List.setIfInBounds_toArray,List.set_cons_zero,List.set_cons_succ])
    (refine wpAnyH_ready (rs:=[8]) (by kernel_rfl) (by simp) ?_)
    (refine consL rfl (fun K hK=>?_))
    ((rw [if_pos (by rfl)]);go_simp;refine (qw.out true k hlt _ hfd.out.1).mono ?_;rintro e w3 ⟨rfl,hb3⟩;have hf3:=Lib.hid (hfd.out.next hb3.below hfd.out.size);refine hK.out _ _ (hSk.out _ hf3.out) (fun hHeld=>?_);clear hb3)
    (clear hK K)
    (try simp only [Act.put,List.setIfInBounds_toArray,List.set_cons_zero,List.set_cons_succ])
    (refine takeL (i:=9) (v:=?_) rfl (by kernel_rfl) (by kernel_rfl) (by kernel_rfl) (fun _ _ _ h=>h) (Or.inl ⟨by rfl,?_⟩) (by assumption) ?_)
    rotate_left
    ·(intro w hSw;(try dsimp only at hSw);go_simp;first | done | with_reducible rfl)
    (try simp only [Act.put,List.setIfInBounds_toArray,List.set_cons_zero,List.set_cons_succ])
    (refine takeL (i:=10) (v:=?_) rfl (by kernel_rfl) (by kernel_rfl) (by kernel_rfl) (fun _ _ _ h=>h) (Or.inl ⟨by rfl,?_⟩) (by assumption) ?_)
    rotate_left
    ·(intro w hSw;(try dsimp only at hSw);go_simp;first | done | with_reducible rfl)
    (try simp only [Act.put,List.setIfInBounds_toArray,List.set_cons_zero,List.set_cons_succ])
    (refine takeL (i:=11) (v:=?_) rfl (by kernel_rfl) (by kernel_rfl) (by kernel_rfl) (fun _ _ _ h=>h) (Or.inl ⟨by rfl,?_⟩) (by assumption) ?_)
    rotate_left
    ·(intro w hSw;(try dsimp only at hSw);go_simp;first | done | with_reducible rfl)
    (try simp only [Act.put,List.setIfInBounds_toArray,List.set_cons_zero,List.set_cons_succ])
    (refine takeL (i:=12) (v:=_) rfl (by kernel_rfl) (by kernel_rfl) (by kernel_rfl) (fun _ _ _ h=>h) (Or.inr ⟨by rfl,rfl⟩) (by assumption) ?_)
    (try simp only [Act.put,List.setIfInBounds_toArray,List.set_cons_zero,List.set_cons_succ])
    (refine takeL (i:=13) (v:=_) rfl (by kernel_rfl) (by kernel_rfl) (by kernel_rfl) (fun _ _ _ h=>h) (Or.inr ⟨by rfl,rfl⟩) (by assumption) ?_)
    (try simp only [Act.put,List.setIfInBounds_toArray,List.set_cons_zero,List.set_cons_succ])
    (refine takeL (i:=14) (v:=_) rfl (by kernel_rfl) (by kernel_rfl) (by kernel_rfl) (fun _ _ _ h=>h) (Or.inr ⟨by rfl,rfl⟩) (by assumption) ?_)
    (try simp only [Act.put,List.setIfInBounds_toArray,List.set_cons_zero,List.set_cons_succ])
    (refine takeL (i:=15) (v:=_) rfl (by kernel_rfl) (by kernel_rfl) (by kernel_rfl) (fun _ _ _ h=>h) (Or.inr ⟨by rfl,rfl⟩) (by assumption) ?_)
    (try simp only [Act.put,List.setIfInBounds_toArray,List.set_cons_zero,List.set_cons_succ])
    (refine takeL (i:=16) (v:=_) rfl (by kernel_rfl) (by kernel_rfl) (by kernel_rfl) (fun _ _ _ h=>h) (Or.inr ⟨by rfl,rfl⟩) (by assumption) ?_)
    (try simp only [Act.put,List.setIfInBounds_toArray,List.set_cons_zero,List.set_cons_succ])
    (refine takeL (i:=17) (v:=_) rfl (by kernel_rfl) (by kernel_rfl) (by kernel_rfl) (fun _ _ _ h=>h) (Or.inr ⟨by rfl,rfl⟩) (by assumption) ?_)
    (try simp only [Act.put,List.setIfInBounds_toArray,List.set_cons_zero,List.set_cons_succ])
    (refine takeL (i:=18) (v:=_) rfl (by kernel_rfl) (by kernel_rfl) (by kernel_rfl) (fun _ _ _ h=>h) (Or.inr ⟨by rfl,rfl⟩) (by assumption) ?_)
    (try simp only [Act.put,List.setIfInBounds_toArray,List.set_cons_zero,List.set_cons_succ])
    (refine takeL (i:=19) (v:=_) rfl (by kernel_rfl) (by kernel_rfl) (by kernel_rfl) (fun _ _ _ h=>h) (Or.inr ⟨by rfl,rfl⟩) (by assumption) ?_)
    (try simp only [Act.put,List.setIfInBounds_toArray,List.set_cons_zero,List.set_cons_succ])
    have hf4:=hf3
    (refine takeL (i:=20) (v:=?_) rfl (by kernel_rfl) (by kernel_rfl) (by kernel_rfl) (fun _ _ _ h=>h) (Or.inl ⟨by rfl,?_⟩) (by assumption) ?_)
    rotate_left
    ·(intro w hSw;(try dsimp only at hSw);go_simp;first | done | with_reducible rfl)
    (try simp only [Act.put,List.setIfInBounds_toArray,List.set_cons_zero,List.set_cons_succ])
    (refine takeL (i:=21) (v:=?_) rfl (by kernel_rfl) (by kernel_rfl) (by kernel_rfl) (fun _ _ _ h=>h) (Or.inl ⟨by rfl,?_⟩) (by assumption) ?_)
    rotate_left
    ·(intro w hSw;(try dsimp only at hSw);go_simp;first | done | with_reducible rfl)
    (try simp only [Act.put,List.setIfInBounds_toArray,List.set_cons_zero,List.set_cons_succ])
    obtain ⟨s1,s2⟩:=hf4.out.2.2.2.cell (j:=k) hlt
    have hf7:=Lib.hid (hf4.out.put (b:=true) (by rw [hB.out,hC.out];rfl))
    (refine wpAnyH_ready (rs:=[22]) (by kernel_rfl) (by simp) ?_)
    (refine consL rfl (fun K hK=>?_))
    ((rw [if_pos (by rfl)]);go_simp;refine hK.out _ _ (hSk1.out _ hf7.out) (fun hHeld=>?_))
    (clear hK K)
    (try simp only [Act.put,List.setIfInBounds_toArray,List.set_cons_zero,List.set_cons_succ])
    (refine wpAnyH_done (by kernel_rfl) ?_ _)
    clear hHeld
    go_wp2_with fail
    go_roundw
    case rel=>exact ⟨k+1,by omega,by go_num,hf7⟩
    case measure=>simp [intOf];omega
  ·obtain rfl:k = N:=by omega
   have d0:decide ((k:Int) < (k:Int)) = false:=decide_eq_false (by omega)
   replace f0:=Lib.hid f0
   replace f1:=Lib.hid f1
   go_wp2_with fail
   have hbe:Below w.heap.size w ((wr.setCell ⟨w.heap.size+1,0,none⟩ (.slice ba l.length cp)).setCell ⟨w.heap.size+1,1,none⟩ (.slice (some ⟨g,0,none⟩) k k)):=((hx1.below.trans (hbr.mono hx1.size)).setCell (Nat.le_succ _) _).setCell (Nat.le_succ _) _
   have hbb:BoolsAt ((wr.setCell ⟨w.heap.size+1,0,none⟩ (.slice ba l.length cp)).setCell ⟨w.heap.size+1,1,none⟩ (.slice (some ⟨g,0,none⟩) k k)) g 4 k (fun k=>f true k || f false k):=by
    have hge:g≠w.heap.size+1:=by have:=hI.out.2.1.1;have:=hs1.out;omega
    exact (hI.out.done.same (Below.heap_setCell _ _ _ _ hge)).same (Below.heap_setCell _ _ _ _ hge)
   obtain ⟨y0,y1⟩:=box2_set f1.out (.slice ba l.length cp) (.slice (some ⟨g,0,none⟩) k k)
   generalize (wr.setCell ⟨w.heap.size+1,0,none⟩ (.slice ba l.length cp)).setCell ⟨w.heap.size+1,1,none⟩ (.slice (some ⟨g,0,none⟩) k k) = W at *
   exact bodyPost_ret (v:=.agg #[.slice ba l.length cp,.slice (some ⟨g,0,none⟩) k k]) (by simp [results,Tryz.results38,go_sem,y0,y1]) rfl ⟨_,rfl,hfin.out _ _ _ hbe hbb,hbe⟩
end Go.Proofs.YtmnjakejhbpkoaaGreatDoor
