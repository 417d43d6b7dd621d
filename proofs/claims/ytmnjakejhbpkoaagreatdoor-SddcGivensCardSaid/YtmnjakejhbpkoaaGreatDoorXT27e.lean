import Derived.Test.YtmnjakejhbpkoaaGreatDoorXT27c
import Derived.Test.YtmnjakejhbpkoaaGreatDoorXLaw12
import Derived.Test.YtmnjakejhbpkoaaGreatDoorXTab2
section
set_option linter.unusedSimpArgs false
set_option linter.unusedVariables false
namespace Go.Proofs.YtmnjakejhbpkoaaGreatDoor
open Go Go.RowKit Go.Shelf
theorem bit_emod (k i:Nat):(((k:Int) / 2 ^ i) % 2 == 1) = k.testBit i:=by
 have h1:((k:Int) / 2 ^ i) = ((k / 2 ^ i:Nat):Int):=by simp
 rw [h1,Nat.testBit_eq_decide_div_mod_eq,Bool.eq_iff_iff]
 simp
 omega
theorem bit_tmod (k i:Nat):(((k:Int) / 2 ^ i).tmod 2 == 1) = k.testBit i:=by
 rw [Int.tmod_eq_emod_of_nonneg (Int.ediv_nonneg (by omega) (Int.pow_nonneg (by omega))),bit_emod]
def SetLp (l:List Int) (k:Nat) (w1:World) (z i:Nat) (wr:World):Prop :=
 Below z w1 wr∧z < wr.heap.size∧wr.heap[z]? = some (.cells #[.int .u64 (lo (L.setK l k i)),.int .u64 (hi (L.setK l k i))] 41 (0,0))
set_option maxRecDepth 100000 in
set_option maxHeartbeats 4000000 in
theorem fnSet_any {l:List Int} {vl vo:Value} {w:World} (hv:SlI w vl l) (hr:∀ v∈l,1≤v∧v≤128) (hl:l.length≤12) {bo:Option Addr} {no co:Nat} (hvo:vo = .slice bo no co) (k:Nat) (hk:k < 4096) :
  Calls Tryz.prog 92 #[.agg #[vl,vo],.int .i64 (k:Nat)] w fun e w'=>e = .returned (.agg #[.int .u64 (lo (L.setK l k l.length)),.int .u64 (hi (L.setK l k l.length))])∧Below w.heap.size w w':=by
 subst hvo
 obtain ⟨e0,e1,e2⟩:=alloc3h w (.cells #[vl,.slice bo no co] 48) (.cells #[.int .u64 0,.int .u64 0] 41) (.cells #[.int .u64 0,.int .u64 0] 41)
 have hb1:Below w.heap.size w (((w.alloc (.cells #[vl,.slice bo no co] 48)).alloc (.cells #[.int .u64 0,.int .u64 0] 41)).alloc (.cells #[.int .u64 0,.int .u64 0] 41)):=((((Ext.refl w).alloc _).alloc _).alloc _).below
 have hs1:(((w.alloc (.cells #[vl,.slice bo no co] 48)).alloc (.cells #[.int .u64 0,.int .u64 0] 41)).alloc (.cells #[.int .u64 0,.int .u64 0] 41)).heap.size = w.heap.size+3:=by simp
 obtain ⟨w1,hw1⟩:∃ w1,w1 = ((w.alloc (.cells #[vl,.slice bo no co] 48)).alloc (.cells #[.int .u64 0,.int .u64 0] 41)).alloc (.cells #[.int .u64 0,.int .u64 0] 41):=⟨_,rfl⟩
 rw [←hw1] at e0 e1 e2 hb1 hs1
 have hv1:=hv.ext hb1
 obtain ⟨ba,cp,rfl,hv0⟩:=hv1
 have hcs:∀ j (hj:j < l.length),∃ b o,ba = some ⟨b,o,none⟩∧b < w.heap.size∧w1.cell? ⟨b,o+j,none⟩ = some (.int .i64 l[j]):=fun j hj=>by
  obtain ⟨ba',cp',e,h⟩:=hv
  simp only [Value.slice.injEq] at e
  obtain ⟨rfl,_,rfl⟩:=e
  rcases h with ⟨_,h2,_⟩ | ⟨b,o,rfl,h2⟩
  ·rw [h2] at hj;simp at hj
  ·have:=h2 j hj
   exact ⟨b,o,rfl,World.block_lt_of_cell? w _ this,(hb1.cell (World.block_lt_of_cell? w _ this)).trans this⟩
 have hL0:Hid (SetLp l k w1 (w.heap.size+1+1) 0 w1):=Lib.hid ⟨Below.refl _ _,by omega,by rw [e2,L.setK];rfl⟩
 have hw:=fun s v (h:1≤v∧v≤128) W=>refWith_any s v W
 unfold encS at hw
 replace hcs:=Lib.hid hcs
 replace hs1:=Lib.hid hs1
 replace e0:=Lib.hid e0
 replace e1:=Lib.hid e1
 replace e2:=Lib.hid e2
 replace hw:=Lib.hid hw
 replace hr:=Lib.hid hr
 clear hv0 hv
 go_enter Tryz.func92,Tryz.ntmps92
 go_wp2_with fail
 rw [←hw1]
 replace hw1:=Lib.hid hw1
 go_loopw [6] (fun i wr=>∃ j:Nat,j≤l.length∧i = .int .i64 j∧Hid (SetLp l k w1 (w.heap.size+1+1) j wr)) (fun i _=>l.length - (intOf i).toNat)
 case atStart=>exact ⟨0,Nat.zero_le _,rfl,hL0⟩
 case round =>
  clear hL0
  obtain ⟨j,hj,rfl,hI⟩:=hrel
  obtain ⟨hbr,hzl,hzz⟩:=hI.out
  have f0:=(hbr.block w.heap.size (by omega)).trans e0.out
  have f1:=(hbr.block (w.heap.size+1) (by omega)).trans e1.out
  have c0:wr.cell? ⟨w.heap.size,0,none⟩ = some (.slice ba l.length cp):=by rw [World.cell?,f0];rfl
  by_cases hlt:j < l.length
  ·obtain ⟨b,o,rfl,hbl,hc⟩:=hcs.out j hlt
   have hc':wr.cell? ⟨b,o+j,none⟩ = some (.int .i64 l[j]):=(World.cell?_of_block (a:=⟨b,o+j,none⟩) (hbr.block b (by omega))).trans hc
   have dj:decide ((j:Int) < (l.length:Int)) = true:=decide_eq_true (by omega)
   have jj0:(0:Int)≤j:=by omega
   have jj1:(j:Int) < l.length:=by omega
   have hst:L.setK l k (j+1) = if k.testBit j = true then withS (L.setK l k j) l[j] else L.setK l k j:=by
    show (if k.testBit j = true then withS (L.setK l k j) (l.getD j 0) else L.setK l k j) = _
    rw [List.getD_eq_getElem?_getD,List.getElem?_eq_getElem hlt]
    rfl
   have hrj:=hr.out _ (List.getElem_mem hlt)
   have hbe:=bit_emod k j
   have hbt:=bit_tmod k j
   generalize l[j] = u at *
   generalize L.setK l k j = m at *
   generalize k.testBit j = B at *
   obtain ⟨y0,y1⟩:=pbox_cells hzz
   replace hrj:=Lib.hid hrj
   replace f1:=Lib.hid f1
   replace f0:=Lib.hid f0
   cases B
   ·simp only [Bool.false_eq_true,if_false] at hst
    have hend:Hid (SetLp l k w1 (w.heap.size+1+1) (j+1) wr):=Lib.hid ⟨hbr,hzl,by rw [hst];exact hzz⟩
    replace hst:=Lib.hid hst
    replace hzz:=Lib.hid hzz
    go_wp2_with fail
    go_roundw
    case rel=>exact ⟨j+1,by omega,by go_num,hend⟩
    case measure=>simp [intOf];omega
   ·simp only [if_true] at hst
    have q:=hw.out m u hrj.out
    rw [withR_eq _ _ hrj.out,←hst] at q
    generalize hm2:L.setK l k (j+1) = m2 at *
    replace hm2:=Lib.hid hm2
    replace q:=Lib.hid q
    replace hst:=Lib.hid hst
    replace hzz:=Lib.hid hzz
    go_wp2_with fail
    (refine wp_region_z (S:=(fun V=>Below wr.heap.size wr V∧(V.cell? ⟨w.heap.size+1+1,0,none⟩ = some (.int .u64 (lo m))∧V.cell? ⟨w.heap.size+1+1,1,none⟩ = some (.int .u64 (hi m)))∧V.cell? ⟨w.heap.size,0,none⟩ = some (.slice (some ⟨b,o,none⟩) l.length cp)∧V.cell? ⟨b,o+j,none⟩ = some (.int .i64 u))) 7 (by kernel_rfl) ?_ (fun hHeld=>?_))
    ·exact ⟨(Below.refl _ _).drew,⟨y0,y1⟩,c0,hc'⟩
    (refine wpZ_take (i:=0) (v:=?_) rfl (by kernel_rfl) (by decide) (by kernel_rfl) (by kernel_rfl) (by kernel_rfl) (fun _ _ _ h=>h) (Or.inl ⟨by rfl,?_⟩) (by assumption) ?_)
    rotate_left
    ·(intro w hSw;(try dsimp only at hSw);obtain ⟨r9,⟨r0,r1⟩,r2,r3⟩:=hSw;go_simp;first | done | with_reducible rfl)
    (try simp only [Act.put,List.setIfInBounds_toArray,List.set_cons_zero,List.set_cons_succ])
    (refine wpZ_take (i:=1) (v:=?_) rfl (by kernel_rfl) (by decide) (by kernel_rfl) (by kernel_rfl) (by kernel_rfl) (fun _ _ _ h=>h) (Or.inl ⟨by rfl,?_⟩) (by assumption) ?_)
    rotate_left
    ·(intro w hSw;(try dsimp only at hSw);obtain ⟨r9,⟨r0,r1⟩,r2,r3⟩:=hSw;go_simp;first | done | with_reducible rfl)
    (try simp only [Act.put,List.setIfInBounds_toArray,List.set_cons_zero,List.set_cons_succ])
    (refine wpZ_take (i:=2) (v:=?_) rfl (by kernel_rfl) (by decide) (by kernel_rfl) (by kernel_rfl) (by kernel_rfl) (fun _ _ _ h=>h) (Or.inl ⟨by rfl,?_⟩) (by assumption) ?_)
    rotate_left
    ·(intro w hSw;(try dsimp only at hSw);obtain ⟨r9,⟨r0,r1⟩,r2,r3⟩:=hSw;go_simp;first | done | with_reducible rfl)
    (try simp only [Act.put,List.setIfInBounds_toArray,List.set_cons_zero,List.set_cons_succ])
    (refine wpZ_take (i:=3) (v:=?_) rfl (by kernel_rfl) (by decide) (by kernel_rfl) (by kernel_rfl) (by kernel_rfl) (fun _ _ _ h=>h) (Or.inl ⟨by rfl,?_⟩) (by assumption) ?_)
    rotate_left
    ·(intro w hSw;(try dsimp only at hSw);obtain ⟨r9,⟨r0,r1⟩,r2,r3⟩:=hSw;go_simp;first | done | with_reducible rfl)
    (try simp only [Act.put,List.setIfInBounds_toArray,List.set_cons_zero,List.set_cons_succ])
    (refine wpZ_take (i:=4) (v:=?_) rfl (by kernel_rfl) (by decide) (by kernel_rfl) (by kernel_rfl) (by kernel_rfl) (fun _ _ _ h=>h) (Or.inl ⟨by rfl,?_⟩) (by assumption) ?_)
    rotate_left
    ·(intro w hSw;(try dsimp only at hSw);obtain ⟨r9,⟨r0,r1⟩,r2,r3⟩:=hSw;go_simp;first | done | with_reducible rfl)
    (try simp only [Act.put,List.setIfInBounds_toArray,List.set_cons_zero,List.set_cons_succ])
    (refine wpZ_take (i:=5) (v:=?_) rfl (by kernel_rfl) (by decide) (by kernel_rfl) (by kernel_rfl) (by kernel_rfl) (fun _ _ _ h=>h) (Or.inl ⟨by rfl,?_⟩) (by assumption) ?_)
    rotate_left
    ·(intro w hSw;(try dsimp only at hSw);obtain ⟨r9,⟨r0,r1⟩,r2,r3⟩:=hSw;go_simp;first | done | with_reducible rfl)
    (try simp only [Act.put,List.setIfInBounds_toArray,List.set_cons_zero,List.set_cons_succ])
    (refine wpZ_one (i:=6) (by kernel_rfl) rfl (fun K hK=>?_))
    ((rw [if_pos (by rfl)]);go_simp;(go_at_call 160);refine (q.out _).mono ?_;rintro e w3 ⟨rfl,hb3⟩;refine hK.out _ _ ⟨hHeld.1.trans (hb3.mono hHeld.1.size),⟨(hb3.cell (World.block_lt_of_cell? _ _ hHeld.2.1.1)).trans hHeld.2.1.1,(hb3.cell (World.block_lt_of_cell? _ _ hHeld.2.1.2)).trans hHeld.2.1.2⟩,(hb3.cell (World.block_lt_of_cell? _ _ hHeld.2.2.1)).trans hHeld.2.2.1,(hb3.cell (World.block_lt_of_cell? _ _ hHeld.2.2.2)).trans hHeld.2.2.2⟩ (fun hHeld=>?_))
    (clear hK K)
    (try simp only [Act.put,List.setIfInBounds_toArray,List.set_cons_zero,List.set_cons_succ])
    have hzz3:=(hHeld.1.block _ hzl).trans hzz.out
    have z0:w3.frozen? ⟨w.heap.size+1+1,0,none⟩ = false:=by simp [World.frozen?,hzz3]
    have z1:w3.frozen? ⟨w.heap.size+1+1,1,none⟩ = false:=by simp [World.frozen?,hzz3]
    have z2:=hHeld.2.1.1
    have z3:=hHeld.2.1.2
    have hend:Hid (SetLp l k w1 (w.heap.size+1+1) (j+1) ((w3.setCell ⟨w.heap.size+1+1,0,none⟩ (.int .u64 (lo m2))).setCell ⟨w.heap.size+1+1,1,none⟩ (.int .u64 (hi m2)))):=Lib.hid ⟨((hbr.trans (hHeld.1.mono (by omega))).setCell (Nat.le_refl _) _).setCell (Nat.le_refl _) _,by simp [World.setCell];have:=hHeld.1.size;omega,by rw [hm2.out];exact heap_set2 hzz3 _ _⟩
    replace hzz3:=Lib.hid hzz3
    clear hHeld
    (refine wpZ_last (by kernel_rfl) rfl (by kernel_rfl) (fun K hK=>?_))
    ((rw [if_pos (by rfl)]);go_simp;refine hK.out _ _ ?_)
    (clear hK K)
    (try simp only [Act.put,List.setIfInBounds_toArray,List.set_cons_zero,List.set_cons_succ])
    go_wp2_with fail
    go_roundw
    case rel=>exact ⟨j+1,by omega,by go_num,hend⟩
    case measure=>simp [intOf];omega
  ·obtain rfl:j = l.length:=by omega
   have dj:decide ((l.length:Int) < (l.length:Int)) = false:=decide_eq_false (by omega)
   generalize hR:L.setK l k l.length = R at *
   obtain ⟨y0,y1⟩:=pbox_cells hzz
   obtain ⟨z0,z1⟩:=pbox_cells f1
   have x0:wr.frozen? ⟨w.heap.size+1,0,none⟩ = false:=by simp [World.frozen?,f1]
   have x1:wr.frozen? ⟨w.heap.size+1,1,none⟩ = false:=by simp [World.frozen?,f1]
   obtain ⟨r0,r1⟩:=pbox_cells (heap_set2 f1 (.int .u64 (lo R)) (.int .u64 (hi R)))
   have hbe:=((hb1.trans (hbr.mono (by omega))).setCell (p:=⟨w.heap.size+1,0,none⟩) (by simp) (.int .u64 (lo R))).setCell (p:=⟨w.heap.size+1,1,none⟩) (by simp) (.int .u64 (hi R))
   replace hzz:=Lib.hid hzz
   replace f1:=Lib.hid f1
   replace f0:=Lib.hid f0
   replace hR:=Lib.hid hR
   replace hbe:=Lib.hid hbe
   go_wp2_with fail
   exact bodyPost_ret (v:=.agg #[.int .u64 (lo R),.int .u64 (hi R)]) (by simp [results,Tryz.results92,go_sem,r0,r1]) rfl ⟨by rw [hR.out],hbe.out⟩
end Go.Proofs.YtmnjakejhbpkoaaGreatDoor
end
section
set_option linter.unusedSimpArgs false
set_option linter.unusedVariables false
namespace Go.Proofs.YtmnjakejhbpkoaaGreatDoor
open Go Go.RowKit Go.Shelf
def FnAt (w:World) (v:Value) (l:List Int) (φ:L.Asg→Bool):Prop :=
 ∃ vl g c,v = .agg #[vl,.slice (some ⟨g,0,none⟩) (2 ^ l.length) c]∧SlI w vl l∧BoolsAt w g 4 (2 ^ l.length) (fun k=>φ (L.nth l k))
theorem FnAt.below {w w':World} {v:Value} {l:List Int} {φ:L.Asg→Bool} (h:FnAt w v l φ) (hb:Below w.heap.size w w'):FnAt w' v l φ:=by
 obtain ⟨vl,g,c,h1,h2,h3⟩:=h
 exact ⟨vl,g,c,h1,h2.ext hb,h3.same (hb.block _ h3.lt)⟩
theorem pow_le4096 {n:Nat} (h:n≤12):2 ^ n≤4096:=Nat.le_trans (Nat.pow_le_pow_right (by omega) h) (by omega:2 ^ 12≤4096)
set_option maxRecDepth 100000 in
set_option maxHeartbeats 2000000 in
theorem blank_any {l:List Int} {vl:Value} {w:World} (hv:SlI w vl l) (hl:l.length≤12) :
  Calls Tryz.prog 89 #[vl] w fun e w'=>∃ g,e = .returned (.agg #[vl,.slice (some ⟨g,0,none⟩) (2 ^ l.length) (2 ^ l.length)])∧w.heap.size≤g∧BoolsAt w' g 4 (2 ^ l.length) (fun _=>false)∧Below w.heap.size w w':=by
 have hw:=pow_wrap l.length (by omega)
 have hN:=pow_le4096 hl
 have hmk:=bool_mk (2 ^ l.length) (by omega)
 generalize hNN:2 ^ l.length = N at *
 replace hNN:=Lib.hid hNN
 obtain ⟨ba,cp,rfl,_⟩:=hv
 go_enter Tryz.func89,Tryz.ntmps89
 go_wp2_with fail
 obtain ⟨f0,f1⟩:=alloc2h w (.cells #[.slice ba l.length cp,.slice (some ⟨w.heap.size+1,0,none⟩) N N] 48) (.cells (madeCells #[.bool false] N) 4)
 have hbt:=boolsNew (w.alloc (.cells #[.slice ba l.length cp,.slice (some ⟨w.heap.size+1,0,none⟩) N N] 48)) (madeCells #[.bool false] N) 4 N (madeRep _) (w.heap.size+1) (by simp)
 have hbe:Below w.heap.size w ((w.alloc (.cells #[.slice ba l.length cp,.slice (some ⟨w.heap.size+1,0,none⟩) N N] 48)).alloc (.cells (madeCells #[.bool false] N) 4)):=(((Ext.refl w).alloc _).alloc _).below
 generalize (w.alloc (.cells #[.slice ba l.length cp,.slice (some ⟨w.heap.size+1,0,none⟩) N N] 48)).alloc (.cells (madeCells #[.bool false] N) 4) = W at *
 have r0:W.cell? ⟨w.heap.size,0,none⟩ = some (.slice ba l.length cp):=by rw [World.cell?,f0];rfl
 have r1:W.cell? ⟨w.heap.size,1,none⟩ = some (.slice (some ⟨w.heap.size+1,0,none⟩) N N):=by rw [World.cell?,f0];rfl
 exact bodyPost_ret (v:=.agg #[.slice ba l.length cp,.slice (some ⟨w.heap.size+1,0,none⟩) N N]) (by simp [results,Tryz.results89,go_sem,r0,r1]) rfl ⟨w.heap.size+1,rfl,by omega,hbt,hbe⟩
theorem wrap_small {a:Int} (h:-9223372036854775808≤a∧a≤9223372036854775807):wrap64 a = a:=by unfold wrap64;omega
theorem wrap_nat {n:Nat} (h:n≤1048576):wrap64 (n:Int) = n:=wrap_small (by omega)
theorem wrap_sub {m x:Nat} (h:x≤m) (h2:m≤1048576):wrap64 ((m:Int) - (x:Int)) = ((m - x:Nat):Int):=by rw [wrap_small (by omega)];omega
theorem wrap_add {m x:Nat} (h:x≤1048576) (h2:m≤1048576):wrap64 ((m:Int)+(x:Int)) = ((m+x:Nat):Int):=by rw [wrap_small (by omega)];omega
theorem int_shr (k i:Nat):((k:Int) / 2 ^ i) = ((k / 2 ^ i:Nat):Int):=by simp
set_option maxRecDepth 100000 in
set_option maxHeartbeats 4000000 in
theorem fnWith_any {l:List Int} {vl vo:Value} {w:World} (hv:SlI w vl l) (hn:l.Nodup) (hl:l.length≤12) {bo:Option Addr} {no co:Nat} (hvo:vo = .slice bo no co) {k:Nat} (hk:k < 2 ^ l.length) (v:Int) (b:Bool) :
  Calls Tryz.prog 103 #[.agg #[vl,vo],.int .i64 (k:Nat),.int .i64 v,.bool b] w fun e w'=>e = .returned (.int .i64 (L.withK l v b k l.length:Nat))∧Ext w w':=by
 subst hvo
 have e0:=heap_alloc_new w (.cells #[vl,.slice bo no co] 48)
 have hx1:Ext w (w.alloc (.cells #[vl,.slice bo no co] 48)):=(Ext.refl w).alloc _
 obtain ⟨w1,hw1⟩:∃ w1,w1 = w.alloc (.cells #[vl,.slice bo no co] 48):=⟨_,rfl⟩
 rw [←hw1] at e0 hx1
 have hN:=pow_le4096 hl
 have hlt4:∀ j,j≤l.length→L.withK l v b k j < 2 ^ l.length:=fun j hj=>by
  apply Nat.lt_pow_two_of_testBit
  intro i hi
  rw [L.testBit_withK hn hj,if_neg (by omega)]
  exact Nat.testBit_lt_two_pow (Nat.lt_of_lt_of_le hk (Nat.pow_le_pow_right (by omega) hi))
 obtain ⟨ba,cp,rfl,hv0⟩:=hv
 have c0:w1.cell? ⟨w.heap.size,0,none⟩ = some (.slice ba l.length cp):=by rw [World.cell?,e0];rfl
 have hcs:∀ j (hj:j < l.length),∃ b o,ba = some ⟨b,o,none⟩∧w1.cell? ⟨b,o+j,none⟩ = some (.int .i64 l[j]):=fun j hj=>by
  rcases hv0 with ⟨_,h2,_⟩ | ⟨b,o,rfl,h2⟩
  ·rw [h2] at hj;simp at hj
  ·exact ⟨b,o,rfl,hx1.cell (h2 j hj)⟩
 replace hcs:=Lib.hid hcs
 replace e0:=Lib.hid e0
 replace hlt4:=Lib.hid hlt4
 clear hv0
 go_enter Tryz.func103,Tryz.ntmps103
 go_wp2_with fail
 rw [←hw1]
 replace hw1:=Lib.hid hw1
 go_loopw [1,9] (fun kv i wr=>∃ j:Nat,j≤l.length∧i = .int .i64 j∧kv = .int .i64 (L.withK l v b k j:Nat)∧wr = w1) (fun _ i _=>l.length - (intOf i).toNat)
 case atStart=>exact ⟨0,Nat.zero_le _,rfl,rfl,rfl⟩
 case round =>
  obtain ⟨j,hj,rfl,rfl,rfl⟩:=hrel
  by_cases hlt:j < l.length
  ·obtain ⟨b2,o2,rfl,hc⟩:=hcs.out j hlt
   have dj:decide ((j:Int) < (l.length:Int)) = true:=decide_eq_true (by omega)
   have jj0:(0:Int)≤j:=by omega
   have jj1:(j:Int) < l.length:=by omega
   have hst:L.withK l v b k (j+1) = if l[j] = v then (L.withK l v b k j - (if (L.withK l v b k j).testBit j = true then 2 ^ j else 0))+(if b = true then 2 ^ j else 0) else L.withK l v b k j:=by
    show (if l.getD j 0 = v then _ else _) = _
    rw [List.getD_eq_getElem?_getD,List.getElem?_eq_getElem hlt]
    rfl
   have hlt1:=hlt4.out j hj
   generalize l[j] = u at *
   generalize L.withK l v b k j = m at *
   by_cases huv:u = v
   ·subst huv
    rw [if_pos rfl,L.clear_bit] at hst
    have hsh:=int_shr m j
    have hle:m / 2 ^ j % 2 * 2 ^ j≤m:=by
     have h1:=Nat.div_mul_le_self m (2 ^ j)
     have h2:m / 2 ^ j % 2≤m / 2 ^ j:=Nat.mod_le _ _
     exact Nat.le_trans (Nat.mul_le_mul_right _ h2) h1
    have hj12:=pow_le4096 (n:=j) (by omega)
    have hpw:=pow_wrap j (by omega)
    have hp2:m / 2 ^ j % 2 < 2:=Nat.mod_lt _ (by omega)
    generalize hD:m / 2 ^ j = d at *
    have hA:wrap64 ((d:Int) % 2 * 2 ^ j) = ((d % 2 * 2 ^ j:Nat):Int):=by
     rw [show ((d:Int) % 2 * 2 ^ j) = ((d % 2 * 2 ^ j:Nat):Int) by simp]
     exact wrap_nat (by omega)
    have hB:wrap64 ((2:Int) ^ j) = ((2 ^ j:Nat):Int):=by
     rw [show ((2:Int) ^ j) = ((2 ^ j:Nat):Int) by simp]
     exact wrap_nat (by omega)
    have hmm:m≤4096:=by omega
    have hC:((2:Int) ^ j) = ((2 ^ j:Nat):Int):=by simp
    clear hpw
    replace hD:=Lib.hid hD
    replace hst:=Lib.hid hst
    replace hA:=Lib.hid hA
    replace hB:=Lib.hid hB
    replace hC:=Lib.hid hC
    cases b
    ·go_wp2_with fail
     refine ⟨⟨j+1,by omega,by go_num,?_,by first | rfl | trivial⟩,by simp [intOf];omega⟩
     have h1:=hst.out
     simp only [Bool.false_eq_true,if_false,Nat.add_zero] at h1
     have h2:=hA.out
     congr 1
     rw [h1,h2,wrap_sub hle (by omega)]
    ·go_wp2_with fail
     refine ⟨⟨j+1,by omega,by go_num,?_,by first | rfl | trivial⟩,by simp [intOf];omega⟩
     have h1:=hst.out
     simp only [if_true] at h1
     have h2:=hA.out
     have h3:=hB.out
     congr 1
     rw [h1,h2,wrap_sub hle (by omega)]
     first
      | rw [hC.out,wrap_nat (n:=2 ^ j) (Nat.le_trans hj12 (by decide)),wrap_add (Nat.le_trans hj12 (by decide)) (Nat.le_trans (Nat.sub_le _ _) (Nat.le_trans hmm (by decide)))]
   ·rw [if_neg huv] at hst
    have duv:(u == v) = false:=by simpa using huv
    replace hst:=Lib.hid hst
    replace huv:=Lib.hid huv
    go_wp2_with fail
    exact ⟨⟨j+1,by omega,by go_num,by rw [hst.out],by first | rfl | trivial⟩,by simp [intOf];omega⟩
  ·obtain rfl:j = l.length:=by omega
   have dj:decide ((l.length:Int) < (l.length:Int)) = false:=decide_eq_false (by omega)
   generalize hM:L.withK l v b k l.length = m at *
   replace hM:=Lib.hid hM
   go_wp2_with fail
   go_ret
   exact ⟨by rw [hM.out] <;> rfl,hx1⟩
end Go.Proofs.YtmnjakejhbpkoaaGreatDoor
end
