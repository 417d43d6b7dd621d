import Derived.Test.YtmnjakejhbpkoaaGreatDoorWT27c
import Derived.Test.YtmnjakejhbpkoaaGreatDoorWLaw12
import Derived.Test.YtmnjakejhbpkoaaGreatDoorWTab2
section
set_option linter.unusedSimpArgs false
set_option linter.unusedVariables false
namespace Go.Proofs.YtmnjakejhbpkoaaGreatDoor
open Go Go.RowKit Go.Shelf
theorem bit_emod (k i:Nat):(((k:Int) / 2 ^ i) % 2 == 1) = k.testBit i:=by
 have h1:((k:Int) / 2 ^ i) = ((k / 2 ^ i:Nat):Int):=by simp
 rw [h1,Nat.testBit_eq_decide_div_mod_eq,Bool.eq_iff_iff]
 simp
 omega
theorem bit_tmod (k i:Nat):(((k:Int) / 2 ^ i).tmod 2 == 1) = k.testBit i:=by
 rw [Int.tmod_eq_emod_of_nonneg (Int.ediv_nonneg (by omega) (Int.pow_nonneg (by omega))),bit_emod]
def SetLp (l:List Int) (k:Nat) (w1:World) (z i:Nat) (wr:World):Prop :=
 Below z w1 wr∧z < wr.heap.size∧wr.heap[z]? = some (.cells #[.int .u64 (lo (L.setK l k i)),.int .u64 (hi (L.setK l k i))] 41 (0,0))
set_option maxRecDepth 100000 in
set_option maxHeartbeats 4000000 in
theorem fnSet_any {l:List Int} {vl vo:Value} {w:World} (hv:SlI w vl l) (hr:∀ v∈l,1≤v∧v≤128) (hl:l.length≤12) {bo:Option Addr} {no co:Nat} (hvo:vo = .slice bo no co) (k:Nat) (hk:k < 4096) :
  Calls Tryz.prog 92 #[.agg #[vl,vo],.int .i64 (k:Nat)] w fun e w'=>e = .returned (.agg #[.int .u64 (lo (L.setK l k l.length)),.int .u64 (hi (L.setK l k l.length))])∧Below w.heap.size w w':=by
 subst hvo
 obtain ⟨e0,e1,e2⟩:=alloc3h w (.cells #[vl,.slice bo no co] 48) (.cells #[.int .u64 0,.int .u64 0] 41) (.cells #[.int .u64 0,.int .u64 0] 41)
 have hb1:Below w.heap.size w (((w.alloc (.cells #[vl,.slice bo no co] 48)).alloc (.cells #[.int .u64 0,.int .u64 0] 41)).alloc (.cells #[.int .u64 0,.int .u64 0] 41)):=((((Ext.refl w).alloc _).alloc _).alloc _).below
 have hs1:(((w.alloc (.cells #[vl,.slice bo no co] 48)).alloc (.cells #[.int .u64 0,.int .u64 0] 41)).alloc (.cells #[.int .u64 0,.int .u64 0] 41)).heap.size = w.heap.size+3:=by simp
 obtain ⟨w1,hw1⟩:∃ w1,w1 = ((w.alloc (.cells #[vl,.slice bo no co] 48)).alloc (.cells #[.int .u64 0,.int .u64 0] 41)).alloc (.cells #[.int .u64 0,.int .u64 0] 41):=⟨_,rfl⟩
 rw [←hw1] at e0 e1 e2 hb1 hs1
 have hv1:=hv.ext hb1
 obtain ⟨ba,cp,rfl,hv0⟩:=hv1
 have hcs:∀ j (hj:j < l.length),∃ b o,ba = some ⟨b,o,none⟩∧b < w.heap.size∧w1.cell? ⟨b,o+j,none⟩ = some (.int .i64 l[j]):=fun j hj=>by
  obtain ⟨ba',cp',e,h⟩:=hv
  simp only [Value.slice.injEq] at e
  obtain ⟨rfl,_,rfl⟩:=e
  rcases h with ⟨_,h2,_⟩ | ⟨b,o,rfl,h2⟩
  ·rw [h2] at hj;simp at hj
  ·have:=h2 j hj
   exact ⟨b,o,rfl,World.block_lt_of_cell? w _ this,(hb1.cell (World.block_lt_of_cell? w _ this)).trans this⟩
 have hL0:Hid (SetLp l k w1 (w.heap.size+1+1) 0 w1):=Lib.hid ⟨Below.refl _ _,by omega,by rw [e2,L.setK];rfl⟩
 have hw:=fun s v (h:1≤v∧v≤128) W=>refWith_any s v W
 unfold encS at hw
 replace hcs:=Lib.hid hcs
 replace hs1:=Lib.hid hs1
 replace e0:=Lib.hid e0
 replace e1:=Lib.hid e1
 replace e2:=Lib.hid e2
 replace hw:=Lib.hid hw
 replace hr:=Lib.hid hr
 clear hv0 hv
 go_enter Tryz.func92,Tryz.ntmps92
 go_wp2_with fail
 rw [←hw1]
 replace hw1:=Lib.hid hw1
 go_loopw [6] (fun i wr=>∃ j:Nat,j≤l.length∧i = .int .i64 j∧Hid (SetLp l k w1 (w.heap.size+1+1) j wr)) (fun i _=>l.length - (intOf i).toNat)
 case atStart=>exact ⟨0,Nat.zero_le _,rfl,hL0⟩
 case round =>
  clear hL0
  obtain ⟨j,hj,rfl,hI⟩:=hrel
  obtain ⟨hbr,hzl,hzz⟩:=hI.out
  have f0:=(hbr.block w.heap.size (by omega)).trans e0.out
  have f1:=(hbr.block (w.heap.size+1) (by omega)).trans e1.out
  have c0:wr.cell? ⟨w.heap.size,0,none⟩ = some (.slice ba l.length cp):=by rw [World.cell?,f0];rfl
  by_cases hlt:j < l.length
  ·obtain ⟨b,o,rfl,hbl,hc⟩:=hcs.out j hlt
   have hc':wr.cell? ⟨b,o+j,none⟩ = some (.int .i64 l[j]):=(World.cell?_of_block (a:=⟨b,o+j,none⟩) (hbr.block b (by omega))).trans hc
   have dj:decide ((j:Int) < (l.length:Int)) = true:=decide_eq_true (by omega)
   have jj0:(0:Int)≤j:=by omega
   have jj1:(j:Int) < l.length:=by omega
   have hst:L.setK l k (j+1) = if k.testBit j = true then withS (L.setK l k j) l[j] else L.setK l k j:=by
    show (if k.testBit j = true then withS (L.setK l k j) (l.getD j 0) else L.setK l k j) = _
    rw [List.getD_eq_getElem?_getD,List.getElem?_eq_getElem hlt]
    rfl
   have hrj:=hr.out _ (List.getElem_mem hlt)
   have hbe:=bit_emod k j
   have hbt:=bit_tmod k j
   generalize l[j] = u at *
   generalize L.setK l k j = m at *
   generalize k.testBit j = B at *
   obtain ⟨y0,y1⟩:=pbox_cells hzz
   replace hrj:=Lib.hid hrj
   replace f1:=Lib.hid f1
   replace f0:=Lib.hid f0
   cases B
   ·simp only [Bool.false_eq_true,if_false] at hst
    have hend:Hid (SetLp l k w1 (w.heap.size+1+1) (j+1) wr):=Lib.hid ⟨hbr,hzl,by rw [hst];exact hzz⟩
    replace hst:=Lib.hid hst
    replace hzz:=Lib.hid hzz
    go_wp2_with fail
    go_roundw
    case rel=>exact ⟨j+1,by omega,by go_num,hend⟩
    case measure=>simp [intOf];omega
   ·simp only [if_true] at hst
    have q:=hw.out m u hrj.out
    rw [withR_eq _ _ hrj.out,←hst] at q
    generalize hm2:L.setK l k (j+1) = m2 at *
    replace hm2:=Lib.hid hm2
    replace q:=Lib.hid q
    replace hst:=Lib.hid hst
    replace hzz:=Lib.hid hzz
    go_wp2_with fail
    (refine wp_region_z (S:=(fun V=>Below wr.heap.size wr V∧(V.cell? ⟨w.heap.size+1+1,0,none⟩ = some (.int .u64 (lo m))∧V.cell? ⟨w.heap.size+1+1,1,none⟩ = some (.int .u64 (hi m)))∧V.cell? ⟨w.heap.size,0,none⟩ = some (.slice (some ⟨b,o,none⟩) l.length cp)∧V.cell? ⟨b,o+j,none⟩ = some (.int .i64 u))) 7 (by kernel_rfl) ?_ (fun hHeld=>?_))
    ·exact ⟨(Below.refl _ _).drew,⟨y0,y1⟩,c0,hc'⟩
    (refine wpZ_take (i:=0) (v:=?_) rfl (by kernel_rfl) (by decide) (by kernel_rfl) (by kernel_rfl) (by kernel_rfl) (fun _ _ _ h=>h) (Or.inl ⟨by rfl,?_⟩) (by assumption) ?_)
    rotate_left
    ·(intro w hSw;(try dsimp only at hSw);obtain ⟨r9,⟨r0,r1⟩,r2,r3⟩:=hSw;go_simp;first | done | with_reducible rfl)
    (try simp only [Act.put,List.setIfInBounds_toArray,List.set_cons_zero,List.set_cons_succ])
    (refine wpZ_take (i:=1) (v:=?_) rfl (by kernel_rfl) (by decide) (by kernel_rfl) (by kernel_rfl) (by kernel_rfl) (fun _ _ _ h=>h) (Or.inl ⟨by rfl,?_⟩) (by assumption) ?_)
    rotate_left
    ·(intro w hSw;(try dsimp only at hSw);obtain ⟨r9,⟨r0,r1⟩,r2,r3⟩:=hSw;go_simp;first | done | with_reducible rfl)
    (try simp only [Act.put,List.setIfInBounds_toArray,List.set_cons_zero,List.set_cons_succ])
    (refine wpZ_take (i:=2) (v:=?_) rfl (by kernel_rfl) (by decide) (by kernel_rfl) (by kernel_rfl) (by kernel_rfl) (fun _ _ _ h=>h) (Or.inl ⟨by rfl,?_⟩) (by assumption) ?_)
    rotate_left
    ·(intro w hSw;(try dsimp only at hSw);obtain ⟨r9,⟨r0,r1⟩,r2,r3⟩:=hSw;go_simp;first | done | with_reducible rfl)
    (try simp only [Act.put,List.setIfInBounds_toArray,List.set_cons_zero,List.set_cons_succ])
    (refine wpZ_take (i:=3) (v:=?_) rfl (by kernel_rfl) (by decide) (by kernel_rfl) (by kernel_rfl) (by kernel_rfl) (fun _ _ _ h=>h) (Or.inl ⟨by rfl,?_⟩) (by assumption) ?_)
    rotate_left
    ·(intro w hSw;(try dsimp only at hSw);obtain ⟨r9,⟨r0,r1⟩,r2,r3⟩:=hSw;go_simp;first | done | with_reducible rfl)
    (try simp only [Act.put,List.setIfInBounds_toArray,List.set_cons_zero,List.set_cons_succ])
    (refine wpZ_take (i:=4) (v:=?_) rfl (by kernel_rfl) (by decide) (by kernel_rfl) (by kernel_rfl) (by kernel_rfl) (fun _ _ _ h=>h) (Or.inl ⟨by rfl,?_⟩) (by assumption) ?_)
    rotate_left
    ·(intro w hSw;(try dsimp only at hSw);obtain ⟨r9,⟨r0,r1⟩,r2,r3⟩:=hSw;go_simp;first | done | with_reducible rfl)
    (try simp only [Act.put,List.setIfInBounds_toArray,List.set_cons_zero,List.set_cons_succ])
    (refine wpZ_take (i:=5) (v:=?_) rfl (by kernel_rfl) (by decide) (by kernel_rfl) (by kernel_rfl) (by kernel_rfl) (fun _ _ _ h=>h) (Or.inl ⟨by rfl,?_⟩) (by assumption) ?_)
    rotate_left
    ·(intro w hSw;(try dsimp only at hSw);obtain ⟨r9,⟨r0,r1⟩,r2,r3⟩:=hSw;go_simp;first | done | with_reducible rfl)
    (try simp only [Act.put,List.setIfInBounds_toArray,List.set_cons_zero,List.set_cons_succ])
    (refine wpZ_one (i:=6) (by kernel_rfl) rfl (fun K hK=>?_))
    ((rw [if_pos (by rfl)]);go_simp;(go_at_call 160);refine (q.out _).mono ?_;rintro e w3 ⟨rfl,hb3⟩;refine hK.out _ _ ⟨hHeld.1.trans (hb3.mono hHeld.1.size),⟨(hb3.cell (World.block_lt_of_cell? _ _ hHeld.2.1.1)).trans hHeld.2.1.1,(hb3.cell (World.block_lt_of_cell? _ _ hHeld.2.1.2)).trans hHeld.2.1.2⟩,(hb3.cell (World.block_lt_of_cell? _ _ hHeld.2.2.1)).trans hHeld.2.2.1,(hb3.cell (World.block_lt_of_cell? _ _ hHeld.2.2.2)).trans hHeld.2.2.2⟩ (fun hHeld=>?_))
    (clear hK K)
    (try simp only [Act.put,List.setIfInBounds_toArray,List.set_cons_zero,List.set_cons_succ])
    have hzz3:=(hHeld.1.block _ hzl).trans hzz.out
    have z0:w3.frozen? ⟨w.heap.size+1+1,0,none⟩ = false:=by simp [World.frozen?,hzz3]
    have z1:w3.frozen? ⟨w.heap.size+1+1,1,none⟩ = false:=by simp [World.frozen?,hzz3]
    have z2:=hHeld.2.1.1
    have z3:=hHeld.2.1.2
    have hend:Hid (SetLp l k w1 (w.heap.size+1+1) (j+1) ((w3.setCell ⟨w.heap.size+1+1,0,none⟩ (.int .u64 (lo m2))).setCell ⟨w.heap.size+1+1,1,none⟩ (.int .u64 (hi m2)))):=Lib.hid ⟨((hbr.trans (hHeld.1.mono (by omega))).setCell (Nat.le_refl _) _).setCell (Nat.le_refl _) _,by simp [World.setCell];have:=hHeld.1.size;omega,by rw [hm2.out];exact heap_set2 hzz3 _ _⟩
    replace hzz3:=Lib.hid hzz3
    clear hHeld
    (refine wpZ_last (by kernel_rfl) rfl (by kernel_rfl) (fun K hK=>?_))
    ((rw [if_pos (by rfl)]);go_simp;refine hK.out _ _ ?_)
    (clear hK K)
    (try simp only [Act.put,List.setIfInBounds_toArray,List.set_cons_zero,List.set_cons_succ])
    go_wp2_with fail
    go_roundw
    case rel=>exact ⟨j+1,by omega,by go_num,hend⟩
    case measure=>simp [intOf];omega
  ·obtain rfl:j = l.length:=by omega
   have dj:decide ((l.length:Int) < (l.length:Int)) = false:=decide_eq_false (by omega)
   generalize hR:L.setK l k l.length = R at *
   obtain ⟨y0,y1⟩:=pbox_cells hzz
   obtain ⟨z0,z1⟩:=pbox_cells f1
   have x0:wr.frozen? ⟨w.heap.size+1,0,none⟩ = false:=by simp [World.frozen?,f1]
   have x1:wr.frozen? ⟨w.heap.size+1,1,none⟩ = false:=by simp [World.frozen?,f1]
   obtain ⟨r0,r1⟩:=pbox_cells (heap_set2 f1 (.int .u64 (lo R)) (.int .u64 (hi R)))
   have hbe:=((hb1.trans (hbr.mono (by omega))).setCell (p:=⟨w.heap.size+1,0,none⟩) (by simp) (.int .u64 (lo R))).setCell (p:=⟨w.heap.size+1,1,none⟩) (by simp) (.int .u64 (hi R))
   replace hzz:=Lib.hid hzz
   replace f1:=Lib.hid f1
   replace f0:=Lib.hid f0
   replace hR:=Lib.hid hR
   replace hbe:=Lib.hid hbe
   go_wp2_with fail
   exact bodyPost_ret (v:=.agg #[.int .u64 (lo R),.int .u64 (hi R)]) (by simp [results,Tryz.results92,go_sem,r0,r1]) rfl ⟨by rw [hR.out],hbe.out⟩
end Go.Proofs.YtmnjakejhbpkoaaGreatDoor
end
section
set_option linter.unusedSimpArgs false
set_option linter.unusedVariables false
namespace Go.Proofs.YtmnjakejhbpkoaaGreatDoor
open Go Go.RowKit Go.Shelf
def FnAt (w:World) (v:Value) (l:List Int) (φ:L.Asg→Bool):Prop :=
 ∃ vl g c,v = .agg #[vl,.slice (some ⟨g,0,none⟩) (2 ^ l.length) c]∧SlI w vl l∧BoolsAt w g 4 (2 ^ l.length) (fun k=>φ (L.nth l k))
theorem FnAt.below {w w':World} {v:Value} {l:List Int} {φ:L.Asg→Bool} (h:FnAt w v l φ) (hb:Below w.heap.size w w'):FnAt w' v l φ:=by
 obtain ⟨vl,g,c,h1,h2,h3⟩:=h
 exact ⟨vl,g,c,h1,h2.ext hb,h3.same (hb.block _ h3.lt)⟩
theorem pow_le4096 {n:Nat} (h:n≤12):2 ^ n≤4096:=Nat.le_trans (Nat.pow_le_pow_right (by omega) h) (by omega:2 ^ 12≤4096)
set_option maxRecDepth 100000 in
set_option maxHeartbeats 2000000 in
theorem blank_any {l:List Int} {vl:Value} {w:World} (hv:SlI w vl l) (hl:l.length≤12) :
  Calls Tryz.prog 89 #[vl] w fun e w'=>∃ g,e = .returned (.agg #[vl,.slice (some ⟨g,0,none⟩) (2 ^ l.length) (2 ^ l.length)])∧w.heap.size≤g∧BoolsAt w' g 4 (2 ^ l.length) (fun _=>false)∧Below w.heap.size w w':=by
 have hw:=pow_wrap l.length (by omega)
 have hN:=pow_le4096 hl
 have hmk:=bool_mk (2 ^ l.length) (by omega)
 generalize hNN:2 ^ l.length = N at *
 replace hNN:=Lib.hid hNN
 obtain ⟨ba,cp,rfl,_⟩:=hv
 go_enter Tryz.func89,Tryz.ntmps89
 go_wp2_with fail
 obtain ⟨f0,f1⟩:=alloc2h w (.cells #[.slice ba l.length cp,.slice (some ⟨w.heap.size+1,0,none⟩) N N] 48) (.cells (madeCells #[.bool false] N) 4)
 have hbt:=boolsNew (w.alloc (.cells #[.slice ba l.length cp,.slice (some ⟨w.heap.size+1,0,none⟩) N N] 48)) (madeCells #[.bool false] N) 4 N (madeRep _) (w.heap.size+1) (by simp)
 have hbe:Below w.heap.size w ((w.alloc (.cells #[.slice ba l.length cp,.slice (some ⟨w.heap.size+1,0,none⟩) N N] 48)).alloc (.cells (madeCells #[.bool false] N) 4)):=(((Ext.refl w).alloc _).alloc _).below
 generalize (w.alloc (.cells #[.slice ba l.length cp,.slice (some ⟨w.heap.size+1,0,none⟩) N N] 48)).alloc (.cells (madeCells #[.bool false] N) 4) = W at *
 have r0:W.cell? ⟨w.heap.size,0,none⟩ = some (.slice ba l.length cp):=by rw [World.cell?,f0];rfl
 have r1:W.cell? ⟨w.heap.size,1,none⟩ = some (.slice (some ⟨w.heap.size+1,0,none⟩) N N):=by rw [World.cell?,f0];rfl
 exact bodyPost_ret (v:=.agg #[.slice ba l.length cp,.slice (some ⟨w.heap.size+1,0,none⟩) N N]) (by simp [results,Tryz.results89,go_sem,r0,r1]) rfl ⟨w.heap.size+1,rfl,by omega,hbt,hbe⟩
end Go.Proofs.YtmnjakejhbpkoaaGreatDoor
end
section
set_option linter.unusedSimpArgs false
set_option linter.unusedVariables false
namespace Go.Proofs.YtmnjakejhbpkoaaGreatDoor
open Go Go.RowKit Go.Shelf
def FillF (z:Nat) (w1:World) (g fb N:Nat) (vl:Value) (h:Nat→Bool) (k:Nat) (wr:World):Prop :=
 Below z w1 wr∧(z≤g∧z≤fb∧g≠fb)∧wr.heap[fb]? = some (.cells #[vl,.slice (some ⟨g,0,none⟩) N N] 48 (0,0))∧BoolsAt wr g 4 N (fun j=>decide (j < k) && h j)
section
variable {z:Nat} {w1 wr w':World} {g fb N k:Nat} {vl:Value} {h:Nat→Bool}
theorem FillF.next (hf:FillF z w1 g fb N vl h k wr) (hb:Below wr.heap.size wr w') (hz:z≤wr.heap.size):FillF z w1 g fb N vl h k w' :=
 ⟨hf.1.trans (hb.mono hz),hf.2.1,(hb.block _ (Array.getElem?_eq_some_iff.1 hf.2.2.1).1).trans hf.2.2.1,hf.2.2.2.same (hb.block _ hf.2.2.2.lt)⟩
theorem FillF.put (hf:FillF z w1 g fb N vl h k wr) {b:Bool} (hb:b = h k):FillF z w1 g fb N vl h (k+1) (wr.setCell ⟨g,k,none⟩ (.bool b)):=by
 refine ⟨hf.1.setCell hf.2.1.1 _,hf.2.1,(Below.heap_setCell _ _ _ _ (fun e=>hf.2.1.2.2 e.symm)).trans hf.2.2.1,(hf.2.2.2.put k b).congr fun j _=>?_⟩
 by_cases e:j = k
 ·subst e;rw [if_pos rfl,hb];simp
 ·rw [if_neg e]
  congr 1
  exact decide_eq_decide.2 (by omega)
theorem FillF.cells (hf:FillF z w1 g fb N vl h k wr):wr.cell? ⟨fb,0,none⟩ = some vl∧wr.cell? ⟨fb,1,none⟩ = some (.slice (some ⟨g,0,none⟩) N N):=by
 constructor
 ·rw [World.cell?,hf.2.2.1];rfl
 ·rw [World.cell?,hf.2.2.1];rfl
theorem FillF.size (hf:FillF z w1 g fb N vl h k wr):z≤wr.heap.size:=by
 have:=hf.2.2.2.lt
 have:=hf.2.1.1
 omega
theorem FillF.done (hf:FillF z w1 g fb N vl h N wr):BoolsAt wr g 4 N h:=hf.2.2.2.congr fun j hj=>by rw [decide_eq_true hj,Bool.true_and]
theorem FillF.first (hb:Below z w1 wr) (hg:z≤g) (hbt:BoolsAt wr g 4 N (fun _=>false)) (hz:z≤wr.heap.size):FillF z w1 g wr.heap.size N vl h 0 (wr.alloc (.cells #[vl,.slice (some ⟨g,0,none⟩) N N] 48)) :=
 ⟨hb.alloc hz _,⟨hg,hz,Nat.ne_of_lt hbt.lt⟩,heap_alloc_new _ _,(hbt.same (Below.heap_alloc _ _ _ hbt.lt)).congr fun j _=>by simp⟩
end
theorem box2_set {w:World} {b:Nat} {v0 v1:Value} {t:TypeId} (h:w.heap[b]? = some (.cells #[v0,v1] t)) (x0 x1:Value) :
  ((w.setCell ⟨b,0,none⟩ x0).setCell ⟨b,1,none⟩ x1).cell? ⟨b,0,none⟩ = some x0∧((w.setCell ⟨b,0,none⟩ x0).setCell ⟨b,1,none⟩ x1).cell? ⟨b,1,none⟩ = some x1:=by
 have h2:=heap_set (heap_set h 0 x0) 1 x1
 constructor
 ·rw [World.cell?,h2];rfl
 ·rw [World.cell?,h2];rfl
theorem cut_keep {T:List (List Int)} {n:Nat} (hok:L.thChk n T = 0) (a:VSet):L.thφ T (L.asg (a &&& allK n)) = L.thφ T (L.asg a):=by
 obtain ⟨⟨hn0,hn1⟩,_,hall⟩:=L.thChk_ok.1 hok
 refine L.thφ_dep fun c hc l hl=>?_
 have hr:=L.validB_range hn1 ((hall c hc).2 l hl)
 show hasS (a &&& allK n) _ = hasS a _
 rw [hasS_and,(hasS_allK _ n (by omega)).2 ⟨hr.1,hr.2.1⟩,Bool.and_true]
set_option maxRecDepth 100000 in
set_option maxHeartbeats 8000000 in
theorem fnTheory_any {n:Nat} {T:List (List Int)} {u vl:Value} {l:List Int} {w:World} (hv:SlT w u T) (hok:L.thChk n T = 0) (hvl:SlI w vl l) (hnd:l.Nodup) (hr:∀ v∈l,1≤v∧v≤128) (hl:l.length≤12) :
  Calls Tryz.prog 26 #[.agg #[.int .i64 (n:Nat),u],vl] w fun e w'=>∃ v,e = .returned v∧FnAt w' v l (L.thφ T)∧(∃ o,v = .agg #[vl,o])∧Below w.heap.size w w':=by
 obtain ⟨⟨hn0,hn1⟩,_,_⟩:=L.thChk_ok.1 hok
 obtain ⟨e0,e1⟩:=alloc2h w (.cells #[.int .i64 (n:Nat),u] 24) (.cells #[.slice none 0 0,.slice none 0 0] 48)
 have hx1:Ext w ((w.alloc (.cells #[.int .i64 (n:Nat),u] 24)).alloc (.cells #[.slice none 0 0,.slice none 0 0] 48)):=((Ext.refl w).alloc _).alloc _
 have hs1:((w.alloc (.cells #[.int .i64 (n:Nat),u] 24)).alloc (.cells #[.slice none 0 0,.slice none 0 0] 48)).heap.size = w.heap.size+2:=by simp
 obtain ⟨w1,hw1⟩:∃ w1,w1 = (w.alloc (.cells #[.int .i64 (n:Nat),u] 24)).alloc (.cells #[.slice none 0 0,.slice none 0 0] 48):=⟨_,rfl⟩
 rw [←hw1] at e0 e1 hx1 hs1
 have hN:=pow_le4096 hl
 have qb:=blank_any (hvl.ext hx1.below) hl
 have qs:=fun k (hk:k < 4096) (go no co:Nat) (W:World) (h:Below w1.heap.size w1 W)=>fnSet_any (vo:=.slice (some ⟨go,0,none⟩) no co) ((hvl.ext hx1.below).ext h) hr hl rfl k hk
 have qa:=fun W=>refAll_any n (by omega) W
 have qc:=fun k W=>refCut_any (L.setK l k l.length) (allK n) W
 have qe:=fun k (W:World) (h:Below w1.heap.size w1 W)=>refEval5_any (n:=n) ((hv.ext hx1.below).ext h) hok (L.setK l k l.length &&& allK n) (fun v h=>by
  rw [hasS_and,Bool.and_eq_true] at h
  exact ((hasS_allK v n (by omega)).1 h.2).2)
 have hval:∀ k,L.thφ T (L.asg (L.setK l k l.length &&& allK n)) = L.thφ T (L.nth l k):=fun k=>by
  rw [cut_keep hok,L.asg_setK hnd hr]
 simp only [hval] at qe
 have hfin:∀ (W:World) (g c:Nat),Below w.heap.size w W→BoolsAt W g 4 (2 ^ l.length) (fun k=>L.thφ T (L.nth l k))→FnAt W (.agg #[vl,.slice (some ⟨g,0,none⟩) (2 ^ l.length) c]) l (L.thφ T):=fun W g c h hb=>⟨vl,g,c,rfl,hvl.ext h,hb⟩
 generalize hNN:2 ^ l.length = N at *
 obtain ⟨bb,cc,rfl,_⟩:=hv
 have hvc:∃ ba cp,vl = .slice ba l.length cp:=by obtain ⟨ba,cp,h,_⟩:=hvl;exact ⟨ba,cp,h⟩
 clear hvl hnd hr hok
 obtain ⟨ba,cp,rfl⟩:=hvc
 obtain ⟨f,hh⟩:∃ f:Nat→Bool,∀ k,L.thφ T (L.nth l k) = f k:=⟨_,fun _=>rfl⟩
 simp only [hh] at qe hfin
 replace hh:=Lib.hid hh
 replace hs1:=Lib.hid hs1
 replace hNN:=Lib.hid hNN
 replace hfin:=Lib.hid hfin
 replace qs:=Lib.hid qs
 replace qa:=Lib.hid qa
 replace qc:=Lib.hid qc
 replace qe:=Lib.hid qe
 replace e0:=Lib.hid e0
 replace e1:=Lib.hid e1
 clear hval
 have hS:∀ (g fb k:Nat) V,FillF w1.heap.size w1 g fb N (.slice ba l.length cp) f k V→(V.cell? ⟨fb,0,none⟩ = some (.slice ba l.length cp)∧V.cell? ⟨fb,1,none⟩ = some (.slice (some ⟨g,0,none⟩) N N))∧V.cell? ⟨w.heap.size,0,none⟩ = some (.int .i64 (n:Nat))∧V.cell? ⟨w.heap.size,1,none⟩ = some (.slice bb T.length cc):=fun g fb k V h=>by
  have f0:=(h.1.block w.heap.size (by rw [hs1.out];omega)).trans e0.out
  exact ⟨h.cells,by rw [World.cell?,f0];rfl,by rw [World.cell?,f0];rfl⟩
 replace hS:=Lib.hid hS
 go_enter Tryz.func26,Tryz.ntmps26
 go_wp2_with fail
 rw [←hw1]
 replace hw1:=Lib.hid hw1
 go_wp2_with fail
 refine qb.mono ?_
 rintro e w2 ⟨g,rfl,hg,hbt,hb2⟩
 clear qb
 have hf0:=Lib.hid (FillF.first (vl:=.slice ba l.length cp) (h:=f) hb2 hg hbt hb2.size)
 go_wp2_with fail
 go_loopw [6] (fun i wr=>∃ k:Nat,k≤N∧i = .int .i64 (k:Int)∧Hid (FillF w1.heap.size w1 g w2.heap.size N (.slice ba l.length cp) f k wr)) (fun i _=>N - (intOf i).toNat)
 case atStart=>exact ⟨0,by omega,rfl,hf0⟩
 case round =>
  clear hf0 hbt hb2
  obtain ⟨k,hk,rfl,hI⟩:=hrel
  have hbr:=hI.out.1
  obtain ⟨k0,k1⟩:=hI.out.cells
  have f0:=(hbr.block _ (by rw [hs1.out];omega)).trans e0.out
  have f1:=(hbr.block _ (by rw [hs1.out];omega)).trans e1.out
  have r0:wr.cell? ⟨w.heap.size,0,none⟩ = some (.int .i64 (n:Nat)):=by rw [World.cell?,f0];rfl
  have r1:wr.cell? ⟨w.heap.size,1,none⟩ = some (.slice bb T.length cc):=by rw [World.cell?,f0];rfl
  have x0:wr.cell? ⟨w.heap.size+1,0,none⟩ = some (.slice none 0 0):=by rw [World.cell?,f1];rfl
  have x1:wr.cell? ⟨w.heap.size+1,1,none⟩ = some (.slice none 0 0):=by rw [World.cell?,f1];rfl
  have z0:wr.frozen? ⟨w.heap.size+1,0,none⟩ = false:=by simp [World.frozen?,f1]
  have z1:wr.frozen? ⟨w.heap.size+1,1,none⟩ = false:=by simp [World.frozen?,f1]
  by_cases hlt:k < N
  ·have d0:decide ((k:Int) < (N:Int)) = true:=decide_eq_true (by omega)
   have g0:(0:Int)≤(k:Int):=by omega
   have g1:(k:Int) < (N:Int):=by omega
   have hfd:=Lib.hid (hI.out.next (Below.refl _ _).drew hI.out.size)
   clear f0 f1 r0 r1 x0 x1 z0 z1
   go_wp2_with fail
   (refine wp_region_held_drew (S:=(fun V=>(V.cell? ⟨w2.heap.size,0,none⟩ = some (.slice ba l.length cp)∧V.cell? ⟨w2.heap.size,1,none⟩ = some (.slice (some ⟨g,0,none⟩) N N))∧V.cell? ⟨w.heap.size,0,none⟩ = some (.int .i64 (n:Nat))∧V.cell? ⟨w.heap.size,1,none⟩ = some (.slice bb T.length cc))) (by kernel_rfl) ?_ (fun hHeld=>?_))
   ·exact hS.out _ _ _ _ hfd.out
   (refine takeL (i:=0) (v:=?_) rfl (by kernel_rfl) (by kernel_rfl) (by kernel_rfl) (fun _ _ _ h=>h) (Or.inl ⟨by rfl,?_⟩) (by assumption) ?_)
   rotate_left
   ·(intro w hSw;(try dsimp only at hSw);go_simp;first | done | with_reducible rfl)
   (try simp only [Act.put,List.setIfInBounds_toArray,List.set_cons_zero,List.set_cons_succ])
   (refine takeL (i:=1) (v:=?_) rfl (by kernel_rfl) (by kernel_rfl) (by kernel_rfl) (fun _ _ _ h=>h) (Or.inl ⟨by rfl,?_⟩) (by assumption) ?_)
   rotate_left
   ·(intro w hSw;(try dsimp only at hSw);go_simp;first | done | with_reducible rfl)
   (try simp only [Act.put,List.setIfInBounds_toArray,List.set_cons_zero,List.set_cons_succ])
   (refine takeL (i:=2) (v:=?_) rfl (by kernel_rfl) (by kernel_rfl) (by kernel_rfl) (fun _ _ _ h=>h) (Or.inl ⟨by rfl,?_⟩) (by assumption) ?_)
   rotate_left
   ·(intro w hSw;(try dsimp only at hSw);go_simp;first | done | with_reducible rfl)
   (try simp only [Act.put,List.setIfInBounds_toArray,List.set_cons_zero,List.set_cons_succ])
   (refine takeL (i:=3) (v:=?_) rfl (by kernel_rfl) (by kernel_rfl) (by kernel_rfl) (fun _ _ _ h=>h) (Or.inl ⟨by rfl,?_⟩) (by assumption) ?_)
   rotate_left
   ·(intro w hSw;(try dsimp only at hSw);go_simp;first | done | with_reducible rfl)
   (try simp only [Act.put,List.setIfInBounds_toArray,List.set_cons_zero,List.set_cons_succ])
   (refine takeL (i:=4) (v:=?_) rfl (by kernel_rfl) (by kernel_rfl) (by kernel_rfl) (fun _ _ _ h=>h) (Or.inl ⟨by rfl,?_⟩) (by assumption) ?_)
   rotate_left
   ·(intro w hSw;(try dsimp only at hSw);go_simp;first | done | with_reducible rfl)
   (try simp only [Act.put,List.setIfInBounds_toArray,List.set_cons_zero,List.set_cons_succ])
   (refine takeL (i:=5) (v:=?_) rfl (by kernel_rfl) (by kernel_rfl) (by kernel_rfl) (fun _ _ _ h=>h) (Or.inl ⟨by rfl,?_⟩) (by assumption) ?_)
   rotate_left
   ·(intro w hSw;(try dsimp only at hSw);go_simp;first | done | with_reducible rfl)
   (try simp only [Act.put,List.setIfInBounds_toArray,List.set_cons_zero,List.set_cons_succ])
   (refine takeL (i:=7) (v:=?_) rfl (by kernel_rfl) (by kernel_rfl) (by kernel_rfl) (fun _ _ _ h=>h) (Or.inl ⟨by rfl,?_⟩) (by assumption) ?_)
   rotate_left
   ·(intro w hSw;(try dsimp only at hSw);go_simp;first | done | with_reducible rfl)
   (try simp only [Act.put,List.setIfInBounds_toArray,List.set_cons_zero,List.set_cons_succ])
   (refine takeL (i:=8) (v:=?_) rfl (by kernel_rfl) (by kernel_rfl) (by kernel_rfl) (fun _ _ _ h=>h) (Or.inl ⟨by rfl,?_⟩) (by assumption) ?_)
   rotate_left
   ·(intro w hSw;(try dsimp only at hSw);go_simp;first | done | with_reducible rfl)
   (try simp only [Act.put,List.setIfInBounds_toArray,List.set_cons_zero,List.set_cons_succ])
   (refine wpAnyH_ready (rs:=[6]) (by kernel_rfl) (by simp) ?_)
   (refine consL rfl (fun K hK=>?_))
   ((rw [if_pos (by rfl)]);go_simp;refine (qs.out k (by omega) g N N _ hfd.out.1).mono ?_;rintro e w3 ⟨rfl,hb3⟩;have hf3:=Lib.hid (hfd.out.next hb3 hfd.out.size);refine hK.out _ _ (hS.out _ _ _ _ hf3.out) (fun hHeld=>?_);clear hb3)
   (clear hK K)
   (try simp only [Act.put,List.setIfInBounds_toArray,List.set_cons_zero,List.set_cons_succ])
   (refine wpAnyH_ready (rs:=[9]) (by kernel_rfl) (by simp) ?_)
   (refine consL rfl (fun K hK=>?_))
   ((rw [if_pos (by rfl)]);go_simp;refine (qa.out _).mono ?_;rintro e w4 ⟨rfl,hb4⟩;have hf4:=Lib.hid (hf3.out.next hb4 hf3.out.size);refine hK.out _ _ (hS.out _ _ _ _ hf4.out) (fun hHeld=>?_);clear hb4)
   (clear hK K)
   (try simp only [Act.put,List.setIfInBounds_toArray,List.set_cons_zero,List.set_cons_succ])
   (refine wpAnyH_ready (rs:=[10]) (by kernel_rfl) (by simp) ?_)
   (refine consL rfl (fun K hK=>?_))
   ((rw [if_pos (by rfl)]);go_simp;refine (qc.out k _).mono ?_;rintro e w5 ⟨rfl,hb5⟩;have hf5:=Lib.hid (hf4.out.next hb5 hf4.out.size);refine hK.out _ _ (hS.out _ _ _ _ hf5.out) (fun hHeld=>?_);clear hb5)
   (clear hK K)
   (try simp only [Act.put,List.setIfInBounds_toArray,List.set_cons_zero,List.set_cons_succ])
   (refine wpAnyH_ready (rs:=[11]) (by kernel_rfl) (by simp) ?_)
   (refine consL rfl (fun K hK=>?_))
   ((rw [if_pos (by rfl)]);go_simp;refine (qe.out k _ hf5.out.1).mono ?_;rintro e w6 ⟨rfl,hb6⟩;have hf6:=Lib.hid (hf5.out.next hb6.below hf5.out.size);refine hK.out _ _ (hS.out _ _ _ _ hf6.out) (fun hHeld=>?_);clear hb6)
   (clear hK K)
   (try simp only [Act.put,List.setIfInBounds_toArray,List.set_cons_zero,List.set_cons_succ])
   obtain ⟨s1,s2⟩:=hf6.out.2.2.2.cell (j:=k) hlt
   (refine takeL (i:=12) (v:=?_) rfl (by kernel_rfl) (by kernel_rfl) (by kernel_rfl) (fun _ _ _ h=>h) (Or.inl ⟨by rfl,?_⟩) (by assumption) ?_)
   rotate_left
   ·(intro w hSw;(try dsimp only at hSw);go_simp;first | done | with_reducible rfl)
   (try simp only [Act.put,List.setIfInBounds_toArray,List.set_cons_zero,List.set_cons_succ])
   have hf7:=Lib.hid (hf6.out.put (b:=f k) rfl)
   (refine wpAnyH_ready (rs:=[13]) (by kernel_rfl) (by simp) ?_)
   (refine consL rfl (fun K hK=>?_))
   ((rw [if_pos (by rfl)]);go_simp;refine hK.out _ _ (hS.out _ _ _ _ hf7.out) (fun hHeld=>?_))
   (clear hK K)
   (try simp only [Act.put,List.setIfInBounds_toArray,List.set_cons_zero,List.set_cons_succ])
   (refine wpAnyH_done (by kernel_rfl) ?_ _)
   clear hHeld
   go_wp2_with fail
   go_roundw
   case rel=>exact ⟨k+1,by omega,by go_num,hf7⟩
   case measure=>simp [intOf];omega
  ·obtain rfl:k = N:=by omega
   have d0:decide ((k:Int) < (k:Int)) = false:=decide_eq_false (by omega)
   replace f0:=Lib.hid f0
   replace f1:=Lib.hid f1
   go_wp2_with fail
   have hbe:Below w.heap.size w ((wr.setCell ⟨w.heap.size+1,0,none⟩ (.slice ba l.length cp)).setCell ⟨w.heap.size+1,1,none⟩ (.slice (some ⟨g,0,none⟩) k k)):=((hx1.below.trans (hbr.mono hx1.size)).setCell (Nat.le_succ _) _).setCell (Nat.le_succ _) _
   have hbb:BoolsAt ((wr.setCell ⟨w.heap.size+1,0,none⟩ (.slice ba l.length cp)).setCell ⟨w.heap.size+1,1,none⟩ (.slice (some ⟨g,0,none⟩) k k)) g 4 k f:=by
    have hge:g≠w.heap.size+1:=by have:=hI.out.2.1.1;have:=hs1.out;omega
    exact (hI.out.done.same (Below.heap_setCell _ _ _ _ hge)).same (Below.heap_setCell _ _ _ _ hge)
   obtain ⟨y0,y1⟩:=box2_set f1.out (.slice ba l.length cp) (.slice (some ⟨g,0,none⟩) k k)
   generalize (wr.setCell ⟨w.heap.size+1,0,none⟩ (.slice ba l.length cp)).setCell ⟨w.heap.size+1,1,none⟩ (.slice (some ⟨g,0,none⟩) k k) = W at *
   exact bodyPost_ret (v:=.agg #[.slice ba l.length cp,.slice (some ⟨g,0,none⟩) k k]) (by simp [results,Tryz.results26,go_sem,y0,y1]) rfl ⟨_,rfl,hfin.out _ _ _ hbe hbb,⟨_,rfl⟩,hbe⟩
end Go.Proofs.YtmnjakejhbpkoaaGreatDoor
end
