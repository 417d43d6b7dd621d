import Derived.Test.YtemnmcfmabamcaaGreatDoorXVs6
import Derived.Test.YtemnmcfmabamcaaGreatDoorXReg
import Derived.Test.YtemnmcfmabamcaaGreatDoorXVb
set_option linter.unusedSimpArgs false
set_option linter.unusedVariables false
namespace Go.Proofs.YtemnmcfmabamcaaGreatDoor
open Go Go.RowKit Go.Shelf
theorem StOn.turn {t:List VN} {φ:L.Asg→Bool} {sb r:Nat} {w w':World} (h:StOn t φ sb r w) {blk:Nat} {c0:Array Value} {ty:TypeId} {f0:Nat × Nat} (hk:w.heap[blk]? = some (.cells c0 ty f0)) (h1:ty≠tPair) (h2:ty≠tNode) (h3:ty≠tStore) (h4:ty≠78) (hg:gPow < blk∧gTz < blk)
  (hs:∀ (k:Nat) (o:Obj),k≠blk→w.heap[k]? = some o→w'.heap[k]? = some o):StOn t φ sb r w':=by
 obtain ⟨B,k,s,rfl,hS,hv⟩:=h.st
 obtain ⟨B',hB,hR,hS',_⟩:=hS.here
 have hR':=hR.grownT hk h1 h2 h3 h4 ⟨by omega,by omega⟩ hs
 exact ⟨⟨B',k,s,hB,⟨⟨B',hR',Stp.refl _ _ _⟩,hS.room,hS.tree⟩,hv⟩⟩
theorem StOn.row {t:List VN} {φ:L.Asg→Bool} {sb r:Nat} {w w':World} (h:StOn t φ sb r w) {N sz n:Nat} {ty:TypeId} {v:Value} {xs:List Value} (ho:w.ownsRow N ty sz v n xs) (hg:w.grownBy w' v.ownBlock) (h1:ty≠tPair) (h2:ty≠tNode) (h3:ty≠tStore) (h4:ty≠78) (hN:gPow < N∧gTz < N):StOn t φ sb r w':=by
 cases hv:v.ownBlock with
 | none =>
   rw [hv] at hg
   exact h.below ⟨hg.os,hg.tape,hg.output,hg.size,fun k hk=>hg.block k hk (fun e=>by cases e)⟩
 | some g =>
   obtain ⟨_,c,hc⟩:=own_lt ho hv
   have hge:=own_ge ho hv
   rw [hv] at hg
   refine h.turn hc h1 h2 h3 h4 ⟨by omega,by omega⟩ fun k o hne hk=>?_
   rw [hg.block k (Array.getElem?_eq_some_iff.1 hk).1 (fun e=>hne (Option.some.inj e))];exact hk
abbrev stC (sb r sz:Nat):Array Value:=#[.pointer (some ⟨sb,0,none⟩),.int .i64 (r:Nat),.int .i64 (sz:Nat)]
def bestN (l:List Int) (f:List Bool) (T:L.Tr) (i:Nat):Nat→L.Tr × Nat × Nat
 | 0=>(T,L.sizeTr T l f,0)
 | k+1=>L.bestK l f T i (k+1) (bestN l f T i k)
theorem bestN_three (l:List Int) (f:List Bool) (T:L.Tr) (i:Nat):bestN l f T i 3 = L.bestT l f T i:=rfl
structure BeI (wa:World) (T:L.Tr) (φ:L.Asg→Bool) (l:List Int) (sb r i x k:Nat) (sb' r':Nat) (w:World):Prop where
 bel:Below wa.heap.size wa w
 bst:StAt (bestN l (L.tabO l φ) T i k).1 φ sb' r' w
 ok:TrOK (bestN l (L.tabO l φ) T i k).1 l
 b0:w.heap[x]? = some (.cells (stC sb r (L.sizeTr T l (L.tabO l φ))) 90 (0,0))
 b1:w.heap[x+1]? = some (.cells #[.pointer none,.int .i64 0,.int .i64 0] 90 (0,0))
 b2:w.heap[x+1+1]? = some (.cells (stC sb' r' (bestN l (L.tabO l φ) T i k).2.1) 90 (0,0))
section
variable {wa w w':World} {T:L.Tr} {φ:L.Asg→Bool} {l:List Int} {sb r i x k sb' r':Nat}
theorem BeI.below (h:BeI wa T φ l sb r i x k sb' r' w) (hb:Below w.heap.size w w'):BeI wa T φ l sb r i x k sb' r' w':=by
 have hs:∀ (g:Nat) (o:Obj),w.heap[g]? = some o→w'.heap[g]? = some o:=fun g o hg=>(hb.block g (Array.getElem?_eq_some_iff.1 hg).1).trans hg
 exact ⟨h.bel.trans (hb.mono h.bel.size),h.bst.below hb,h.ok,hs _ _ h.b0,hs _ _ h.b1,hs _ _ h.b2⟩
theorem BeI.same (h:BeI wa T φ l sb r i x k sb' r' w) (e:bestN l (L.tabO l φ) T i (k+1) = bestN l (L.tabO l φ) T i k):BeI wa T φ l sb r i x (k+1) sb' r' w :=
 ⟨h.bel,by rw [e];exact h.bst,by rw [e];exact h.ok,h.b0,h.b1,by rw [e];exact h.b2⟩
theorem bestN_no (h:L.mvT (k+1) i T 0 = none) (f:List Bool):bestN l f T i (k+1) = bestN l f T i k:=by
 show L.bestK _ _ _ _ _ _ = _
 unfold L.bestK
 rw [h]
theorem bestN_not {U:L.Tr} (h:L.mvT (k+1) i T 0 = some U) (f:List Bool) (hlt:¬ L.sizeTr U l f < (bestN l f T i k).2.1):bestN l f T i (k+1) = bestN l f T i k:=by
 show L.bestK _ _ _ _ _ _ = _
 unfold L.bestK
 rw [h]
 exact if_neg hlt
theorem bestN_yes {U:L.Tr} (h:L.mvT (k+1) i T 0 = some U) (f:List Bool) (hlt:L.sizeTr U l f < (bestN l f T i k).2.1):bestN l f T i (k+1) = (U,L.sizeTr U l f,k+1):=by
 show L.bestK _ _ _ _ _ _ = _
 unfold L.bestK
 rw [h]
 exact if_pos hlt
theorem set3_below {N g:Nat} (h:Below N wa w) (hg:N≤g) (a b c:Value):Below N wa (((w.setCell ⟨g,0,none⟩ a).setCell ⟨g,1,none⟩ b).setCell ⟨g,2,none⟩ c):=((h.setCell hg _).setCell hg _).setCell hg _
theorem set3_ne {g k:Nat} (a b c:Value) (hk:k≠g):(((w.setCell ⟨g,0,none⟩ a).setCell ⟨g,1,none⟩ b).setCell ⟨g,2,none⟩ c).heap[k]? = w.heap[k]?:=by
 rw [heap_set_ne _ _ hk,heap_set_ne _ _ hk,heap_set_ne _ _ hk]
theorem BeI.take (h:BeI wa T φ l sb r i x k sb' r' w) {U:L.Tr} {sbU rU:Nat} (hm:L.mvT (k+1) i T 0 = some U) (hU:TrOK U l) (hS:StAt U φ sbU rU w) (hlt:L.sizeTr U l (L.tabO l φ) < (bestN l (L.tabO l φ) T i k).2.1) (hx:wa.heap.size≤x) (hg:gPow < wa.heap.size∧gTz < wa.heap.size) :
  BeI wa T φ l sb r i x (k+1) sbU rU (((w.setCell ⟨x+1+1,0,none⟩ (.pointer (some ⟨sbU,0,none⟩))).setCell ⟨x+1+1,1,none⟩ (.int .i64 (rU:Nat))).setCell ⟨x+1+1,2,none⟩ (.int .i64 (L.sizeTr U l (L.tabO l φ):Nat))):=by
 have e:=bestN_yes (l:=l) hm (L.tabO l φ) hlt
 refine ⟨set3_below h.bel (by omega) _ _ _,?_,by rw [e];exact hU,(set3_ne _ _ _ (by omega)).trans h.b0,(set3_ne _ _ _ (by omega)).trans h.b1,by rw [e];exact box_set3 h.b2 _ _ _⟩
 rw [e]
 exact hS.turn h.b2 (by decide) (by decide) (by decide) (by decide) ⟨by omega,by omega⟩ fun g o hne ho=>(set3_ne _ _ _ hne).trans ho
end
set_option maxRecDepth 100000 in
set_option maxHeartbeats 4000000 in
theorem mv_index (W:World):((Instr.index 136 moversV (.int .i64 0)).run Tryz.prog W = .ok (.agg #[.int .i64 1,.func (.func 62) #[] #[]]) W)∧((Instr.index 136 moversV (.int .i64 1)).run Tryz.prog W = .ok (.agg #[.int .i64 2,.func (.func 63) #[] #[]]) W)∧((Instr.index 136 moversV (.int .i64 2)).run Tryz.prog W = .ok (.agg #[.int .i64 3,.func (.func 64) #[] #[]]) W):=by
 refine ⟨?_,?_,?_⟩ <;> first | rfl | kernel_rfl
theorem box2' {w:World} {k:Nat} {x y:Value} {t:TypeId} (h:w.heap[k]? = some (.cells #[x,y] t (0,0))):w.cell? ⟨k,0,none⟩ = some x∧w.cell? ⟨k,1,none⟩ = some y:=by
 refine ⟨?_,?_⟩ <;> simp [World.cell?,h]
theorem mbox (w:World) (kd:Int) (f:Nat):∃ w1,w1 = w.alloc (.cells #[.int .i64 kd,.func (.func f) #[] #[]] 135)∧Below w.heap.size w w1∧w1.heap[w.heap.size]? = some (.cells #[.int .i64 kd,.func (.func f) #[] #[]] 135 (0,0)) :=
 ⟨_,rfl,(Below.refl _ _).alloc (Nat.le_refl _) _,heap_alloc_new _ _⟩
set_option maxRecDepth 100000 in
set_option maxHeartbeats 4000000 in
theorem better_any {T:L.Tr} {φ:L.Asg→Bool} {l:List Int} {sb r i:Nat} {w:World} (h:StAt T φ sb r w) (hT:TrOK T l) (hz:TzTab w) (hp:PowTab w) (hi:i≤1000) :
  Calls Tryz.prog 43 #[.agg (stC sb r (L.sizeTr T l (L.tabO l φ))),.int .i64 (i:Nat)] w fun e w'=>∃ sb' r':Nat,e = .returned (.tuple #[.agg (stC sb' r' (L.bestT l (L.tabO l φ) T i).2.1),.int .i64 ((L.bestT l (L.tabO l φ) T i).2.2:Nat)]) ∧
   StAt (L.bestT l (L.tabO l φ) T i).1 φ sb' r' w'∧Below w.heap.size w w':=by
 rw [←bestN_three]
 unfold stC
 obtain ⟨sz,hsz⟩:∃ sz,sz = L.sizeTr T l (L.tabO l φ):=⟨_,rfl⟩
 rw [←hsz]
 replace hsz:=Lib.hid hsz
 have hgl:Hid (gPow < w.heap.size∧gTz < w.heap.size):=Lib.hid ⟨hp.lt,hz.lt'⟩
 obtain ⟨x,hx⟩:∃ x,w.heap.size = x:=⟨_,rfl⟩
 obtain ⟨w3,hw3⟩:∃ w3,w3 = ((w.alloc (.cells #[.pointer (some ⟨sb,0,none⟩),.int .i64 (r:Nat),.int .i64 (sz:Nat)] 90)).alloc (.cells #[.pointer none,.int .i64 0,.int .i64 0] 90)).alloc (.cells #[.pointer (some ⟨sb,0,none⟩),.int .i64 (r:Nat),.int .i64 (sz:Nat)] 90):=⟨_,rfl⟩
 obtain ⟨hb3,h30,h31,h32,hx3⟩:=three_allocs w _ _ _ _ _ _ hx hw3
 have q1:=movers_any w3
 unfold moversV at q1
 go_enter Tryz.func43,Tryz.ntmps43
 go_wp2_with fail
 rw [←hw3]
 refine q1.mono ?_
 rintro e w2 ⟨rfl,hb2⟩
 have hxx:x < w3.heap.size∧x+1 < w3.heap.size∧x+1+1 < w3.heap.size:=by omega
 have h0:Hid (BeI w T φ l sb r i x 0 sb r w2):=Lib.hid ⟨hb3.trans (hb2.mono hb3.size),h.below (hb3.trans (hb2.mono hb3.size)),hT,by rw [←hsz.out];exact (hb2.block _ hxx.1).trans h30,(hb2.block _ hxx.2.1).trans h31,by show w2.heap[x+1+1]? = some (.cells (stC sb r (L.sizeTr T l (L.tabO l φ))) _ _);rw [←hsz.out];exact (hb2.block _ hxx.2.2).trans h32⟩
 replace hx:=Lib.hid hx
 clear q1 hb2 hxx hb3 h30 h31 h32 hx3 hw3
 go_wp2_with fail
 go_loopw [7,16] (fun kv iv wr=>∃ (k sb' r':Nat),k≤3∧iv = .int .i64 (k:Nat)∧kv = .int .i64 ((bestN l (L.tabO l φ) T i k).2.2:Nat)∧Hid (BeI w T φ l sb r i x k sb' r' wr)) (fun _ iv _=>3 - (intOf iv).toNat)
 case atStart=>exact ⟨0,sb,r,by omega,rfl,rfl,h0⟩
 case round =>
  clear h0
  obtain ⟨k,sb',r',hk,rfl,rfl,hI⟩:=hrel
  by_cases hlt:k < 3
  ·obtain rfl | rfl | rfl:k = 0∨k = 1∨k = 2:=by omega
   ·
    have hix:=fun W=>(mv_index W).1
    unfold moversV at hix
    have hK:∀ (c:Array Value) (w:World),(callFunc 62 c).run Tryz.prog w = .ok (.enter 62 c) w:=fun c w=>by simp [go_sem,Tryz.func62]
    obtain ⟨w4,hw4,hb4,hm4⟩:=mbox wr 1 62
    have hI4:=hI.out.below hb4
    have m0:w4.cell? ⟨wr.heap.size,0,none⟩ = some (.int .i64 1):=by rw [World.cell?,hm4];rfl
    have m1:w4.cell? ⟨wr.heap.size,1,none⟩ = some (.func (.func 62) #[] #[]):=by rw [World.cell?,hm4];rfl
    obtain ⟨e0,e1,e2⟩:=box3 hI4.b0
    have q5:=(h.below hI4.bel).right hT (hz.same (hI4.bel.block _ hz.lt')) (hp.same (hI4.bel.block _ hp.lt)) i
    have hxm:x+1+1 < wr.heap.size:=(Array.getElem?_eq_some_iff.1 hI.out.b2).1
    obtain ⟨mb,hmb⟩:∃ mb,wr.heap.size = mb:=⟨_,rfl⟩
    rw [hmb] at m0 m1 hm4 hxm
    rw [hw4] at e0 e1 m0 m1
    replace hI4:=Lib.hid hI4
    clear e2
    replace hm4:=Lib.hid hm4
    replace hb4:=Lib.hid hb4
    clear hI
    go_wp2_with fail
    try simp only [hmb]
    rw [←hw4]
    refine q5.mono ?_
    rintro e w5 ⟨hb5,⟨hno,rfl⟩ | ⟨U,sbU,rU,hU,rfl,hSU⟩⟩
    ·have hnext:Hid (BeI w T φ l sb r i x (0+1) sb' r' w5):=Lib.hid ((hI4.out.below hb5).same (bestN_no hno _))
     have hk2:(bestN l (L.tabO l φ) T i (0+1)).2.2 = (bestN l (L.tabO l φ) T i 0).2.2:=by rw [bestN_no hno]
     replace hk2:=Lib.hid hk2
     clear q5 hI4 m0 m1 e0 e1
     go_wp2_with fail
     go_roundw
     case rel=>exact ⟨0+1,sb',r',by omega,by go_num,by rw [hk2.out],hnext⟩
     case measure=>simp [intOf]
    ·have hokU:TrOK U l:=by
      obtain ⟨g1,g2⟩:=L.mvT_perm _ _ _ hU
      exact hT.perm g1 g2
     have q6:=newState_any hSU hokU
     have hI5:=Lib.hid (hI4.out.below hb5)
     have hm5:=Lib.hid ((hb5.block mb (Array.getElem?_eq_some_iff.1 hm4.out).1).trans hm4.out)
     replace hU:=Lib.hid hU
     obtain ⟨sU,hsU⟩:∃ sU,sU = L.sizeTr U l (L.tabO l φ):=⟨_,rfl⟩
     rw [←hsU] at q6
     replace hsU:=Lib.hid hsU
     replace hSU:=Lib.hid hSU
     replace hokU:=Lib.hid hokU
     clear q5 hI4 hm4 m0 m1 e0 e1 hb5
     go_wp2_with fail
     refine q6.mono ?_
     rintro e w6 ⟨rfl,hb6⟩
     have hI6:=hI5.out.below hb6
     have hS6:=hSU.out.below hb6
     have hm6:=(hb6.block mb (Array.getElem?_eq_some_iff.1 hm5.out).1).trans hm5.out
     obtain ⟨yb,hyb⟩:∃ yb,w6.heap.size = yb:=⟨_,rfl⟩
     obtain ⟨w7,hw7⟩:∃ w7,w7 = w6.alloc (.cells #[.pointer (some ⟨sbU,0,none⟩),.int .i64 (rU:Nat),.int .i64 (sU:Nat)] 90):=⟨_,rfl⟩
     have hb7:Below w6.heap.size w6 w7:=by rw [hw7];exact (Below.refl _ _).alloc (Nat.le_refl _) _
     have hy7:w7.heap[yb]? = some (.cells #[.pointer (some ⟨sbU,0,none⟩),.int .i64 (rU:Nat),.int .i64 (sU:Nat)] 90 (0,0)):=by rw [hw7,←hyb];exact heap_alloc_new _ _
     have hI7:=hI6.below hb7
     have hS7:=hS6.below hb7
     have hm7:=(hb7.block mb (Array.getElem?_eq_some_iff.1 hm6).1).trans hm6
     obtain ⟨y0,y1,y2⟩:=box3 hy7
     obtain ⟨z0,z1,z2⟩:=box3 hI7.b2
     have hlty:x+1+1 < yb:=by rw [←hyb];exact (Array.getElem?_eq_some_iff.1 hI6.b2).1
     obtain ⟨bs,hbs⟩:∃ bs,bs = (bestN l (L.tabO l φ) T i 0).2.1:=⟨_,rfl⟩
     rw [←hbs] at z2
     replace hbs:=Lib.hid hbs
     replace hI7:=Lib.hid hI7
     replace hS7:=Lib.hid hS7
     replace hy7:=Lib.hid hy7
     replace hm7:=Lib.hid hm7
     replace hb7:=Lib.hid hb7
     clear q6 hI5 hI6 hS6 hm5 hm6 hb6 z0 z1 y0 y1 hSU
     rw [hw7] at y2 z2
     by_cases hlts:sU < bs
     ·have dls:decide ((sU:Int) < (bs:Int)) = true:=decide_eq_true (by omega)
      go_wp2_with fail
      try simp only [hyb]
      try rw [←hw7]
      obtain ⟨cs7,hcs7⟩:∃ cs7,cs7 = w7:=⟨_,rfl⟩
      clear hw7 y2 z2
      (refine wp_region_held_drew (S:=(fun W=>W.heap[yb]? = some (.cells #[.pointer (some ⟨sbU,0,none⟩),.int .i64 (rU:Nat),.int .i64 (sU:Nat)] 90 (0,0))∧W.heap[mb]? = some (.cells #[.int .i64 1,.func (.func 62) #[] #[]] 135 (0,0)))) (by kernel_rfl) ?_ (fun hHeld=>?_))
      ·exact ⟨hy7.out,hm7.out⟩
      (refine takeL (i:=0) (v:=?_) rfl (by kernel_rfl) (by kernel_rfl) (by kernel_rfl) (fun _ _ _ h=>h) (Or.inl ⟨by rfl,?_⟩) (by assumption) ?_)
      rotate_left
      ·(intro w hSw;(try dsimp only at hSw);obtain ⟨hq1,hq2⟩:=hSw;obtain ⟨y0,y1,y2⟩:=box3 hq1;obtain ⟨m0,m1⟩:=box2' hq2;go_simp;first | done | with_reducible rfl)
      (try simp only [Act.put,List.setIfInBounds_toArray,List.set_cons_zero,List.set_cons_succ])
      (refine takeL (i:=1) (v:=?_) rfl (by kernel_rfl) (by kernel_rfl) (by kernel_rfl) (fun _ _ _ h=>h) (Or.inl ⟨by rfl,?_⟩) (by assumption) ?_)
      rotate_left
      ·(intro w hSw;(try dsimp only at hSw);obtain ⟨hq1,hq2⟩:=hSw;obtain ⟨y0,y1,y2⟩:=box3 hq1;obtain ⟨m0,m1⟩:=box2' hq2;go_simp;first | done | with_reducible rfl)
      (try simp only [Act.put,List.setIfInBounds_toArray,List.set_cons_zero,List.set_cons_succ])
      (refine takeL (i:=2) (v:=?_) rfl (by kernel_rfl) (by kernel_rfl) (by kernel_rfl) (fun _ _ _ h=>h) (Or.inl ⟨by rfl,?_⟩) (by assumption) ?_)
      rotate_left
      ·(intro w hSw;(try dsimp only at hSw);obtain ⟨hq1,hq2⟩:=hSw;obtain ⟨y0,y1,y2⟩:=box3 hq1;obtain ⟨m0,m1⟩:=box2' hq2;go_simp;first | done | with_reducible rfl)
      (try simp only [Act.put,List.setIfInBounds_toArray,List.set_cons_zero,List.set_cons_succ])
      have hb2':=hI7.out.b2
      obtain ⟨z0,z1,z2⟩:=box3 hb2'
      have f0:w7.frozen? ⟨x+1+1,0,none⟩ = false:=by simp [World.frozen?,hb2']
      have f1:w7.frozen? ⟨x+1+1,1,none⟩ = false:=by simp [World.frozen?,hb2']
      have f2:w7.frozen? ⟨x+1+1,2,none⟩ = false:=by simp [World.frozen?,hb2']
      have hxm2:mb≠x+1+1:=by omega
      replace hb2':=Lib.hid hb2'
      (refine wpAnyH_ready (rs:=[3]) (by kernel_rfl) (by simp) ?_)
      (refine consL rfl (fun K hK=>?_))
      ((rw [if_pos (by rfl)]);go_simp;(refine hK.out _ _ ⟨(set3_ne _ _ _ (by omega)).trans hy7.out,(set3_ne _ _ _ hxm2).trans hm7.out⟩ (fun hHeld=>?_)))
      (clear hK K)
      (try simp only [Act.put,List.setIfInBounds_toArray,List.set_cons_zero,List.set_cons_succ])
      (refine takeL (i:=4) (v:=?_) rfl (by kernel_rfl) (by kernel_rfl) (by kernel_rfl) (fun _ _ _ h=>h) (Or.inl ⟨by rfl,?_⟩) (by assumption) ?_)
      rotate_left
      ·(intro w hSw;(try dsimp only at hSw);obtain ⟨hq1,hq2⟩:=hSw;obtain ⟨y0,y1,y2⟩:=box3 hq1;obtain ⟨m0,m1⟩:=box2' hq2;go_simp;first | done | with_reducible rfl)
      (try simp only [Act.put,List.setIfInBounds_toArray,List.set_cons_zero,List.set_cons_succ])
      (refine wpAnyH_done (by kernel_rfl) ?_ _)
      have hnext:Hid (BeI w T φ l sb r i x (0+1) sbU rU (((w7.setCell ⟨x+1+1,0,none⟩ (.pointer (some ⟨sbU,0,none⟩))).setCell ⟨x+1+1,1,none⟩ (.int .i64 (rU:Nat))).setCell ⟨x+1+1,2,none⟩ (.int .i64 (sU:Nat))).drew):=Lib.hid (by
       rw [hsU.out]
       refine BeI.below ?_ (Below.refl _ _).drew
       exact hI7.out.take hU.out hokU.out hS7.out (by rw [←hsU.out,←hbs.out];exact hlts) (by rw [←hx.out];exact Nat.le_refl _) hgl.out)
      have hk2:(bestN l (L.tabO l φ) T i (0+1)).2.2 = 0+1:=by rw [bestN_yes hU.out _ (by rw [←hsU.out,←hbs.out];exact hlts)]
      replace hk2:=Lib.hid hk2
      clear hHeld hy7 hm7 hI7 hS7 z0 z1 z2 f0 f1 f2
      go_wp2_with fail
      go_roundw
      case rel=>exact ⟨0+1,sbU,rU,by omega,by go_num,by rw [hk2.out];rfl,hnext⟩
      case measure=>simp [intOf]
     ·have dls:decide ((sU:Int) < (bs:Int)) = false:=decide_eq_false (by omega)
      have hns:bestN l (L.tabO l φ) T i (0+1) = bestN l (L.tabO l φ) T i 0:=bestN_not hU.out _ (by rw [←hsU.out,←hbs.out];exact hlts)
      have hnext:Hid (BeI w T φ l sb r i x (0+1) sb' r' w7):=Lib.hid (hI7.out.same hns)
      have hk2:=Lib.hid (congrArg (fun b=>b.2.2) hns)
      go_wp2_with fail
      try simp only [hyb]
      try rw [←hw7]
      go_roundw
      case rel=>exact ⟨0+1,sb',r',by omega,by go_num,by rw [hk2.out],hnext⟩
      case measure=>simp [intOf]
   ·
    have hix:=fun W=>(mv_index W).2.1
    unfold moversV at hix
    have hK:∀ (c:Array Value) (w:World),(callFunc 63 c).run Tryz.prog w = .ok (.enter 63 c) w:=fun c w=>by simp [go_sem,Tryz.func63]
    obtain ⟨w4,hw4,hb4,hm4⟩:=mbox wr 2 63
    have hI4:=hI.out.below hb4
    have m0:w4.cell? ⟨wr.heap.size,0,none⟩ = some (.int .i64 2):=by rw [World.cell?,hm4];rfl
    have m1:w4.cell? ⟨wr.heap.size,1,none⟩ = some (.func (.func 63) #[] #[]):=by rw [World.cell?,hm4];rfl
    obtain ⟨e0,e1,e2⟩:=box3 hI4.b0
    have q5:=(h.below hI4.bel).left hT (hz.same (hI4.bel.block _ hz.lt')) (hp.same (hI4.bel.block _ hp.lt)) i
    have hxm:x+1+1 < wr.heap.size:=(Array.getElem?_eq_some_iff.1 hI.out.b2).1
    obtain ⟨mb,hmb⟩:∃ mb,wr.heap.size = mb:=⟨_,rfl⟩
    rw [hmb] at m0 m1 hm4 hxm
    rw [hw4] at e0 e1 m0 m1
    replace hI4:=Lib.hid hI4
    clear e2
    replace hm4:=Lib.hid hm4
    replace hb4:=Lib.hid hb4
    clear hI
    go_wp2_with fail
    try simp only [hmb]
    rw [←hw4]
    refine q5.mono ?_
    rintro e w5 ⟨hb5,⟨hno,rfl⟩ | ⟨U,sbU,rU,hU,rfl,hSU⟩⟩
    ·have hnext:Hid (BeI w T φ l sb r i x (1+1) sb' r' w5):=Lib.hid ((hI4.out.below hb5).same (bestN_no hno _))
     have hk2:(bestN l (L.tabO l φ) T i (1+1)).2.2 = (bestN l (L.tabO l φ) T i 1).2.2:=by rw [bestN_no hno]
     replace hk2:=Lib.hid hk2
     clear q5 hI4 m0 m1 e0 e1
     go_wp2_with fail
     go_roundw
     case rel=>exact ⟨1+1,sb',r',by omega,by go_num,by rw [hk2.out],hnext⟩
     case measure=>simp [intOf]
    ·have hokU:TrOK U l:=by
      obtain ⟨g1,g2⟩:=L.mvT_perm _ _ _ hU
      exact hT.perm g1 g2
     have q6:=newState_any hSU hokU
     have hI5:=Lib.hid (hI4.out.below hb5)
     have hm5:=Lib.hid ((hb5.block mb (Array.getElem?_eq_some_iff.1 hm4.out).1).trans hm4.out)
     replace hU:=Lib.hid hU
     obtain ⟨sU,hsU⟩:∃ sU,sU = L.sizeTr U l (L.tabO l φ):=⟨_,rfl⟩
     rw [←hsU] at q6
     replace hsU:=Lib.hid hsU
     replace hSU:=Lib.hid hSU
     replace hokU:=Lib.hid hokU
     clear q5 hI4 hm4 m0 m1 e0 e1 hb5
     go_wp2_with fail
     refine q6.mono ?_
     rintro e w6 ⟨rfl,hb6⟩
     have hI6:=hI5.out.below hb6
     have hS6:=hSU.out.below hb6
     have hm6:=(hb6.block mb (Array.getElem?_eq_some_iff.1 hm5.out).1).trans hm5.out
     obtain ⟨yb,hyb⟩:∃ yb,w6.heap.size = yb:=⟨_,rfl⟩
     obtain ⟨w7,hw7⟩:∃ w7,w7 = w6.alloc (.cells #[.pointer (some ⟨sbU,0,none⟩),.int .i64 (rU:Nat),.int .i64 (sU:Nat)] 90):=⟨_,rfl⟩
     have hb7:Below w6.heap.size w6 w7:=by rw [hw7];exact (Below.refl _ _).alloc (Nat.le_refl _) _
     have hy7:w7.heap[yb]? = some (.cells #[.pointer (some ⟨sbU,0,none⟩),.int .i64 (rU:Nat),.int .i64 (sU:Nat)] 90 (0,0)):=by rw [hw7,←hyb];exact heap_alloc_new _ _
     have hI7:=hI6.below hb7
     have hS7:=hS6.below hb7
     have hm7:=(hb7.block mb (Array.getElem?_eq_some_iff.1 hm6).1).trans hm6
     obtain ⟨y0,y1,y2⟩:=box3 hy7
     obtain ⟨z0,z1,z2⟩:=box3 hI7.b2
     have hlty:x+1+1 < yb:=by rw [←hyb];exact (Array.getElem?_eq_some_iff.1 hI6.b2).1
     obtain ⟨bs,hbs⟩:∃ bs,bs = (bestN l (L.tabO l φ) T i 1).2.1:=⟨_,rfl⟩
     rw [←hbs] at z2
     replace hbs:=Lib.hid hbs
     replace hI7:=Lib.hid hI7
     replace hS7:=Lib.hid hS7
     replace hy7:=Lib.hid hy7
     replace hm7:=Lib.hid hm7
     replace hb7:=Lib.hid hb7
     clear q6 hI5 hI6 hS6 hm5 hm6 hb6 z0 z1 y0 y1 hSU
     rw [hw7] at y2 z2
     by_cases hlts:sU < bs
     ·have dls:decide ((sU:Int) < (bs:Int)) = true:=decide_eq_true (by omega)
      go_wp2_with fail
      try simp only [hyb]
      try rw [←hw7]
      obtain ⟨cs7,hcs7⟩:∃ cs7,cs7 = w7:=⟨_,rfl⟩
      clear hw7 y2 z2
      (refine wp_region_held_drew (S:=(fun W=>W.heap[yb]? = some (.cells #[.pointer (some ⟨sbU,0,none⟩),.int .i64 (rU:Nat),.int .i64 (sU:Nat)] 90 (0,0))∧W.heap[mb]? = some (.cells #[.int .i64 2,.func (.func 63) #[] #[]] 135 (0,0)))) (by kernel_rfl) ?_ (fun hHeld=>?_))
      ·exact ⟨hy7.out,hm7.out⟩
      (refine takeL (i:=0) (v:=?_) rfl (by kernel_rfl) (by kernel_rfl) (by kernel_rfl) (fun _ _ _ h=>h) (Or.inl ⟨by rfl,?_⟩) (by assumption) ?_)
      rotate_left
      ·(intro w hSw;(try dsimp only at hSw);obtain ⟨hq1,hq2⟩:=hSw;obtain ⟨y0,y1,y2⟩:=box3 hq1;obtain ⟨m0,m1⟩:=box2' hq2;go_simp;first | done | with_reducible rfl)
      (try simp only [Act.put,List.setIfInBounds_toArray,List.set_cons_zero,List.set_cons_succ])
      (refine takeL (i:=1) (v:=?_) rfl (by kernel_rfl) (by kernel_rfl) (by kernel_rfl) (fun _ _ _ h=>h) (Or.inl ⟨by rfl,?_⟩) (by assumption) ?_)
      rotate_left
      ·(intro w hSw;(try dsimp only at hSw);obtain ⟨hq1,hq2⟩:=hSw;obtain ⟨y0,y1,y2⟩:=box3 hq1;obtain ⟨m0,m1⟩:=box2' hq2;go_simp;first | done | with_reducible rfl)
      (try simp only [Act.put,List.setIfInBounds_toArray,List.set_cons_zero,List.set_cons_succ])
      (refine takeL (i:=2) (v:=?_) rfl (by kernel_rfl) (by kernel_rfl) (by kernel_rfl) (fun _ _ _ h=>h) (Or.inl ⟨by rfl,?_⟩) (by assumption) ?_)
      rotate_left
      ·(intro w hSw;(try dsimp only at hSw);obtain ⟨hq1,hq2⟩:=hSw;obtain ⟨y0,y1,y2⟩:=box3 hq1;obtain ⟨m0,m1⟩:=box2' hq2;go_simp;first | done | with_reducible rfl)
      (try simp only [Act.put,List.setIfInBounds_toArray,List.set_cons_zero,List.set_cons_succ])
      have hb2':=hI7.out.b2
      obtain ⟨z0,z1,z2⟩:=box3 hb2'
      have f0:w7.frozen? ⟨x+1+1,0,none⟩ = false:=by simp [World.frozen?,hb2']
      have f1:w7.frozen? ⟨x+1+1,1,none⟩ = false:=by simp [World.frozen?,hb2']
      have f2:w7.frozen? ⟨x+1+1,2,none⟩ = false:=by simp [World.frozen?,hb2']
      have hxm2:mb≠x+1+1:=by omega
      replace hb2':=Lib.hid hb2'
      (refine wpAnyH_ready (rs:=[3]) (by kernel_rfl) (by simp) ?_)
      (refine consL rfl (fun K hK=>?_))
      ((rw [if_pos (by rfl)]);go_simp;(refine hK.out _ _ ⟨(set3_ne _ _ _ (by omega)).trans hy7.out,(set3_ne _ _ _ hxm2).trans hm7.out⟩ (fun hHeld=>?_)))
      (clear hK K)
      (try simp only [Act.put,List.setIfInBounds_toArray,List.set_cons_zero,List.set_cons_succ])
      (refine takeL (i:=4) (v:=?_) rfl (by kernel_rfl) (by kernel_rfl) (by kernel_rfl) (fun _ _ _ h=>h) (Or.inl ⟨by rfl,?_⟩) (by assumption) ?_)
      rotate_left
      ·(intro w hSw;(try dsimp only at hSw);obtain ⟨hq1,hq2⟩:=hSw;obtain ⟨y0,y1,y2⟩:=box3 hq1;obtain ⟨m0,m1⟩:=box2' hq2;go_simp;first | done | with_reducible rfl)
      (try simp only [Act.put,List.setIfInBounds_toArray,List.set_cons_zero,List.set_cons_succ])
      (refine wpAnyH_done (by kernel_rfl) ?_ _)
      have hnext:Hid (BeI w T φ l sb r i x (1+1) sbU rU (((w7.setCell ⟨x+1+1,0,none⟩ (.pointer (some ⟨sbU,0,none⟩))).setCell ⟨x+1+1,1,none⟩ (.int .i64 (rU:Nat))).setCell ⟨x+1+1,2,none⟩ (.int .i64 (sU:Nat))).drew):=Lib.hid (by
       rw [hsU.out]
       refine BeI.below ?_ (Below.refl _ _).drew
       exact hI7.out.take hU.out hokU.out hS7.out (by rw [←hsU.out,←hbs.out];exact hlts) (by rw [←hx.out];exact Nat.le_refl _) hgl.out)
      have hk2:(bestN l (L.tabO l φ) T i (1+1)).2.2 = 1+1:=by rw [bestN_yes hU.out _ (by rw [←hsU.out,←hbs.out];exact hlts)]
      replace hk2:=Lib.hid hk2
      clear hHeld hy7 hm7 hI7 hS7 z0 z1 z2 f0 f1 f2
      go_wp2_with fail
      go_roundw
      case rel=>exact ⟨1+1,sbU,rU,by omega,by go_num,by rw [hk2.out];rfl,hnext⟩
      case measure=>simp [intOf]
     ·have dls:decide ((sU:Int) < (bs:Int)) = false:=decide_eq_false (by omega)
      have hns:bestN l (L.tabO l φ) T i (1+1) = bestN l (L.tabO l φ) T i 1:=bestN_not hU.out _ (by rw [←hsU.out,←hbs.out];exact hlts)
      have hnext:Hid (BeI w T φ l sb r i x (1+1) sb' r' w7):=Lib.hid (hI7.out.same hns)
      have hk2:=Lib.hid (congrArg (fun b=>b.2.2) hns)
      go_wp2_with fail
      try simp only [hyb]
      try rw [←hw7]
      go_roundw
      case rel=>exact ⟨1+1,sb',r',by omega,by go_num,by rw [hk2.out],hnext⟩
      case measure=>simp [intOf]
   ·
    have hix:=fun W=>(mv_index W).2.2
    unfold moversV at hix
    have hK:∀ (c:Array Value) (w:World),(callFunc 64 c).run Tryz.prog w = .ok (.enter 64 c) w:=fun c w=>by simp [go_sem,Tryz.func64]
    obtain ⟨w4,hw4,hb4,hm4⟩:=mbox wr 3 64
    have hI4:=hI.out.below hb4
    have m0:w4.cell? ⟨wr.heap.size,0,none⟩ = some (.int .i64 3):=by rw [World.cell?,hm4];rfl
    have m1:w4.cell? ⟨wr.heap.size,1,none⟩ = some (.func (.func 64) #[] #[]):=by rw [World.cell?,hm4];rfl
    obtain ⟨e0,e1,e2⟩:=box3 hI4.b0
    have q5:=(h.below hI4.bel).swap hT (hz.same (hI4.bel.block _ hz.lt')) (hp.same (hI4.bel.block _ hp.lt)) i
    have hxm:x+1+1 < wr.heap.size:=(Array.getElem?_eq_some_iff.1 hI.out.b2).1
    obtain ⟨mb,hmb⟩:∃ mb,wr.heap.size = mb:=⟨_,rfl⟩
    rw [hmb] at m0 m1 hm4 hxm
    rw [hw4] at e0 e1 m0 m1
    replace hI4:=Lib.hid hI4
    clear e2
    replace hm4:=Lib.hid hm4
    replace hb4:=Lib.hid hb4
    clear hI
    go_wp2_with fail
    try simp only [hmb]
    rw [←hw4]
    refine q5.mono ?_
    rintro e w5 ⟨hb5,⟨hno,rfl⟩ | ⟨U,sbU,rU,hU,rfl,hSU⟩⟩
    ·have hnext:Hid (BeI w T φ l sb r i x (2+1) sb' r' w5):=Lib.hid ((hI4.out.below hb5).same (bestN_no hno _))
     have hk2:(bestN l (L.tabO l φ) T i (2+1)).2.2 = (bestN l (L.tabO l φ) T i 2).2.2:=by rw [bestN_no hno]
     replace hk2:=Lib.hid hk2
     clear q5 hI4 m0 m1 e0 e1
     go_wp2_with fail
     go_roundw
     case rel=>exact ⟨2+1,sb',r',by omega,by go_num,by rw [hk2.out],hnext⟩
     case measure=>simp [intOf]
    ·have hokU:TrOK U l:=by
      obtain ⟨g1,g2⟩:=L.mvT_perm _ _ _ hU
      exact hT.perm g1 g2
     have q6:=newState_any hSU hokU
     have hI5:=Lib.hid (hI4.out.below hb5)
     have hm5:=Lib.hid ((hb5.block mb (Array.getElem?_eq_some_iff.1 hm4.out).1).trans hm4.out)
     replace hU:=Lib.hid hU
     obtain ⟨sU,hsU⟩:∃ sU,sU = L.sizeTr U l (L.tabO l φ):=⟨_,rfl⟩
     rw [←hsU] at q6
     replace hsU:=Lib.hid hsU
     replace hSU:=Lib.hid hSU
     replace hokU:=Lib.hid hokU
     clear q5 hI4 hm4 m0 m1 e0 e1 hb5
     go_wp2_with fail
     refine q6.mono ?_
     rintro e w6 ⟨rfl,hb6⟩
     have hI6:=hI5.out.below hb6
     have hS6:=hSU.out.below hb6
     have hm6:=(hb6.block mb (Array.getElem?_eq_some_iff.1 hm5.out).1).trans hm5.out
     obtain ⟨yb,hyb⟩:∃ yb,w6.heap.size = yb:=⟨_,rfl⟩
     obtain ⟨w7,hw7⟩:∃ w7,w7 = w6.alloc (.cells #[.pointer (some ⟨sbU,0,none⟩),.int .i64 (rU:Nat),.int .i64 (sU:Nat)] 90):=⟨_,rfl⟩
     have hb7:Below w6.heap.size w6 w7:=by rw [hw7];exact (Below.refl _ _).alloc (Nat.le_refl _) _
     have hy7:w7.heap[yb]? = some (.cells #[.pointer (some ⟨sbU,0,none⟩),.int .i64 (rU:Nat),.int .i64 (sU:Nat)] 90 (0,0)):=by rw [hw7,←hyb];exact heap_alloc_new _ _
     have hI7:=hI6.below hb7
     have hS7:=hS6.below hb7
     have hm7:=(hb7.block mb (Array.getElem?_eq_some_iff.1 hm6).1).trans hm6
     obtain ⟨y0,y1,y2⟩:=box3 hy7
     obtain ⟨z0,z1,z2⟩:=box3 hI7.b2
     have hlty:x+1+1 < yb:=by rw [←hyb];exact (Array.getElem?_eq_some_iff.1 hI6.b2).1
     obtain ⟨bs,hbs⟩:∃ bs,bs = (bestN l (L.tabO l φ) T i 2).2.1:=⟨_,rfl⟩
     rw [←hbs] at z2
     replace hbs:=Lib.hid hbs
     replace hI7:=Lib.hid hI7
     replace hS7:=Lib.hid hS7
     replace hy7:=Lib.hid hy7
     replace hm7:=Lib.hid hm7
     replace hb7:=Lib.hid hb7
     clear q6 hI5 hI6 hS6 hm5 hm6 hb6 z0 z1 y0 y1 hSU
     rw [hw7] at y2 z2
     by_cases hlts:sU < bs
     ·have dls:decide ((sU:Int) < (bs:Int)) = true:=decide_eq_true (by omega)
      go_wp2_with fail
      try simp only [hyb]
      try rw [←hw7]
      obtain ⟨cs7,hcs7⟩:∃ cs7,cs7 = w7:=⟨_,rfl⟩
      clear hw7 y2 z2
      (refine wp_region_held_drew (S:=(fun W=>W.heap[yb]? = some (.cells #[.pointer (some ⟨sbU,0,none⟩),.int .i64 (rU:Nat),.int .i64 (sU:Nat)] 90 (0,0))∧W.heap[mb]? = some (.cells #[.int .i64 3,.func (.func 64) #[] #[]] 135 (0,0)))) (by kernel_rfl) ?_ (fun hHeld=>?_))
      ·exact ⟨hy7.out,hm7.out⟩
      (refine takeL (i:=0) (v:=?_) rfl (by kernel_rfl) (by kernel_rfl) (by kernel_rfl) (fun _ _ _ h=>h) (Or.inl ⟨by rfl,?_⟩) (by assumption) ?_)
      rotate_left
      ·(intro w hSw;(try dsimp only at hSw);obtain ⟨hq1,hq2⟩:=hSw;obtain ⟨y0,y1,y2⟩:=box3 hq1;obtain ⟨m0,m1⟩:=box2' hq2;go_simp;first | done | with_reducible rfl)
      (try simp only [Act.put,List.setIfInBounds_toArray,List.set_cons_zero,List.set_cons_succ])
      (refine takeL (i:=1) (v:=?_) rfl (by kernel_rfl) (by kernel_rfl) (by kernel_rfl) (fun _ _ _ h=>h) (Or.inl ⟨by rfl,?_⟩) (by assumption) ?_)
      rotate_left
      ·(intro w hSw;(try dsimp only at hSw);obtain ⟨hq1,hq2⟩:=hSw;obtain ⟨y0,y1,y2⟩:=box3 hq1;obtain ⟨m0,m1⟩:=box2' hq2;go_simp;first | done | with_reducible rfl)
      (try simp only [Act.put,List.setIfInBounds_toArray,List.set_cons_zero,List.set_cons_succ])
      (refine takeL (i:=2) (v:=?_) rfl (by kernel_rfl) (by kernel_rfl) (by kernel_rfl) (fun _ _ _ h=>h) (Or.inl ⟨by rfl,?_⟩) (by assumption) ?_)
      rotate_left
      ·(intro w hSw;(try dsimp only at hSw);obtain ⟨hq1,hq2⟩:=hSw;obtain ⟨y0,y1,y2⟩:=box3 hq1;obtain ⟨m0,m1⟩:=box2' hq2;go_simp;first | done | with_reducible rfl)
      (try simp only [Act.put,List.setIfInBounds_toArray,List.set_cons_zero,List.set_cons_succ])
      have hb2':=hI7.out.b2
      obtain ⟨z0,z1,z2⟩:=box3 hb2'
      have f0:w7.frozen? ⟨x+1+1,0,none⟩ = false:=by simp [World.frozen?,hb2']
      have f1:w7.frozen? ⟨x+1+1,1,none⟩ = false:=by simp [World.frozen?,hb2']
      have f2:w7.frozen? ⟨x+1+1,2,none⟩ = false:=by simp [World.frozen?,hb2']
      have hxm2:mb≠x+1+1:=by omega
      replace hb2':=Lib.hid hb2'
      (refine wpAnyH_ready (rs:=[3]) (by kernel_rfl) (by simp) ?_)
      (refine consL rfl (fun K hK=>?_))
      ((rw [if_pos (by rfl)]);go_simp;(refine hK.out _ _ ⟨(set3_ne _ _ _ (by omega)).trans hy7.out,(set3_ne _ _ _ hxm2).trans hm7.out⟩ (fun hHeld=>?_)))
      (clear hK K)
      (try simp only [Act.put,List.setIfInBounds_toArray,List.set_cons_zero,List.set_cons_succ])
      (refine takeL (i:=4) (v:=?_) rfl (by kernel_rfl) (by kernel_rfl) (by kernel_rfl) (fun _ _ _ h=>h) (Or.inl ⟨by rfl,?_⟩) (by assumption) ?_)
      rotate_left
      ·(intro w hSw;(try dsimp only at hSw);obtain ⟨hq1,hq2⟩:=hSw;obtain ⟨y0,y1,y2⟩:=box3 hq1;obtain ⟨m0,m1⟩:=box2' hq2;go_simp;first | done | with_reducible rfl)
      (try simp only [Act.put,List.setIfInBounds_toArray,List.set_cons_zero,List.set_cons_succ])
      (refine wpAnyH_done (by kernel_rfl) ?_ _)
      have hnext:Hid (BeI w T φ l sb r i x (2+1) sbU rU (((w7.setCell ⟨x+1+1,0,none⟩ (.pointer (some ⟨sbU,0,none⟩))).setCell ⟨x+1+1,1,none⟩ (.int .i64 (rU:Nat))).setCell ⟨x+1+1,2,none⟩ (.int .i64 (sU:Nat))).drew):=Lib.hid (by
       rw [hsU.out]
       refine BeI.below ?_ (Below.refl _ _).drew
       exact hI7.out.take hU.out hokU.out hS7.out (by rw [←hsU.out,←hbs.out];exact hlts) (by rw [←hx.out];exact Nat.le_refl _) hgl.out)
      have hk2:(bestN l (L.tabO l φ) T i (2+1)).2.2 = 2+1:=by rw [bestN_yes hU.out _ (by rw [←hsU.out,←hbs.out];exact hlts)]
      replace hk2:=Lib.hid hk2
      clear hHeld hy7 hm7 hI7 hS7 z0 z1 z2 f0 f1 f2
      go_wp2_with fail
      go_roundw
      case rel=>exact ⟨2+1,sbU,rU,by omega,by go_num,by rw [hk2.out];rfl,hnext⟩
      case measure=>simp [intOf]
     ·have dls:decide ((sU:Int) < (bs:Int)) = false:=decide_eq_false (by omega)
      have hns:bestN l (L.tabO l φ) T i (2+1) = bestN l (L.tabO l φ) T i 2:=bestN_not hU.out _ (by rw [←hsU.out,←hbs.out];exact hlts)
      have hnext:Hid (BeI w T φ l sb r i x (2+1) sb' r' w7):=Lib.hid (hI7.out.same hns)
      have hk2:=Lib.hid (congrArg (fun b=>b.2.2) hns)
      go_wp2_with fail
      try simp only [hyb]
      try rw [←hw7]
      go_roundw
      case rel=>exact ⟨2+1,sb',r',by omega,by go_num,by rw [hk2.out],hnext⟩
      case measure=>simp [intOf]
  ·obtain rfl:k = 3:=by omega
   obtain ⟨hbel,hst,hok,b0,b1,b2⟩:=hI.out
   have hN:w.heap.size≤x+1:=by have:=hx.out;omega
   have hfin:Hid (StAt (bestN l (L.tabO l φ) T i 3).1 φ sb' r' ((((wr.setCell ⟨x+1,0,none⟩ (.pointer (some ⟨sb',0,none⟩))).setCell ⟨x+1,1,none⟩ (.int .i64 (r':Nat))).setCell ⟨x+1,2,none⟩ (.int .i64 ((bestN l (L.tabO l φ) T i 3).2.1:Nat))))∧Below w.heap.size w ((((wr.setCell ⟨x+1,0,none⟩ (.pointer (some ⟨sb',0,none⟩))).setCell ⟨x+1,1,none⟩ (.int .i64 (r':Nat))).setCell ⟨x+1,2,none⟩ (.int .i64 ((bestN l (L.tabO l φ) T i 3).2.1:Nat))))) :=
    Lib.hid ⟨hst.turn b1 (by decide) (by decide) (by decide) (by decide) ⟨by have:=hgl.out;omega,by have:=hgl.out;omega⟩ (fun g o hne ho=>(set3_ne _ _ _ hne).trans ho),set3_below hbel hN _ _ _⟩
   obtain ⟨z0,z1,z2⟩:=box3 b1
   obtain ⟨e0,e1,e2⟩:=box3 b2
   have f0:wr.frozen? ⟨x+1,0,none⟩ = false:=by simp [World.frozen?,b1]
   have f1:wr.frozen? ⟨x+1,1,none⟩ = false:=by simp [World.frozen?,b1]
   have f2:wr.frozen? ⟨x+1,2,none⟩ = false:=by simp [World.frozen?,b1]
   have hs1:=box_set3 b1 (.pointer (some ⟨sb',0,none⟩)) (.int .i64 (r':Nat)) (.int .i64 ((bestN l (L.tabO l φ) T i 3).2.1:Nat))
   obtain ⟨g0,g1,g2⟩:=box3 hs1
   replace hs1:=Lib.hid hs1
   replace b0:=Lib.hid b0
   replace b1:=Lib.hid b1
   replace b2:=Lib.hid b2
   clear hI hst hbel
   go_wp2_with fail
   refine bodyPost_ret (v:=.tuple #[.agg #[.pointer (some ⟨sb',0,none⟩),.int .i64 (r':Nat),.int .i64 ((bestN l (L.tabO l φ) T i 3).2.1:Nat)],.int .i64 ((bestN l (L.tabO l φ) T i 3).2.2:Nat)]) (by simp [results,Tryz.results43,go_sem,g0,g1,g2]) rfl ⟨sb',r',rfl,hfin.out⟩
end Go.Proofs.YtemnmcfmabamcaaGreatDoor
