import Derived.Test.YtckhohpbokojdaaGreatDoorMN38
set_option linter.unusedSimpArgs false
set_option linter.unusedVariables false
namespace Go.Proofs.YtckhohpbokojdaaGreatDoor
open Go Go.RowKit Go.Shelf
theorem extAllocE {a w:World} (h:Ext a w) (o:Obj):∃ x W',x = w.heap.size∧W' = w.alloc o∧Ext a W'∧W'.heap[x]? = some o∧Below w.heap.size w W':=⟨_,_,rfl,rfl,h.alloc o,heap_alloc_new w o,(Below.refl _ w).alloc (Nat.le_refl _) o⟩
set_option maxRecDepth 100000 in
set_option maxHeartbeats 40000000 in
theorem works35_any (w:World) (hP:PowTab w) (hgP:gPow < w.heap.size):Calls Tryz.prog 11 #[] w fun e w'=>e = .returned (.bool true)∧Below w.heap.size w w':=by
 go_enter Tryz.func11,Tryz.ntmps11
 go_wp2_with fail
 refine (chapter35_any _).mono ?_
 rintro e w1 ⟨y,rfl,hs1,hb1⟩
 have hx1:=(Ext.refl w1).alloc (.cells #[.int .i64 (-2)] 3)
 have hn1:=heap_alloc_new w1 (.cells #[.int .i64 (-2)] 3)
 have hb1':=hb1.trans (hx1.below.mono hb1.size)
 have qg:=given_ok (n:=3) (nl:=chL) (t:=[-2]) (tv:=.slice (some ⟨w1.heap.size,0,none⟩) 1 1) (w:=w1.alloc (.cells #[.int .i64 (-2)] 3)) (hs1.ext hx1.below) ch_chk (by decide) (by decide) ⟨_,_,rfl,.inr ⟨_,0,rfl,fun j hj=>by
  have:j = 0:=by simp at hj;omega
  subst this
  rw [World.cell?,hn1];rfl⟩⟩ (by decide) ch_term (hP.below hb1') (Nat.lt_of_lt_of_le hgP hb1'.size)
 rw [ch_giv] at qg
 replace hb1':=Lib.hid hb1'
 clear hs1 hx1 hn1 hb1
 go_wp2_with fail
 refine qg.mono ?_
 rintro e w2 ⟨vA,ua,rfl,hoA,hRA,hb2⟩
 have hA:=nodes_slC hoA hRA
 have hb2':=hb1'.out.trans (hb2.mono hb1'.out.size)
 obtain ⟨ba,ca,rfl⟩:∃ b c,vA = .slice b 3 c:=by
  obtain ⟨b,c,e,-⟩:=hA.shape
  exact ⟨b,c,e⟩
 have hx3:=(Ext.refl w2).alloc (.cells #[.int .i64 3,.slice ba 3 ca] 24)
 have hn3:=heap_alloc_new w2 (.cells #[.int .i64 3,.slice ba 3 ca] 24)
 have hb3:=Lib.hid (hb2'.trans (hx3.below.mono hb2'.size))
 replace hA:=Lib.hid (hA.ext hx3.below)
 replace hn3:=Lib.hid hn3
 clear qg hoA hRA hb2 hb2' hx3 hb1'
 go_wp2_with fail
 obtain ⟨t1,ht1⟩:∃ x,x = w2.heap.size:=⟨_,rfl⟩
 obtain ⟨w3,hw3⟩:∃ x,x = w2.alloc (.cells #[.int .i64 3,.slice ba 3 ca] 24):=⟨_,rfl⟩
 rw [←hw3] at hA hb3 hn3 ⊢
 rw [←ht1] at hn3 ⊢
 clear hw3 ht1
 refine (chapter35_any _).mono ?_
 rintro e w4 ⟨y2,rfl,hs4,hb4⟩
 have hb4':=hb3.out.trans (hb4.mono hb3.out.size)
 have qf:=forget_ok (n:=3) (nl:=chL) (s:=1) (w:=w4) hs4 ch_chk (by decide) (by decide) ch_dec (hP.below hb4') (Nat.lt_of_lt_of_le hgP hb4'.size)
 rw [ch_for,show lo 1 = 1 from rfl,show hi 1 = 0 from rfl] at qf
 replace hA:=Lib.hid (hA.out.ext hb4)
 replace hn3:=Lib.hid ((hb4.block _ (Array.getElem?_eq_some_iff.1 hn3.out).1).trans hn3.out)
 replace hb4':=Lib.hid hb4'
 clear hb3 hs4 hb4
 go_wp2_with fail
 refine qf.mono ?_
 rintro e w5 ⟨vB,ub,rfl,hoB,hRB,hb5⟩
 have hB:=nodes_slC hoB hRB
 have hb5':=hb4'.out.trans (hb5.mono hb4'.out.size)
 obtain ⟨bb,cb,rfl⟩:∃ b c,vB = .slice b 3 c:=by
  obtain ⟨b,c,e,-⟩:=hB.shape
  exact ⟨b,c,e⟩
 have hx6:=(Ext.refl w5).alloc (.cells #[.int .i64 3,.slice bb 3 cb] 24)
 have hn6:=heap_alloc_new w5 (.cells #[.int .i64 3,.slice bb 3 cb] 24)
 have hBw:=Lib.hid (hb5'.trans (hx6.below.mono hb5'.size))
 replace hA:=Lib.hid ((hA.out.ext hb5).ext hx6.below)
 replace hB:=Lib.hid (hB.ext hx6.below)
 replace hn3:=Lib.hid ((hx6.below.block _ (Nat.lt_of_lt_of_le (Array.getElem?_eq_some_iff.1 hn3.out).1 hb5.size)).trans ((hb5.block _ (Array.getElem?_eq_some_iff.1 hn3.out).1).trans hn3.out))
 replace hn6:=Lib.hid hn6
 clear qf hoB hRB hb5 hb5' hx6 hb4'
 go_wp2_with fail
 obtain ⟨t3,ht3⟩:∃ x,x = w5.heap.size:=⟨_,rfl⟩
 obtain ⟨w6,hw6⟩:∃ x,x = w5.alloc (.cells #[.int .i64 3,.slice bb 3 cb] 24):=⟨_,rfl⟩
 rw [←hw6] at hA hB hBw hn3 hn6 ⊢
 rw [←ht3] at hn6 ⊢
 clear hw6 ht3
 have hS:∀ V,Ext w6 V→(V.cell? ⟨t1,0,none⟩ = some (.int .i64 3)∧V.cell? ⟨t1,1,none⟩ = some (.slice ba 3 ca))∧V.cell? ⟨t3,0,none⟩ = some (.int .i64 3)∧V.cell? ⟨t3,1,none⟩ = some (.slice bb 3 cb):=fun V hV=>by
  have f1:=(hV.below.block _ (Array.getElem?_eq_some_iff.1 hn3.out).1).trans hn3.out
  have f2:=(hV.below.block _ (Array.getElem?_eq_some_iff.1 hn6.out).1).trans hn6.out
  exact ⟨⟨by rw [World.cell?,f1];rfl,by rw [World.cell?,f1];rfl⟩,by rw [World.cell?,f2];rfl,by rw [World.cell?,f2];rfl⟩
 have qA:=fun (V:World) (v':Value) (hV:Ext w6 V) (hC:SlC V v' ((ex3 1 3 3).map L.ofND))=>same20_any (n:=3) (SlC.ext hA.out hV.below) hC (by decide) (by decide)
 have qB:=fun (V:World) (v':Value) (hV:Ext w6 V) (hC:SlC V v' ((ex3 2 3 4).map L.ofND))=>same20_any (n:=3) (SlC.ext hB.out hV.below) hC (by decide) (by decide)
 have e1:((ex3 1 3 3).map L.ofND).length = 3:=rfl
 have e2:((ex3 2 3 4).map L.ofND).length = 3:=rfl
 try simp only [e1] at qA
 try simp only [e2] at qB
 replace hS:=Lib.hid hS
 replace qA:=Lib.hid qA
 replace qB:=Lib.hid qB
 clear hA hB hn3 hn6 e1 e2
 have hE:Hid (Ext w6 w6.drew):=Lib.hid (Ext.refl _).drew
 (refine wp_region_held_drew (S:=(fun V=>(V.cell? ⟨t1,0,none⟩ = some (.int .i64 3)∧V.cell? ⟨t1,1,none⟩ = some (.slice ba 3 ca))∧V.cell? ⟨t3,0,none⟩ = some (.int .i64 3)∧V.cell? ⟨t3,1,none⟩ = some (.slice bb 3 cb))) (by kernel_rfl) ?_ (fun hHeld=>?_))
 ·exact hS.out _ hE.out
 generalize w6.drew = wd at *
 (refine takeL (i:=0) (v:=?_) rfl (by kernel_rfl) (by kernel_rfl) (by kernel_rfl) (fun _ _ _ h=>h) (Or.inl ⟨by rfl,?_⟩) (by assumption) ?_)
 rotate_left
 ·(intro w hSw;(try dsimp only at hSw);go_simp;first | done | with_reducible rfl)
 (try simp only [Act.put,List.setIfInBounds_toArray,List.set_cons_zero,List.set_cons_succ])
 (refine takeL (i:=1) (v:=?_) rfl (by kernel_rfl) (by kernel_rfl) (by kernel_rfl) (fun _ _ _ h=>h) (Or.inl ⟨by rfl,?_⟩) (by assumption) ?_)
 rotate_left
 ·(intro w hSw;(try dsimp only at hSw);go_simp;first | done | with_reducible rfl)
 (try simp only [Act.put,List.setIfInBounds_toArray,List.set_cons_zero,List.set_cons_succ])
 (refine takeL (i:=2) (v:=?_) rfl (by kernel_rfl) (by kernel_rfl) (by kernel_rfl) (fun _ _ _ h=>h) (Or.inl ⟨by rfl,?_⟩) (by assumption) ?_)
 rotate_left
 ·(intro w hSw;(try dsimp only at hSw);go_simp;first | done | with_reducible rfl)
 (try simp only [Act.put,List.setIfInBounds_toArray,List.set_cons_zero,List.set_cons_succ])
 (refine takeL (i:=3) (v:=?_) rfl (by kernel_rfl) (by kernel_rfl) (by kernel_rfl) (fun _ _ _ h=>h) (Or.inl ⟨by rfl,?_⟩) (by assumption) ?_)
 rotate_left
 ·(intro w hSw;(try dsimp only at hSw);go_simp;first | done | with_reducible rfl)
 (try simp only [Act.put,List.setIfInBounds_toArray,List.set_cons_zero,List.set_cons_succ])
 (refine takeL (i:=4) (v:=?_) rfl (by kernel_rfl) (by kernel_rfl) (by kernel_rfl) (fun _ _ _ h=>h) (Or.inl ⟨by rfl,?_⟩) (by assumption) ?_)
 rotate_left
 ·(intro w hSw;(try dsimp only at hSw);go_simp;first | done | with_reducible rfl)
 (try simp only [Act.put,List.setIfInBounds_toArray,List.set_cons_zero,List.set_cons_succ])
 (refine takeL (i:=5) (v:=?_) rfl (by kernel_rfl) (by kernel_rfl) (by kernel_rfl) (fun _ _ _ h=>h) (Or.inl ⟨by rfl,?_⟩) (by assumption) ?_)
 rotate_left
 ·(intro w hSw;(try dsimp only at hSw);go_simp;first | done | with_reducible rfl)
 (try simp only [Act.put,List.setIfInBounds_toArray,List.set_cons_zero,List.set_cons_succ])
 (refine takeL (i:=6) (v:=?_) rfl (by kernel_rfl) (by kernel_rfl) (by kernel_rfl) (fun _ _ _ h=>h) (Or.inl ⟨by rfl,?_⟩) (by assumption) ?_)
 rotate_left
 ·(intro w hSw;(try dsimp only at hSw);go_simp;first | done | with_reducible rfl)
 (try simp only [Act.put,List.setIfInBounds_toArray,List.set_cons_zero,List.set_cons_succ])
 skip
 (refine takeL (i:=7) (v:=?_) rfl (by kernel_rfl) (by kernel_rfl) (by kernel_rfl) (fun _ _ _ h=>h) (Or.inl ⟨by rfl,?_⟩) (by assumption) ?_)
 rotate_left
 ·(intro w hSw;(try dsimp only at hSw);go_simp;first | done | with_reducible rfl)
 (try simp only [Act.put,List.setIfInBounds_toArray,List.set_cons_zero,List.set_cons_succ])
 refine wpAnyH_ready (rs:=[8,10]) (by kernel_rfl) (by simp) ?_
 refine consL2 rfl rfl (fun K hK=>?_) (fun K hK=>?_)
 ·(rw [if_pos (by rfl)])
  go_simp
  (go_at_call 33);refine (leaf_any 1 _).mono ?_;rintro e wv ⟨rfl,hxv⟩
  replace hE:=Lib.hid (hE.out.trans hxv)
  refine hK.out _ _ (hS.out _ hE.out) (fun hHeld=>?_)
  clear hxv
  (clear hK K)
  (try simp only [Act.put,List.setIfInBounds_toArray,List.set_cons_zero,List.set_cons_succ])
  refine wpAnyH_ready (rs:=[9,10]) (by kernel_rfl) (by simp) ?_
  refine consL2 rfl rfl (fun K hK=>?_) (fun K hK=>?_)
  ·(rw [if_pos (by rfl)])
   go_simp
   (go_at_call 33);refine (leaf_any 3 _).mono ?_;rintro e wv ⟨rfl,hxv⟩
   replace hE:=Lib.hid (hE.out.trans hxv)
   refine hK.out _ _ (hS.out _ hE.out) (fun hHeld=>?_)
   clear hxv
   (clear hK K)
   (try simp only [Act.put,List.setIfInBounds_toArray,List.set_cons_zero,List.set_cons_succ])
   refine wpAnyH_ready (rs:=[10]) (by kernel_rfl) (by simp) ?_
   refine consL rfl (fun K hK=>?_)
   (rw [if_pos (by rfl)])
   go_simp
   obtain ⟨xhr,wv,hx,hW,hE2,hr,hbv⟩:=extAllocE hE.out (.cells #[.int .i64 0,.int .i64 1] 3)
   rw [←hW,←hx]
   replace hE:=Lib.hid hE2
   replace hr:=Lib.hid hr
   replace hx:=Lib.hid hx
   replace hW:=Lib.hid hW
   refine hK.out _ _ (hS.out _ hE.out) (fun hHeld=>?_)
   clear hE2 hx hW hbv
   (clear hK K)
   (try simp only [Act.put,List.setIfInBounds_toArray,List.set_cons_zero,List.set_cons_succ])
   refine wpAnyH_ready (rs:=[11]) (by kernel_rfl) (by simp) ?_
   refine consL rfl (fun K hK=>?_)
   (rw [if_pos (by rfl)])
   go_simp
   (go_at_call 34);refine (ofn_any 3 _ _ _ _).mono ?_;rintro e wv ⟨rfl,hxv⟩
   replace hr:=Lib.hid ((hxv.below.block _ (Array.getElem?_eq_some_iff.1 hr.out).1).trans hr.out)
   replace hE:=Lib.hid (hE.out.trans hxv)
   refine hK.out _ _ (hS.out _ hE.out) (fun hHeld=>?_)
   clear hxv
   (clear hK K)
   (try simp only [Act.put,List.setIfInBounds_toArray,List.set_cons_zero,List.set_cons_succ])
   refine wpAnyH_ready (rs:=[12]) (by kernel_rfl) (by simp) ?_
   refine consL rfl (fun K hK=>?_)
   (rw [if_pos (by rfl)])
   go_simp
   obtain ⟨xhn,wv,hx,hW,hE2,hn,hbv⟩:=extAllocE hE.out (.cells #[.int .i64 2,.int .i64 1,.slice none 0 0,.int .i64 2,.int .i64 3,.slice none 0 0,.int .i64 3,.int .i64 0,.slice (some ⟨xhr,0,none⟩) 2 2] 40)
   replace hr:=Lib.hid ((hbv.block _ (Array.getElem?_eq_some_iff.1 hr.out).1).trans hr.out)
   rw [←hW,←hx]
   replace hE:=Lib.hid hE2
   replace hn:=Lib.hid hn
   replace hx:=Lib.hid hx
   replace hW:=Lib.hid hW
   refine hK.out _ _ (hS.out _ hE.out) (fun hHeld=>?_)
   clear hE2 hx hW hbv
   (clear hK K)
   (try simp only [Act.put,List.setIfInBounds_toArray,List.set_cons_zero,List.set_cons_succ])
   refine wpAnyH_ready (rs:=[13]) (by kernel_rfl) (by simp) ?_
   refine consL rfl (fun K hK=>?_)
   (rw [if_pos (by rfl)])
   go_simp
   (go_at_call 32);refine (netn_any 3 _ _ _ _).mono ?_;rintro e wv ⟨rfl,hxv⟩
   have hC:=slC_ex3 ((hxv.below.block _ (Array.getElem?_eq_some_iff.1 hn.out).1).trans hn.out) (slI_of2 ((hxv.below.block _ (Array.getElem?_eq_some_iff.1 hr.out).1).trans hr.out))
   replace hE:=Lib.hid (hE.out.trans hxv)
   refine hK.out _ _ (hS.out _ hE.out) (fun hHeld=>?_)
   clear hxv hr hn
   (clear hK K)
   (try simp only [Act.put,List.setIfInBounds_toArray,List.set_cons_zero,List.set_cons_succ])
   have q:=qA.out _ _ hE.out hC
   refine wpAnyH_ready (rs:=[14]) (by kernel_rfl) (by simp) ?_
   refine consL rfl (fun K hK=>?_)
   (rw [if_pos (by rfl)])
   go_simp
   (go_at_call 15);refine q.mono ?_;rintro e wv ⟨rfl,hxv⟩
   replace hE:=Lib.hid (hE.out.trans hxv)
   refine hK.out _ _ (hS.out _ hE.out) (fun hHeld=>?_)
   clear hxv hC q
   (clear hK K)
   (try simp only [Act.put,List.setIfInBounds_toArray,List.set_cons_zero,List.set_cons_succ])
   (refine takeL (i:=15) (v:=?_) rfl (by kernel_rfl) (by kernel_rfl) (by kernel_rfl) (fun _ _ _ h=>h) (Or.inl ⟨by rfl,?_⟩) (by assumption) ?_)
   rotate_left
   ·(intro w hSw;(try dsimp only at hSw);go_simp;first | done | with_reducible rfl)
   (try simp only [Act.put,List.setIfInBounds_toArray,List.set_cons_zero,List.set_cons_succ])
   (refine takeL (i:=16) (v:=?_) rfl (by kernel_rfl) (by kernel_rfl) (by kernel_rfl) (fun _ _ _ h=>h) (Or.inl ⟨by rfl,?_⟩) (by assumption) ?_)
   rotate_left
   ·(intro w hSw;(try dsimp only at hSw);go_simp;first | done | with_reducible rfl)
   (try simp only [Act.put,List.setIfInBounds_toArray,List.set_cons_zero,List.set_cons_succ])
   skip
   (refine takeL (i:=17) (v:=?_) rfl (by kernel_rfl) (by kernel_rfl) (by kernel_rfl) (fun _ _ _ h=>h) (Or.inl ⟨by rfl,?_⟩) (by assumption) ?_)
   rotate_left
   ·(intro w hSw;(try dsimp only at hSw);go_simp;first | done | with_reducible rfl)
   (try simp only [Act.put,List.setIfInBounds_toArray,List.set_cons_zero,List.set_cons_succ])
   refine wpAnyH_ready (rs:=[18,20]) (by kernel_rfl) (by simp) ?_
   refine consL2 rfl rfl (fun K hK=>?_) (fun K hK=>?_)
   ·(rw [if_pos (by rfl)])
    go_simp
    (go_at_call 33);refine (leaf_any 2 _).mono ?_;rintro e wv ⟨rfl,hxv⟩
    replace hE:=Lib.hid (hE.out.trans hxv)
    refine hK.out _ _ (hS.out _ hE.out) (fun hHeld=>?_)
    clear hxv
    (clear hK K)
    (try simp only [Act.put,List.setIfInBounds_toArray,List.set_cons_zero,List.set_cons_succ])
    refine wpAnyH_ready (rs:=[19,20]) (by kernel_rfl) (by simp) ?_
    refine consL2 rfl rfl (fun K hK=>?_) (fun K hK=>?_)
    ·(rw [if_pos (by rfl)])
     go_simp
     (go_at_call 33);refine (leaf_any 3 _).mono ?_;rintro e wv ⟨rfl,hxv⟩
     replace hE:=Lib.hid (hE.out.trans hxv)
     refine hK.out _ _ (hS.out _ hE.out) (fun hHeld=>?_)
     clear hxv
     (clear hK K)
     (try simp only [Act.put,List.setIfInBounds_toArray,List.set_cons_zero,List.set_cons_succ])
     refine wpAnyH_ready (rs:=[20]) (by kernel_rfl) (by simp) ?_
     refine consL rfl (fun K hK=>?_)
     (rw [if_pos (by rfl)])
     go_simp
     obtain ⟨xhr,wv,hx,hW,hE2,hr,hbv⟩:=extAllocE hE.out (.cells #[.int .i64 0,.int .i64 1] 3)
     rw [←hW,←hx]
     replace hE:=Lib.hid hE2
     replace hr:=Lib.hid hr
     replace hx:=Lib.hid hx
     replace hW:=Lib.hid hW
     refine hK.out _ _ (hS.out _ hE.out) (fun hHeld=>?_)
     clear hE2 hx hW hbv
     (clear hK K)
     (try simp only [Act.put,List.setIfInBounds_toArray,List.set_cons_zero,List.set_cons_succ])
     refine wpAnyH_ready (rs:=[21]) (by kernel_rfl) (by simp) ?_
     refine consL rfl (fun K hK=>?_)
     (rw [if_pos (by rfl)])
     go_simp
     (go_at_call 34);refine (ofn_any 4 _ _ _ _).mono ?_;rintro e wv ⟨rfl,hxv⟩
     replace hr:=Lib.hid ((hxv.below.block _ (Array.getElem?_eq_some_iff.1 hr.out).1).trans hr.out)
     replace hE:=Lib.hid (hE.out.trans hxv)
     refine hK.out _ _ (hS.out _ hE.out) (fun hHeld=>?_)
     clear hxv
     (clear hK K)
     (try simp only [Act.put,List.setIfInBounds_toArray,List.set_cons_zero,List.set_cons_succ])
     refine wpAnyH_ready (rs:=[22]) (by kernel_rfl) (by simp) ?_
     refine consL rfl (fun K hK=>?_)
     (rw [if_pos (by rfl)])
     go_simp
     obtain ⟨xhn,wv,hx,hW,hE2,hn,hbv⟩:=extAllocE hE.out (.cells #[.int .i64 2,.int .i64 2,.slice none 0 0,.int .i64 2,.int .i64 3,.slice none 0 0,.int .i64 4,.int .i64 0,.slice (some ⟨xhr,0,none⟩) 2 2] 40)
     replace hr:=Lib.hid ((hbv.block _ (Array.getElem?_eq_some_iff.1 hr.out).1).trans hr.out)
     rw [←hW,←hx]
     replace hE:=Lib.hid hE2
     replace hn:=Lib.hid hn
     replace hx:=Lib.hid hx
     replace hW:=Lib.hid hW
     refine hK.out _ _ (hS.out _ hE.out) (fun hHeld=>?_)
     clear hE2 hx hW hbv
     (clear hK K)
     (try simp only [Act.put,List.setIfInBounds_toArray,List.set_cons_zero,List.set_cons_succ])
     refine wpAnyH_ready (rs:=[23]) (by kernel_rfl) (by simp) ?_
     refine consL rfl (fun K hK=>?_)
     (rw [if_pos (by rfl)])
     go_simp
     (go_at_call 32);refine (netn_any 3 _ _ _ _).mono ?_;rintro e wv ⟨rfl,hxv⟩
     have hC:=slC_ex3 ((hxv.below.block _ (Array.getElem?_eq_some_iff.1 hn.out).1).trans hn.out) (slI_of2 ((hxv.below.block _ (Array.getElem?_eq_some_iff.1 hr.out).1).trans hr.out))
     replace hE:=Lib.hid (hE.out.trans hxv)
     refine hK.out _ _ (hS.out _ hE.out) (fun hHeld=>?_)
     clear hxv hr hn
     (clear hK K)
     (try simp only [Act.put,List.setIfInBounds_toArray,List.set_cons_zero,List.set_cons_succ])
     have q:=qB.out _ _ hE.out hC
     refine wpAnyH_ready (rs:=[24]) (by kernel_rfl) (by simp) ?_
     refine consL rfl (fun K hK=>?_)
     (rw [if_pos (by rfl)])
     go_simp
     (go_at_call 15);refine q.mono ?_;rintro e wv ⟨rfl,hxv⟩
     replace hE:=Lib.hid (hE.out.trans hxv)
     refine hK.out _ _ (hS.out _ hE.out) (fun hHeld=>?_)
     clear hxv hC q
     (clear hK K)
     (try simp only [Act.put,List.setIfInBounds_toArray,List.set_cons_zero,List.set_cons_succ])
     (refine takeL (i:=25) (v:=?_) rfl (by kernel_rfl) (by kernel_rfl) (by kernel_rfl) (fun _ _ _ h=>h) (Or.inl ⟨by rfl,?_⟩) (by assumption) ?_)
     rotate_left
     ·(intro w hSw;(try dsimp only at hSw);go_simp;first | done | with_reducible rfl)
     (try simp only [Act.put,List.setIfInBounds_toArray,List.set_cons_zero,List.set_cons_succ])
     (refine takeL (i:=26) (v:=?_) rfl (by kernel_rfl) (by kernel_rfl) (by kernel_rfl) (fun _ _ _ h=>h) (Or.inl ⟨by rfl,?_⟩) (by assumption) ?_)
     rotate_left
     ·(intro w hSw;(try dsimp only at hSw);go_simp;first | done | with_reducible rfl)
     (try simp only [Act.put,List.setIfInBounds_toArray,List.set_cons_zero,List.set_cons_succ])
     (refine wpAnyH_done (by kernel_rfl) ?_ _)
     clear hHeld
     go_wp2_with fail
     go_ret
     exact ⟨rfl,hBw.out.trans (hE.out.below.mono hBw.out.size)⟩
    ·(rw [if_pos (by rfl)])
     go_simp
     obtain ⟨xhr,wv,hx,hW,hE2,hr,hbv⟩:=extAllocE hE.out (.cells #[.int .i64 0,.int .i64 1] 3)
     rw [←hW,←hx]
     replace hE:=Lib.hid hE2
     replace hr:=Lib.hid hr
     replace hx:=Lib.hid hx
     replace hW:=Lib.hid hW
     refine hK.out _ _ (hS.out _ hE.out) (fun hHeld=>?_)
     clear hE2 hx hW hbv
     (clear hK K)
     (try simp only [Act.put,List.setIfInBounds_toArray,List.set_cons_zero,List.set_cons_succ])
     refine wpAnyH_ready (rs:=[19]) (by kernel_rfl) (by simp) ?_
     refine consL rfl (fun K hK=>?_)
     (rw [if_pos (by rfl)])
     go_simp
     (go_at_call 33);refine (leaf_any 3 _).mono ?_;rintro e wv ⟨rfl,hxv⟩
     replace hr:=Lib.hid ((hxv.below.block _ (Array.getElem?_eq_some_iff.1 hr.out).1).trans hr.out)
     replace hE:=Lib.hid (hE.out.trans hxv)
     refine hK.out _ _ (hS.out _ hE.out) (fun hHeld=>?_)
     clear hxv
     (clear hK K)
     (try simp only [Act.put,List.setIfInBounds_toArray,List.set_cons_zero,List.set_cons_succ])
     refine wpAnyH_ready (rs:=[21]) (by kernel_rfl) (by simp) ?_
     refine consL rfl (fun K hK=>?_)
     (rw [if_pos (by rfl)])
     go_simp
     (go_at_call 34);refine (ofn_any 4 _ _ _ _).mono ?_;rintro e wv ⟨rfl,hxv⟩
     replace hr:=Lib.hid ((hxv.below.block _ (Array.getElem?_eq_some_iff.1 hr.out).1).trans hr.out)
     replace hE:=Lib.hid (hE.out.trans hxv)
     refine hK.out _ _ (hS.out _ hE.out) (fun hHeld=>?_)
     clear hxv
     (clear hK K)
     (try simp only [Act.put,List.setIfInBounds_toArray,List.set_cons_zero,List.set_cons_succ])
     refine wpAnyH_ready (rs:=[22]) (by kernel_rfl) (by simp) ?_
     refine consL rfl (fun K hK=>?_)
     (rw [if_pos (by rfl)])
     go_simp
     obtain ⟨xhn,wv,hx,hW,hE2,hn,hbv⟩:=extAllocE hE.out (.cells #[.int .i64 2,.int .i64 2,.slice none 0 0,.int .i64 2,.int .i64 3,.slice none 0 0,.int .i64 4,.int .i64 0,.slice (some ⟨xhr,0,none⟩) 2 2] 40)
     replace hr:=Lib.hid ((hbv.block _ (Array.getElem?_eq_some_iff.1 hr.out).1).trans hr.out)
     rw [←hW,←hx]
     replace hE:=Lib.hid hE2
     replace hn:=Lib.hid hn
     replace hx:=Lib.hid hx
     replace hW:=Lib.hid hW
     refine hK.out _ _ (hS.out _ hE.out) (fun hHeld=>?_)
     clear hE2 hx hW hbv
     (clear hK K)
     (try simp only [Act.put,List.setIfInBounds_toArray,List.set_cons_zero,List.set_cons_succ])
     refine wpAnyH_ready (rs:=[23]) (by kernel_rfl) (by simp) ?_
     refine consL rfl (fun K hK=>?_)
     (rw [if_pos (by rfl)])
     go_simp
     (go_at_call 32);refine (netn_any 3 _ _ _ _).mono ?_;rintro e wv ⟨rfl,hxv⟩
     have hC:=slC_ex3 ((hxv.below.block _ (Array.getElem?_eq_some_iff.1 hn.out).1).trans hn.out) (slI_of2 ((hxv.below.block _ (Array.getElem?_eq_some_iff.1 hr.out).1).trans hr.out))
     replace hE:=Lib.hid (hE.out.trans hxv)
     refine hK.out _ _ (hS.out _ hE.out) (fun hHeld=>?_)
     clear hxv hr hn
     (clear hK K)
     (try simp only [Act.put,List.setIfInBounds_toArray,List.set_cons_zero,List.set_cons_succ])
     have q:=qB.out _ _ hE.out hC
     refine wpAnyH_ready (rs:=[24]) (by kernel_rfl) (by simp) ?_
     refine consL rfl (fun K hK=>?_)
     (rw [if_pos (by rfl)])
     go_simp
     (go_at_call 15);refine q.mono ?_;rintro e wv ⟨rfl,hxv⟩
     replace hE:=Lib.hid (hE.out.trans hxv)
     refine hK.out _ _ (hS.out _ hE.out) (fun hHeld=>?_)
     clear hxv hC q
     (clear hK K)
     (try simp only [Act.put,List.setIfInBounds_toArray,List.set_cons_zero,List.set_cons_succ])
     (refine takeL (i:=25) (v:=?_) rfl (by kernel_rfl) (by kernel_rfl) (by kernel_rfl) (fun _ _ _ h=>h) (Or.inl ⟨by rfl,?_⟩) (by assumption) ?_)
     rotate_left
     ·(intro w hSw;(try dsimp only at hSw);go_simp;first | done | with_reducible rfl)
     (try simp only [Act.put,List.setIfInBounds_toArray,List.set_cons_zero,List.set_cons_succ])
     (refine takeL (i:=26) (v:=?_) rfl (by kernel_rfl) (by kernel_rfl) (by kernel_rfl) (fun _ _ _ h=>h) (Or.inl ⟨by rfl,?_⟩) (by assumption) ?_)
     rotate_left
     ·(intro w hSw;(try dsimp only at hSw);go_simp;first | done | with_reducible rfl)
     (try simp only [Act.put,List.setIfInBounds_toArray,List.set_cons_zero,List.set_cons_succ])
     (refine wpAnyH_done (by kernel_rfl) ?_ _)
     clear hHeld
     go_wp2_with fail
     go_ret
     exact ⟨rfl,hBw.out.trans (hE.out.below.mono hBw.out.size)⟩
   ·(rw [if_pos (by rfl)])
    go_simp
    obtain ⟨xhr,wv,hx,hW,hE2,hr,hbv⟩:=extAllocE hE.out (.cells #[.int .i64 0,.int .i64 1] 3)
    rw [←hW,←hx]
    replace hE:=Lib.hid hE2
    replace hr:=Lib.hid hr
    replace hx:=Lib.hid hx
    replace hW:=Lib.hid hW
    refine hK.out _ _ (hS.out _ hE.out) (fun hHeld=>?_)
    clear hE2 hx hW hbv
    (clear hK K)
    (try simp only [Act.put,List.setIfInBounds_toArray,List.set_cons_zero,List.set_cons_succ])
    refine wpAnyH_ready (rs:=[18]) (by kernel_rfl) (by simp) ?_
    refine consL rfl (fun K hK=>?_)
    (rw [if_pos (by rfl)])
    go_simp
    (go_at_call 33);refine (leaf_any 2 _).mono ?_;rintro e wv ⟨rfl,hxv⟩
    replace hr:=Lib.hid ((hxv.below.block _ (Array.getElem?_eq_some_iff.1 hr.out).1).trans hr.out)
    replace hE:=Lib.hid (hE.out.trans hxv)
    refine hK.out _ _ (hS.out _ hE.out) (fun hHeld=>?_)
    clear hxv
    (clear hK K)
    (try simp only [Act.put,List.setIfInBounds_toArray,List.set_cons_zero,List.set_cons_succ])
    refine wpAnyH_ready (rs:=[19]) (by kernel_rfl) (by simp) ?_
    refine consL rfl (fun K hK=>?_)
    (rw [if_pos (by rfl)])
    go_simp
    (go_at_call 33);refine (leaf_any 3 _).mono ?_;rintro e wv ⟨rfl,hxv⟩
    replace hr:=Lib.hid ((hxv.below.block _ (Array.getElem?_eq_some_iff.1 hr.out).1).trans hr.out)
    replace hE:=Lib.hid (hE.out.trans hxv)
    refine hK.out _ _ (hS.out _ hE.out) (fun hHeld=>?_)
    clear hxv
    (clear hK K)
    (try simp only [Act.put,List.setIfInBounds_toArray,List.set_cons_zero,List.set_cons_succ])
    refine wpAnyH_ready (rs:=[21]) (by kernel_rfl) (by simp) ?_
    refine consL rfl (fun K hK=>?_)
    (rw [if_pos (by rfl)])
    go_simp
    (go_at_call 34);refine (ofn_any 4 _ _ _ _).mono ?_;rintro e wv ⟨rfl,hxv⟩
    replace hr:=Lib.hid ((hxv.below.block _ (Array.getElem?_eq_some_iff.1 hr.out).1).trans hr.out)
    replace hE:=Lib.hid (hE.out.trans hxv)
    refine hK.out _ _ (hS.out _ hE.out) (fun hHeld=>?_)
    clear hxv
    (clear hK K)
    (try simp only [Act.put,List.setIfInBounds_toArray,List.set_cons_zero,List.set_cons_succ])
    refine wpAnyH_ready (rs:=[22]) (by kernel_rfl) (by simp) ?_
    refine consL rfl (fun K hK=>?_)
    (rw [if_pos (by rfl)])
    go_simp
    obtain ⟨xhn,wv,hx,hW,hE2,hn,hbv⟩:=extAllocE hE.out (.cells #[.int .i64 2,.int .i64 2,.slice none 0 0,.int .i64 2,.int .i64 3,.slice none 0 0,.int .i64 4,.int .i64 0,.slice (some ⟨xhr,0,none⟩) 2 2] 40)
    replace hr:=Lib.hid ((hbv.block _ (Array.getElem?_eq_some_iff.1 hr.out).1).trans hr.out)
    rw [←hW,←hx]
    replace hE:=Lib.hid hE2
    replace hn:=Lib.hid hn
    replace hx:=Lib.hid hx
    replace hW:=Lib.hid hW
    refine hK.out _ _ (hS.out _ hE.out) (fun hHeld=>?_)
    clear hE2 hx hW hbv
    (clear hK K)
    (try simp only [Act.put,List.setIfInBounds_toArray,List.set_cons_zero,List.set_cons_succ])
    refine wpAnyH_ready (rs:=[23]) (by kernel_rfl) (by simp) ?_
    refine consL rfl (fun K hK=>?_)
    (rw [if_pos (by rfl)])
    go_simp
    (go_at_call 32);refine (netn_any 3 _ _ _ _).mono ?_;rintro e wv ⟨rfl,hxv⟩
    have hC:=slC_ex3 ((hxv.below.block _ (Array.getElem?_eq_some_iff.1 hn.out).1).trans hn.out) (slI_of2 ((hxv.below.block _ (Array.getElem?_eq_some_iff.1 hr.out).1).trans hr.out))
    replace hE:=Lib.hid (hE.out.trans hxv)
    refine hK.out _ _ (hS.out _ hE.out) (fun hHeld=>?_)
    clear hxv hr hn
    (clear hK K)
    (try simp only [Act.put,List.setIfInBounds_toArray,List.set_cons_zero,List.set_cons_succ])
    have q:=qB.out _ _ hE.out hC
    refine wpAnyH_ready (rs:=[24]) (by kernel_rfl) (by simp) ?_
    refine consL rfl (fun K hK=>?_)
    (rw [if_pos (by rfl)])
    go_simp
    (go_at_call 15);refine q.mono ?_;rintro e wv ⟨rfl,hxv⟩
    replace hE:=Lib.hid (hE.out.trans hxv)
    refine hK.out _ _ (hS.out _ hE.out) (fun hHeld=>?_)
    clear hxv hC q
    (clear hK K)
    (try simp only [Act.put,List.setIfInBounds_toArray,List.set_cons_zero,List.set_cons_succ])
    (refine takeL (i:=25) (v:=?_) rfl (by kernel_rfl) (by kernel_rfl) (by kernel_rfl) (fun _ _ _ h=>h) (Or.inl ⟨by rfl,?_⟩) (by assumption) ?_)
    rotate_left
    ·(intro w hSw;(try dsimp only at hSw);go_simp;first | done | with_reducible rfl)
    (try simp only [Act.put,List.setIfInBounds_toArray,List.set_cons_zero,List.set_cons_succ])
    (refine takeL (i:=26) (v:=?_) rfl (by kernel_rfl) (by kernel_rfl) (by kernel_rfl) (fun _ _ _ h=>h) (Or.inl ⟨by rfl,?_⟩) (by assumption) ?_)
    rotate_left
    ·(intro w hSw;(try dsimp only at hSw);go_simp;first | done | with_reducible rfl)
    (try simp only [Act.put,List.setIfInBounds_toArray,List.set_cons_zero,List.set_cons_succ])
    (refine wpAnyH_done (by kernel_rfl) ?_ _)
    clear hHeld
    go_wp2_with fail
    go_ret
    exact ⟨rfl,hBw.out.trans (hE.out.below.mono hBw.out.size)⟩
  ·(rw [if_pos (by rfl)])
   go_simp
   obtain ⟨xhr,wv,hx,hW,hE2,hr,hbv⟩:=extAllocE hE.out (.cells #[.int .i64 0,.int .i64 1] 3)
   rw [←hW,←hx]
   replace hE:=Lib.hid hE2
   replace hr:=Lib.hid hr
   replace hx:=Lib.hid hx
   replace hW:=Lib.hid hW
   refine hK.out _ _ (hS.out _ hE.out) (fun hHeld=>?_)
   clear hE2 hx hW hbv
   (clear hK K)
   (try simp only [Act.put,List.setIfInBounds_toArray,List.set_cons_zero,List.set_cons_succ])
   refine wpAnyH_ready (rs:=[9]) (by kernel_rfl) (by simp) ?_
   refine consL rfl (fun K hK=>?_)
   (rw [if_pos (by rfl)])
   go_simp
   (go_at_call 33);refine (leaf_any 3 _).mono ?_;rintro e wv ⟨rfl,hxv⟩
   replace hr:=Lib.hid ((hxv.below.block _ (Array.getElem?_eq_some_iff.1 hr.out).1).trans hr.out)
   replace hE:=Lib.hid (hE.out.trans hxv)
   refine hK.out _ _ (hS.out _ hE.out) (fun hHeld=>?_)
   clear hxv
   (clear hK K)
   (try simp only [Act.put,List.setIfInBounds_toArray,List.set_cons_zero,List.set_cons_succ])
   refine wpAnyH_ready (rs:=[11]) (by kernel_rfl) (by simp) ?_
   refine consL rfl (fun K hK=>?_)
   (rw [if_pos (by rfl)])
   go_simp
   (go_at_call 34);refine (ofn_any 3 _ _ _ _).mono ?_;rintro e wv ⟨rfl,hxv⟩
   replace hr:=Lib.hid ((hxv.below.block _ (Array.getElem?_eq_some_iff.1 hr.out).1).trans hr.out)
   replace hE:=Lib.hid (hE.out.trans hxv)
   refine hK.out _ _ (hS.out _ hE.out) (fun hHeld=>?_)
   clear hxv
   (clear hK K)
   (try simp only [Act.put,List.setIfInBounds_toArray,List.set_cons_zero,List.set_cons_succ])
   refine wpAnyH_ready (rs:=[12]) (by kernel_rfl) (by simp) ?_
   refine consL rfl (fun K hK=>?_)
   (rw [if_pos (by rfl)])
   go_simp
   obtain ⟨xhn,wv,hx,hW,hE2,hn,hbv⟩:=extAllocE hE.out (.cells #[.int .i64 2,.int .i64 1,.slice none 0 0,.int .i64 2,.int .i64 3,.slice none 0 0,.int .i64 3,.int .i64 0,.slice (some ⟨xhr,0,none⟩) 2 2] 40)
   replace hr:=Lib.hid ((hbv.block _ (Array.getElem?_eq_some_iff.1 hr.out).1).trans hr.out)
   rw [←hW,←hx]
   replace hE:=Lib.hid hE2
   replace hn:=Lib.hid hn
   replace hx:=Lib.hid hx
   replace hW:=Lib.hid hW
   refine hK.out _ _ (hS.out _ hE.out) (fun hHeld=>?_)
   clear hE2 hx hW hbv
   (clear hK K)
   (try simp only [Act.put,List.setIfInBounds_toArray,List.set_cons_zero,List.set_cons_succ])
   refine wpAnyH_ready (rs:=[13]) (by kernel_rfl) (by simp) ?_
   refine consL rfl (fun K hK=>?_)
   (rw [if_pos (by rfl)])
   go_simp
   (go_at_call 32);refine (netn_any 3 _ _ _ _).mono ?_;rintro e wv ⟨rfl,hxv⟩
   have hC:=slC_ex3 ((hxv.below.block _ (Array.getElem?_eq_some_iff.1 hn.out).1).trans hn.out) (slI_of2 ((hxv.below.block _ (Array.getElem?_eq_some_iff.1 hr.out).1).trans hr.out))
   replace hE:=Lib.hid (hE.out.trans hxv)
   refine hK.out _ _ (hS.out _ hE.out) (fun hHeld=>?_)
   clear hxv hr hn
   (clear hK K)
   (try simp only [Act.put,List.setIfInBounds_toArray,List.set_cons_zero,List.set_cons_succ])
   have q:=qA.out _ _ hE.out hC
   refine wpAnyH_ready (rs:=[14]) (by kernel_rfl) (by simp) ?_
   refine consL rfl (fun K hK=>?_)
   (rw [if_pos (by rfl)])
   go_simp
   (go_at_call 15);refine q.mono ?_;rintro e wv ⟨rfl,hxv⟩
   replace hE:=Lib.hid (hE.out.trans hxv)
   refine hK.out _ _ (hS.out _ hE.out) (fun hHeld=>?_)
   clear hxv hC q
   (clear hK K)
   (try simp only [Act.put,List.setIfInBounds_toArray,List.set_cons_zero,List.set_cons_succ])
   (refine takeL (i:=15) (v:=?_) rfl (by kernel_rfl) (by kernel_rfl) (by kernel_rfl) (fun _ _ _ h=>h) (Or.inl ⟨by rfl,?_⟩) (by assumption) ?_)
   rotate_left
   ·(intro w hSw;(try dsimp only at hSw);go_simp;first | done | with_reducible rfl)
   (try simp only [Act.put,List.setIfInBounds_toArray,List.set_cons_zero,List.set_cons_succ])
   (refine takeL (i:=16) (v:=?_) rfl (by kernel_rfl) (by kernel_rfl) (by kernel_rfl) (fun _ _ _ h=>h) (Or.inl ⟨by rfl,?_⟩) (by assumption) ?_)
   rotate_left
   ·(intro w hSw;(try dsimp only at hSw);go_simp;first | done | with_reducible rfl)
   (try simp only [Act.put,List.setIfInBounds_toArray,List.set_cons_zero,List.set_cons_succ])
   skip
   (refine takeL (i:=17) (v:=?_) rfl (by kernel_rfl) (by kernel_rfl) (by kernel_rfl) (fun _ _ _ h=>h) (Or.inl ⟨by rfl,?_⟩) (by assumption) ?_)
   rotate_left
   ·(intro w hSw;(try dsimp only at hSw);go_simp;first | done | with_reducible rfl)
   (try simp only [Act.put,List.setIfInBounds_toArray,List.set_cons_zero,List.set_cons_succ])
   refine wpAnyH_ready (rs:=[18,20]) (by kernel_rfl) (by simp) ?_
   refine consL2 rfl rfl (fun K hK=>?_) (fun K hK=>?_)
   ·(rw [if_pos (by rfl)])
    go_simp
    (go_at_call 33);refine (leaf_any 2 _).mono ?_;rintro e wv ⟨rfl,hxv⟩
    replace hE:=Lib.hid (hE.out.trans hxv)
    refine hK.out _ _ (hS.out _ hE.out) (fun hHeld=>?_)
    clear hxv
    (clear hK K)
    (try simp only [Act.put,List.setIfInBounds_toArray,List.set_cons_zero,List.set_cons_succ])
    refine wpAnyH_ready (rs:=[19,20]) (by kernel_rfl) (by simp) ?_
    refine consL2 rfl rfl (fun K hK=>?_) (fun K hK=>?_)
    ·(rw [if_pos (by rfl)])
     go_simp
     (go_at_call 33);refine (leaf_any 3 _).mono ?_;rintro e wv ⟨rfl,hxv⟩
     replace hE:=Lib.hid (hE.out.trans hxv)
     refine hK.out _ _ (hS.out _ hE.out) (fun hHeld=>?_)
     clear hxv
     (clear hK K)
     (try simp only [Act.put,List.setIfInBounds_toArray,List.set_cons_zero,List.set_cons_succ])
     refine wpAnyH_ready (rs:=[20]) (by kernel_rfl) (by simp) ?_
     refine consL rfl (fun K hK=>?_)
     (rw [if_pos (by rfl)])
     go_simp
     obtain ⟨xhr,wv,hx,hW,hE2,hr,hbv⟩:=extAllocE hE.out (.cells #[.int .i64 0,.int .i64 1] 3)
     rw [←hW,←hx]
     replace hE:=Lib.hid hE2
     replace hr:=Lib.hid hr
     replace hx:=Lib.hid hx
     replace hW:=Lib.hid hW
     refine hK.out _ _ (hS.out _ hE.out) (fun hHeld=>?_)
     clear hE2 hx hW hbv
     (clear hK K)
     (try simp only [Act.put,List.setIfInBounds_toArray,List.set_cons_zero,List.set_cons_succ])
     refine wpAnyH_ready (rs:=[21]) (by kernel_rfl) (by simp) ?_
     refine consL rfl (fun K hK=>?_)
     (rw [if_pos (by rfl)])
     go_simp
     (go_at_call 34);refine (ofn_any 4 _ _ _ _).mono ?_;rintro e wv ⟨rfl,hxv⟩
     replace hr:=Lib.hid ((hxv.below.block _ (Array.getElem?_eq_some_iff.1 hr.out).1).trans hr.out)
     replace hE:=Lib.hid (hE.out.trans hxv)
     refine hK.out _ _ (hS.out _ hE.out) (fun hHeld=>?_)
     clear hxv
     (clear hK K)
     (try simp only [Act.put,List.setIfInBounds_toArray,List.set_cons_zero,List.set_cons_succ])
     refine wpAnyH_ready (rs:=[22]) (by kernel_rfl) (by simp) ?_
     refine consL rfl (fun K hK=>?_)
     (rw [if_pos (by rfl)])
     go_simp
     obtain ⟨xhn,wv,hx,hW,hE2,hn,hbv⟩:=extAllocE hE.out (.cells #[.int .i64 2,.int .i64 2,.slice none 0 0,.int .i64 2,.int .i64 3,.slice none 0 0,.int .i64 4,.int .i64 0,.slice (some ⟨xhr,0,none⟩) 2 2] 40)
     replace hr:=Lib.hid ((hbv.block _ (Array.getElem?_eq_some_iff.1 hr.out).1).trans hr.out)
     rw [←hW,←hx]
     replace hE:=Lib.hid hE2
     replace hn:=Lib.hid hn
     replace hx:=Lib.hid hx
     replace hW:=Lib.hid hW
     refine hK.out _ _ (hS.out _ hE.out) (fun hHeld=>?_)
     clear hE2 hx hW hbv
     (clear hK K)
     (try simp only [Act.put,List.setIfInBounds_toArray,List.set_cons_zero,List.set_cons_succ])
     refine wpAnyH_ready (rs:=[23]) (by kernel_rfl) (by simp) ?_
     refine consL rfl (fun K hK=>?_)
     (rw [if_pos (by rfl)])
     go_simp
     (go_at_call 32);refine (netn_any 3 _ _ _ _).mono ?_;rintro e wv ⟨rfl,hxv⟩
     have hC:=slC_ex3 ((hxv.below.block _ (Array.getElem?_eq_some_iff.1 hn.out).1).trans hn.out) (slI_of2 ((hxv.below.block _ (Array.getElem?_eq_some_iff.1 hr.out).1).trans hr.out))
     replace hE:=Lib.hid (hE.out.trans hxv)
     refine hK.out _ _ (hS.out _ hE.out) (fun hHeld=>?_)
     clear hxv hr hn
     (clear hK K)
     (try simp only [Act.put,List.setIfInBounds_toArray,List.set_cons_zero,List.set_cons_succ])
     have q:=qB.out _ _ hE.out hC
     refine wpAnyH_ready (rs:=[24]) (by kernel_rfl) (by simp) ?_
     refine consL rfl (fun K hK=>?_)
     (rw [if_pos (by rfl)])
     go_simp
     (go_at_call 15);refine q.mono ?_;rintro e wv ⟨rfl,hxv⟩
     replace hE:=Lib.hid (hE.out.trans hxv)
     refine hK.out _ _ (hS.out _ hE.out) (fun hHeld=>?_)
     clear hxv hC q
     (clear hK K)
     (try simp only [Act.put,List.setIfInBounds_toArray,List.set_cons_zero,List.set_cons_succ])
     (refine takeL (i:=25) (v:=?_) rfl (by kernel_rfl) (by kernel_rfl) (by kernel_rfl) (fun _ _ _ h=>h) (Or.inl ⟨by rfl,?_⟩) (by assumption) ?_)
     rotate_left
     ·(intro w hSw;(try dsimp only at hSw);go_simp;first | done | with_reducible rfl)
     (try simp only [Act.put,List.setIfInBounds_toArray,List.set_cons_zero,List.set_cons_succ])
     (refine takeL (i:=26) (v:=?_) rfl (by kernel_rfl) (by kernel_rfl) (by kernel_rfl) (fun _ _ _ h=>h) (Or.inl ⟨by rfl,?_⟩) (by assumption) ?_)
     rotate_left
     ·(intro w hSw;(try dsimp only at hSw);go_simp;first | done | with_reducible rfl)
     (try simp only [Act.put,List.setIfInBounds_toArray,List.set_cons_zero,List.set_cons_succ])
     (refine wpAnyH_done (by kernel_rfl) ?_ _)
     clear hHeld
     go_wp2_with fail
     go_ret
     exact ⟨rfl,hBw.out.trans (hE.out.below.mono hBw.out.size)⟩
    ·(rw [if_pos (by rfl)])
     go_simp
     obtain ⟨xhr,wv,hx,hW,hE2,hr,hbv⟩:=extAllocE hE.out (.cells #[.int .i64 0,.int .i64 1] 3)
     rw [←hW,←hx]
     replace hE:=Lib.hid hE2
     replace hr:=Lib.hid hr
     replace hx:=Lib.hid hx
     replace hW:=Lib.hid hW
     refine hK.out _ _ (hS.out _ hE.out) (fun hHeld=>?_)
     clear hE2 hx hW hbv
     (clear hK K)
     (try simp only [Act.put,List.setIfInBounds_toArray,List.set_cons_zero,List.set_cons_succ])
     refine wpAnyH_ready (rs:=[19]) (by kernel_rfl) (by simp) ?_
     refine consL rfl (fun K hK=>?_)
     (rw [if_pos (by rfl)])
     go_simp
     (go_at_call 33);refine (leaf_any 3 _).mono ?_;rintro e wv ⟨rfl,hxv⟩
     replace hr:=Lib.hid ((hxv.below.block _ (Array.getElem?_eq_some_iff.1 hr.out).1).trans hr.out)
     replace hE:=Lib.hid (hE.out.trans hxv)
     refine hK.out _ _ (hS.out _ hE.out) (fun hHeld=>?_)
     clear hxv
     (clear hK K)
     (try simp only [Act.put,List.setIfInBounds_toArray,List.set_cons_zero,List.set_cons_succ])
     refine wpAnyH_ready (rs:=[21]) (by kernel_rfl) (by simp) ?_
     refine consL rfl (fun K hK=>?_)
     (rw [if_pos (by rfl)])
     go_simp
     (go_at_call 34);refine (ofn_any 4 _ _ _ _).mono ?_;rintro e wv ⟨rfl,hxv⟩
     replace hr:=Lib.hid ((hxv.below.block _ (Array.getElem?_eq_some_iff.1 hr.out).1).trans hr.out)
     replace hE:=Lib.hid (hE.out.trans hxv)
     refine hK.out _ _ (hS.out _ hE.out) (fun hHeld=>?_)
     clear hxv
     (clear hK K)
     (try simp only [Act.put,List.setIfInBounds_toArray,List.set_cons_zero,List.set_cons_succ])
     refine wpAnyH_ready (rs:=[22]) (by kernel_rfl) (by simp) ?_
     refine consL rfl (fun K hK=>?_)
     (rw [if_pos (by rfl)])
     go_simp
     obtain ⟨xhn,wv,hx,hW,hE2,hn,hbv⟩:=extAllocE hE.out (.cells #[.int .i64 2,.int .i64 2,.slice none 0 0,.int .i64 2,.int .i64 3,.slice none 0 0,.int .i64 4,.int .i64 0,.slice (some ⟨xhr,0,none⟩) 2 2] 40)
     replace hr:=Lib.hid ((hbv.block _ (Array.getElem?_eq_some_iff.1 hr.out).1).trans hr.out)
     rw [←hW,←hx]
     replace hE:=Lib.hid hE2
     replace hn:=Lib.hid hn
     replace hx:=Lib.hid hx
     replace hW:=Lib.hid hW
     refine hK.out _ _ (hS.out _ hE.out) (fun hHeld=>?_)
     clear hE2 hx hW hbv
     (clear hK K)
     (try simp only [Act.put,List.setIfInBounds_toArray,List.set_cons_zero,List.set_cons_succ])
     refine wpAnyH_ready (rs:=[23]) (by kernel_rfl) (by simp) ?_
     refine consL rfl (fun K hK=>?_)
     (rw [if_pos (by rfl)])
     go_simp
     (go_at_call 32);refine (netn_any 3 _ _ _ _).mono ?_;rintro e wv ⟨rfl,hxv⟩
     have hC:=slC_ex3 ((hxv.below.block _ (Array.getElem?_eq_some_iff.1 hn.out).1).trans hn.out) (slI_of2 ((hxv.below.block _ (Array.getElem?_eq_some_iff.1 hr.out).1).trans hr.out))
     replace hE:=Lib.hid (hE.out.trans hxv)
     refine hK.out _ _ (hS.out _ hE.out) (fun hHeld=>?_)
     clear hxv hr hn
     (clear hK K)
     (try simp only [Act.put,List.setIfInBounds_toArray,List.set_cons_zero,List.set_cons_succ])
     have q:=qB.out _ _ hE.out hC
     refine wpAnyH_ready (rs:=[24]) (by kernel_rfl) (by simp) ?_
     refine consL rfl (fun K hK=>?_)
     (rw [if_pos (by rfl)])
     go_simp
     (go_at_call 15);refine q.mono ?_;rintro e wv ⟨rfl,hxv⟩
     replace hE:=Lib.hid (hE.out.trans hxv)
     refine hK.out _ _ (hS.out _ hE.out) (fun hHeld=>?_)
     clear hxv hC q
     (clear hK K)
     (try simp only [Act.put,List.setIfInBounds_toArray,List.set_cons_zero,List.set_cons_succ])
     (refine takeL (i:=25) (v:=?_) rfl (by kernel_rfl) (by kernel_rfl) (by kernel_rfl) (fun _ _ _ h=>h) (Or.inl ⟨by rfl,?_⟩) (by assumption) ?_)
     rotate_left
     ·(intro w hSw;(try dsimp only at hSw);go_simp;first | done | with_reducible rfl)
     (try simp only [Act.put,List.setIfInBounds_toArray,List.set_cons_zero,List.set_cons_succ])
     (refine takeL (i:=26) (v:=?_) rfl (by kernel_rfl) (by kernel_rfl) (by kernel_rfl) (fun _ _ _ h=>h) (Or.inl ⟨by rfl,?_⟩) (by assumption) ?_)
     rotate_left
     ·(intro w hSw;(try dsimp only at hSw);go_simp;first | done | with_reducible rfl)
     (try simp only [Act.put,List.setIfInBounds_toArray,List.set_cons_zero,List.set_cons_succ])
     (refine wpAnyH_done (by kernel_rfl) ?_ _)
     clear hHeld
     go_wp2_with fail
     go_ret
     exact ⟨rfl,hBw.out.trans (hE.out.below.mono hBw.out.size)⟩
   ·(rw [if_pos (by rfl)])
    go_simp
    obtain ⟨xhr,wv,hx,hW,hE2,hr,hbv⟩:=extAllocE hE.out (.cells #[.int .i64 0,.int .i64 1] 3)
    rw [←hW,←hx]
    replace hE:=Lib.hid hE2
    replace hr:=Lib.hid hr
    replace hx:=Lib.hid hx
    replace hW:=Lib.hid hW
    refine hK.out _ _ (hS.out _ hE.out) (fun hHeld=>?_)
    clear hE2 hx hW hbv
    (clear hK K)
    (try simp only [Act.put,List.setIfInBounds_toArray,List.set_cons_zero,List.set_cons_succ])
    refine wpAnyH_ready (rs:=[18]) (by kernel_rfl) (by simp) ?_
    refine consL rfl (fun K hK=>?_)
    (rw [if_pos (by rfl)])
    go_simp
    (go_at_call 33);refine (leaf_any 2 _).mono ?_;rintro e wv ⟨rfl,hxv⟩
    replace hr:=Lib.hid ((hxv.below.block _ (Array.getElem?_eq_some_iff.1 hr.out).1).trans hr.out)
    replace hE:=Lib.hid (hE.out.trans hxv)
    refine hK.out _ _ (hS.out _ hE.out) (fun hHeld=>?_)
    clear hxv
    (clear hK K)
    (try simp only [Act.put,List.setIfInBounds_toArray,List.set_cons_zero,List.set_cons_succ])
    refine wpAnyH_ready (rs:=[19]) (by kernel_rfl) (by simp) ?_
    refine consL rfl (fun K hK=>?_)
    (rw [if_pos (by rfl)])
    go_simp
    (go_at_call 33);refine (leaf_any 3 _).mono ?_;rintro e wv ⟨rfl,hxv⟩
    replace hr:=Lib.hid ((hxv.below.block _ (Array.getElem?_eq_some_iff.1 hr.out).1).trans hr.out)
    replace hE:=Lib.hid (hE.out.trans hxv)
    refine hK.out _ _ (hS.out _ hE.out) (fun hHeld=>?_)
    clear hxv
    (clear hK K)
    (try simp only [Act.put,List.setIfInBounds_toArray,List.set_cons_zero,List.set_cons_succ])
    refine wpAnyH_ready (rs:=[21]) (by kernel_rfl) (by simp) ?_
    refine consL rfl (fun K hK=>?_)
    (rw [if_pos (by rfl)])
    go_simp
    (go_at_call 34);refine (ofn_any 4 _ _ _ _).mono ?_;rintro e wv ⟨rfl,hxv⟩
    replace hr:=Lib.hid ((hxv.below.block _ (Array.getElem?_eq_some_iff.1 hr.out).1).trans hr.out)
    replace hE:=Lib.hid (hE.out.trans hxv)
    refine hK.out _ _ (hS.out _ hE.out) (fun hHeld=>?_)
    clear hxv
    (clear hK K)
    (try simp only [Act.put,List.setIfInBounds_toArray,List.set_cons_zero,List.set_cons_succ])
    refine wpAnyH_ready (rs:=[22]) (by kernel_rfl) (by simp) ?_
    refine consL rfl (fun K hK=>?_)
    (rw [if_pos (by rfl)])
    go_simp
    obtain ⟨xhn,wv,hx,hW,hE2,hn,hbv⟩:=extAllocE hE.out (.cells #[.int .i64 2,.int .i64 2,.slice none 0 0,.int .i64 2,.int .i64 3,.slice none 0 0,.int .i64 4,.int .i64 0,.slice (some ⟨xhr,0,none⟩) 2 2] 40)
    replace hr:=Lib.hid ((hbv.block _ (Array.getElem?_eq_some_iff.1 hr.out).1).trans hr.out)
    rw [←hW,←hx]
    replace hE:=Lib.hid hE2
    replace hn:=Lib.hid hn
    replace hx:=Lib.hid hx
    replace hW:=Lib.hid hW
    refine hK.out _ _ (hS.out _ hE.out) (fun hHeld=>?_)
    clear hE2 hx hW hbv
    (clear hK K)
    (try simp only [Act.put,List.setIfInBounds_toArray,List.set_cons_zero,List.set_cons_succ])
    refine wpAnyH_ready (rs:=[23]) (by kernel_rfl) (by simp) ?_
    refine consL rfl (fun K hK=>?_)
    (rw [if_pos (by rfl)])
    go_simp
    (go_at_call 32);refine (netn_any 3 _ _ _ _).mono ?_;rintro e wv ⟨rfl,hxv⟩
    have hC:=slC_ex3 ((hxv.below.block _ (Array.getElem?_eq_some_iff.1 hn.out).1).trans hn.out) (slI_of2 ((hxv.below.block _ (Array.getElem?_eq_some_iff.1 hr.out).1).trans hr.out))
    replace hE:=Lib.hid (hE.out.trans hxv)
    refine hK.out _ _ (hS.out _ hE.out) (fun hHeld=>?_)
    clear hxv hr hn
    (clear hK K)
    (try simp only [Act.put,List.setIfInBounds_toArray,List.set_cons_zero,List.set_cons_succ])
    have q:=qB.out _ _ hE.out hC
    refine wpAnyH_ready (rs:=[24]) (by kernel_rfl) (by simp) ?_
    refine consL rfl (fun K hK=>?_)
    (rw [if_pos (by rfl)])
    go_simp
    (go_at_call 15);refine q.mono ?_;rintro e wv ⟨rfl,hxv⟩
    replace hE:=Lib.hid (hE.out.trans hxv)
    refine hK.out _ _ (hS.out _ hE.out) (fun hHeld=>?_)
    clear hxv hC q
    (clear hK K)
    (try simp only [Act.put,List.setIfInBounds_toArray,List.set_cons_zero,List.set_cons_succ])
    (refine takeL (i:=25) (v:=?_) rfl (by kernel_rfl) (by kernel_rfl) (by kernel_rfl) (fun _ _ _ h=>h) (Or.inl ⟨by rfl,?_⟩) (by assumption) ?_)
    rotate_left
    ·(intro w hSw;(try dsimp only at hSw);go_simp;first | done | with_reducible rfl)
    (try simp only [Act.put,List.setIfInBounds_toArray,List.set_cons_zero,List.set_cons_succ])
    (refine takeL (i:=26) (v:=?_) rfl (by kernel_rfl) (by kernel_rfl) (by kernel_rfl) (fun _ _ _ h=>h) (Or.inl ⟨by rfl,?_⟩) (by assumption) ?_)
    rotate_left
    ·(intro w hSw;(try dsimp only at hSw);go_simp;first | done | with_reducible rfl)
    (try simp only [Act.put,List.setIfInBounds_toArray,List.set_cons_zero,List.set_cons_succ])
    (refine wpAnyH_done (by kernel_rfl) ?_ _)
    clear hHeld
    go_wp2_with fail
    go_ret
    exact ⟨rfl,hBw.out.trans (hE.out.below.mono hBw.out.size)⟩
 ·(rw [if_pos (by rfl)])
  go_simp
  obtain ⟨xhr,wv,hx,hW,hE2,hr,hbv⟩:=extAllocE hE.out (.cells #[.int .i64 0,.int .i64 1] 3)
  rw [←hW,←hx]
  replace hE:=Lib.hid hE2
  replace hr:=Lib.hid hr
  replace hx:=Lib.hid hx
  replace hW:=Lib.hid hW
  refine hK.out _ _ (hS.out _ hE.out) (fun hHeld=>?_)
  clear hE2 hx hW hbv
  (clear hK K)
  (try simp only [Act.put,List.setIfInBounds_toArray,List.set_cons_zero,List.set_cons_succ])
  refine wpAnyH_ready (rs:=[8]) (by kernel_rfl) (by simp) ?_
  refine consL rfl (fun K hK=>?_)
  (rw [if_pos (by rfl)])
  go_simp
  (go_at_call 33);refine (leaf_any 1 _).mono ?_;rintro e wv ⟨rfl,hxv⟩
  replace hr:=Lib.hid ((hxv.below.block _ (Array.getElem?_eq_some_iff.1 hr.out).1).trans hr.out)
  replace hE:=Lib.hid (hE.out.trans hxv)
  refine hK.out _ _ (hS.out _ hE.out) (fun hHeld=>?_)
  clear hxv
  (clear hK K)
  (try simp only [Act.put,List.setIfInBounds_toArray,List.set_cons_zero,List.set_cons_succ])
  refine wpAnyH_ready (rs:=[9]) (by kernel_rfl) (by simp) ?_
  refine consL rfl (fun K hK=>?_)
  (rw [if_pos (by rfl)])
  go_simp
  (go_at_call 33);refine (leaf_any 3 _).mono ?_;rintro e wv ⟨rfl,hxv⟩
  replace hr:=Lib.hid ((hxv.below.block _ (Array.getElem?_eq_some_iff.1 hr.out).1).trans hr.out)
  replace hE:=Lib.hid (hE.out.trans hxv)
  refine hK.out _ _ (hS.out _ hE.out) (fun hHeld=>?_)
  clear hxv
  (clear hK K)
  (try simp only [Act.put,List.setIfInBounds_toArray,List.set_cons_zero,List.set_cons_succ])
  refine wpAnyH_ready (rs:=[11]) (by kernel_rfl) (by simp) ?_
  refine consL rfl (fun K hK=>?_)
  (rw [if_pos (by rfl)])
  go_simp
  (go_at_call 34);refine (ofn_any 3 _ _ _ _).mono ?_;rintro e wv ⟨rfl,hxv⟩
  replace hr:=Lib.hid ((hxv.below.block _ (Array.getElem?_eq_some_iff.1 hr.out).1).trans hr.out)
  replace hE:=Lib.hid (hE.out.trans hxv)
  refine hK.out _ _ (hS.out _ hE.out) (fun hHeld=>?_)
  clear hxv
  (clear hK K)
  (try simp only [Act.put,List.setIfInBounds_toArray,List.set_cons_zero,List.set_cons_succ])
  refine wpAnyH_ready (rs:=[12]) (by kernel_rfl) (by simp) ?_
  refine consL rfl (fun K hK=>?_)
  (rw [if_pos (by rfl)])
  go_simp
  obtain ⟨xhn,wv,hx,hW,hE2,hn,hbv⟩:=extAllocE hE.out (.cells #[.int .i64 2,.int .i64 1,.slice none 0 0,.int .i64 2,.int .i64 3,.slice none 0 0,.int .i64 3,.int .i64 0,.slice (some ⟨xhr,0,none⟩) 2 2] 40)
  replace hr:=Lib.hid ((hbv.block _ (Array.getElem?_eq_some_iff.1 hr.out).1).trans hr.out)
  rw [←hW,←hx]
  replace hE:=Lib.hid hE2
  replace hn:=Lib.hid hn
  replace hx:=Lib.hid hx
  replace hW:=Lib.hid hW
  refine hK.out _ _ (hS.out _ hE.out) (fun hHeld=>?_)
  clear hE2 hx hW hbv
  (clear hK K)
  (try simp only [Act.put,List.setIfInBounds_toArray,List.set_cons_zero,List.set_cons_succ])
  refine wpAnyH_ready (rs:=[13]) (by kernel_rfl) (by simp) ?_
  refine consL rfl (fun K hK=>?_)
  (rw [if_pos (by rfl)])
  go_simp
  (go_at_call 32);refine (netn_any 3 _ _ _ _).mono ?_;rintro e wv ⟨rfl,hxv⟩
  have hC:=slC_ex3 ((hxv.below.block _ (Array.getElem?_eq_some_iff.1 hn.out).1).trans hn.out) (slI_of2 ((hxv.below.block _ (Array.getElem?_eq_some_iff.1 hr.out).1).trans hr.out))
  replace hE:=Lib.hid (hE.out.trans hxv)
  refine hK.out _ _ (hS.out _ hE.out) (fun hHeld=>?_)
  clear hxv hr hn
  (clear hK K)
  (try simp only [Act.put,List.setIfInBounds_toArray,List.set_cons_zero,List.set_cons_succ])
  have q:=qA.out _ _ hE.out hC
  refine wpAnyH_ready (rs:=[14]) (by kernel_rfl) (by simp) ?_
  refine consL rfl (fun K hK=>?_)
  (rw [if_pos (by rfl)])
  go_simp
  (go_at_call 15);refine q.mono ?_;rintro e wv ⟨rfl,hxv⟩
  replace hE:=Lib.hid (hE.out.trans hxv)
  refine hK.out _ _ (hS.out _ hE.out) (fun hHeld=>?_)
  clear hxv hC q
  (clear hK K)
  (try simp only [Act.put,List.setIfInBounds_toArray,List.set_cons_zero,List.set_cons_succ])
  (refine takeL (i:=15) (v:=?_) rfl (by kernel_rfl) (by kernel_rfl) (by kernel_rfl) (fun _ _ _ h=>h) (Or.inl ⟨by rfl,?_⟩) (by assumption) ?_)
  rotate_left
  ·(intro w hSw;(try dsimp only at hSw);go_simp;first | done | with_reducible rfl)
  (try simp only [Act.put,List.setIfInBounds_toArray,List.set_cons_zero,List.set_cons_succ])
  (refine takeL (i:=16) (v:=?_) rfl (by kernel_rfl) (by kernel_rfl) (by kernel_rfl) (fun _ _ _ h=>h) (Or.inl ⟨by rfl,?_⟩) (by assumption) ?_)
  rotate_left
  ·(intro w hSw;(try dsimp only at hSw);go_simp;first | done | with_reducible rfl)
  (try simp only [Act.put,List.setIfInBounds_toArray,List.set_cons_zero,List.set_cons_succ])
  skip
  (refine takeL (i:=17) (v:=?_) rfl (by kernel_rfl) (by kernel_rfl) (by kernel_rfl) (fun _ _ _ h=>h) (Or.inl ⟨by rfl,?_⟩) (by assumption) ?_)
  rotate_left
  ·(intro w hSw;(try dsimp only at hSw);go_simp;first | done | with_reducible rfl)
  (try simp only [Act.put,List.setIfInBounds_toArray,List.set_cons_zero,List.set_cons_succ])
  refine wpAnyH_ready (rs:=[18,20]) (by kernel_rfl) (by simp) ?_
  refine consL2 rfl rfl (fun K hK=>?_) (fun K hK=>?_)
  ·(rw [if_pos (by rfl)])
   go_simp
   (go_at_call 33);refine (leaf_any 2 _).mono ?_;rintro e wv ⟨rfl,hxv⟩
   replace hE:=Lib.hid (hE.out.trans hxv)
   refine hK.out _ _ (hS.out _ hE.out) (fun hHeld=>?_)
   clear hxv
   (clear hK K)
   (try simp only [Act.put,List.setIfInBounds_toArray,List.set_cons_zero,List.set_cons_succ])
   refine wpAnyH_ready (rs:=[19,20]) (by kernel_rfl) (by simp) ?_
   refine consL2 rfl rfl (fun K hK=>?_) (fun K hK=>?_)
   ·(rw [if_pos (by rfl)])
    go_simp
    (go_at_call 33);refine (leaf_any 3 _).mono ?_;rintro e wv ⟨rfl,hxv⟩
    replace hE:=Lib.hid (hE.out.trans hxv)
    refine hK.out _ _ (hS.out _ hE.out) (fun hHeld=>?_)
    clear hxv
    (clear hK K)
    (try simp only [Act.put,List.setIfInBounds_toArray,List.set_cons_zero,List.set_cons_succ])
    refine wpAnyH_ready (rs:=[20]) (by kernel_rfl) (by simp) ?_
    refine consL rfl (fun K hK=>?_)
    (rw [if_pos (by rfl)])
    go_simp
    obtain ⟨xhr,wv,hx,hW,hE2,hr,hbv⟩:=extAllocE hE.out (.cells #[.int .i64 0,.int .i64 1] 3)
    rw [←hW,←hx]
    replace hE:=Lib.hid hE2
    replace hr:=Lib.hid hr
    replace hx:=Lib.hid hx
    replace hW:=Lib.hid hW
    refine hK.out _ _ (hS.out _ hE.out) (fun hHeld=>?_)
    clear hE2 hx hW hbv
    (clear hK K)
    (try simp only [Act.put,List.setIfInBounds_toArray,List.set_cons_zero,List.set_cons_succ])
    refine wpAnyH_ready (rs:=[21]) (by kernel_rfl) (by simp) ?_
    refine consL rfl (fun K hK=>?_)
    (rw [if_pos (by rfl)])
    go_simp
    (go_at_call 34);refine (ofn_any 4 _ _ _ _).mono ?_;rintro e wv ⟨rfl,hxv⟩
    replace hr:=Lib.hid ((hxv.below.block _ (Array.getElem?_eq_some_iff.1 hr.out).1).trans hr.out)
    replace hE:=Lib.hid (hE.out.trans hxv)
    refine hK.out _ _ (hS.out _ hE.out) (fun hHeld=>?_)
    clear hxv
    (clear hK K)
    (try simp only [Act.put,List.setIfInBounds_toArray,List.set_cons_zero,List.set_cons_succ])
    refine wpAnyH_ready (rs:=[22]) (by kernel_rfl) (by simp) ?_
    refine consL rfl (fun K hK=>?_)
    (rw [if_pos (by rfl)])
    go_simp
    obtain ⟨xhn,wv,hx,hW,hE2,hn,hbv⟩:=extAllocE hE.out (.cells #[.int .i64 2,.int .i64 2,.slice none 0 0,.int .i64 2,.int .i64 3,.slice none 0 0,.int .i64 4,.int .i64 0,.slice (some ⟨xhr,0,none⟩) 2 2] 40)
    replace hr:=Lib.hid ((hbv.block _ (Array.getElem?_eq_some_iff.1 hr.out).1).trans hr.out)
    rw [←hW,←hx]
    replace hE:=Lib.hid hE2
    replace hn:=Lib.hid hn
    replace hx:=Lib.hid hx
    replace hW:=Lib.hid hW
    refine hK.out _ _ (hS.out _ hE.out) (fun hHeld=>?_)
    clear hE2 hx hW hbv
    (clear hK K)
    (try simp only [Act.put,List.setIfInBounds_toArray,List.set_cons_zero,List.set_cons_succ])
    refine wpAnyH_ready (rs:=[23]) (by kernel_rfl) (by simp) ?_
    refine consL rfl (fun K hK=>?_)
    (rw [if_pos (by rfl)])
    go_simp
    (go_at_call 32);refine (netn_any 3 _ _ _ _).mono ?_;rintro e wv ⟨rfl,hxv⟩
    have hC:=slC_ex3 ((hxv.below.block _ (Array.getElem?_eq_some_iff.1 hn.out).1).trans hn.out) (slI_of2 ((hxv.below.block _ (Array.getElem?_eq_some_iff.1 hr.out).1).trans hr.out))
    replace hE:=Lib.hid (hE.out.trans hxv)
    refine hK.out _ _ (hS.out _ hE.out) (fun hHeld=>?_)
    clear hxv hr hn
    (clear hK K)
    (try simp only [Act.put,List.setIfInBounds_toArray,List.set_cons_zero,List.set_cons_succ])
    have q:=qB.out _ _ hE.out hC
    refine wpAnyH_ready (rs:=[24]) (by kernel_rfl) (by simp) ?_
    refine consL rfl (fun K hK=>?_)
    (rw [if_pos (by rfl)])
    go_simp
    (go_at_call 15);refine q.mono ?_;rintro e wv ⟨rfl,hxv⟩
    replace hE:=Lib.hid (hE.out.trans hxv)
    refine hK.out _ _ (hS.out _ hE.out) (fun hHeld=>?_)
    clear hxv hC q
    (clear hK K)
    (try simp only [Act.put,List.setIfInBounds_toArray,List.set_cons_zero,List.set_cons_succ])
    (refine takeL (i:=25) (v:=?_) rfl (by kernel_rfl) (by kernel_rfl) (by kernel_rfl) (fun _ _ _ h=>h) (Or.inl ⟨by rfl,?_⟩) (by assumption) ?_)
    rotate_left
    ·(intro w hSw;(try dsimp only at hSw);go_simp;first | done | with_reducible rfl)
    (try simp only [Act.put,List.setIfInBounds_toArray,List.set_cons_zero,List.set_cons_succ])
    (refine takeL (i:=26) (v:=?_) rfl (by kernel_rfl) (by kernel_rfl) (by kernel_rfl) (fun _ _ _ h=>h) (Or.inl ⟨by rfl,?_⟩) (by assumption) ?_)
    rotate_left
    ·(intro w hSw;(try dsimp only at hSw);go_simp;first | done | with_reducible rfl)
    (try simp only [Act.put,List.setIfInBounds_toArray,List.set_cons_zero,List.set_cons_succ])
    (refine wpAnyH_done (by kernel_rfl) ?_ _)
    clear hHeld
    go_wp2_with fail
    go_ret
    exact ⟨rfl,hBw.out.trans (hE.out.below.mono hBw.out.size)⟩
   ·(rw [if_pos (by rfl)])
    go_simp
    obtain ⟨xhr,wv,hx,hW,hE2,hr,hbv⟩:=extAllocE hE.out (.cells #[.int .i64 0,.int .i64 1] 3)
    rw [←hW,←hx]
    replace hE:=Lib.hid hE2
    replace hr:=Lib.hid hr
    replace hx:=Lib.hid hx
    replace hW:=Lib.hid hW
    refine hK.out _ _ (hS.out _ hE.out) (fun hHeld=>?_)
    clear hE2 hx hW hbv
    (clear hK K)
    (try simp only [Act.put,List.setIfInBounds_toArray,List.set_cons_zero,List.set_cons_succ])
    refine wpAnyH_ready (rs:=[19]) (by kernel_rfl) (by simp) ?_
    refine consL rfl (fun K hK=>?_)
    (rw [if_pos (by rfl)])
    go_simp
    (go_at_call 33);refine (leaf_any 3 _).mono ?_;rintro e wv ⟨rfl,hxv⟩
    replace hr:=Lib.hid ((hxv.below.block _ (Array.getElem?_eq_some_iff.1 hr.out).1).trans hr.out)
    replace hE:=Lib.hid (hE.out.trans hxv)
    refine hK.out _ _ (hS.out _ hE.out) (fun hHeld=>?_)
    clear hxv
    (clear hK K)
    (try simp only [Act.put,List.setIfInBounds_toArray,List.set_cons_zero,List.set_cons_succ])
    refine wpAnyH_ready (rs:=[21]) (by kernel_rfl) (by simp) ?_
    refine consL rfl (fun K hK=>?_)
    (rw [if_pos (by rfl)])
    go_simp
    (go_at_call 34);refine (ofn_any 4 _ _ _ _).mono ?_;rintro e wv ⟨rfl,hxv⟩
    replace hr:=Lib.hid ((hxv.below.block _ (Array.getElem?_eq_some_iff.1 hr.out).1).trans hr.out)
    replace hE:=Lib.hid (hE.out.trans hxv)
    refine hK.out _ _ (hS.out _ hE.out) (fun hHeld=>?_)
    clear hxv
    (clear hK K)
    (try simp only [Act.put,List.setIfInBounds_toArray,List.set_cons_zero,List.set_cons_succ])
    refine wpAnyH_ready (rs:=[22]) (by kernel_rfl) (by simp) ?_
    refine consL rfl (fun K hK=>?_)
    (rw [if_pos (by rfl)])
    go_simp
    obtain ⟨xhn,wv,hx,hW,hE2,hn,hbv⟩:=extAllocE hE.out (.cells #[.int .i64 2,.int .i64 2,.slice none 0 0,.int .i64 2,.int .i64 3,.slice none 0 0,.int .i64 4,.int .i64 0,.slice (some ⟨xhr,0,none⟩) 2 2] 40)
    replace hr:=Lib.hid ((hbv.block _ (Array.getElem?_eq_some_iff.1 hr.out).1).trans hr.out)
    rw [←hW,←hx]
    replace hE:=Lib.hid hE2
    replace hn:=Lib.hid hn
    replace hx:=Lib.hid hx
    replace hW:=Lib.hid hW
    refine hK.out _ _ (hS.out _ hE.out) (fun hHeld=>?_)
    clear hE2 hx hW hbv
    (clear hK K)
    (try simp only [Act.put,List.setIfInBounds_toArray,List.set_cons_zero,List.set_cons_succ])
    refine wpAnyH_ready (rs:=[23]) (by kernel_rfl) (by simp) ?_
    refine consL rfl (fun K hK=>?_)
    (rw [if_pos (by rfl)])
    go_simp
    (go_at_call 32);refine (netn_any 3 _ _ _ _).mono ?_;rintro e wv ⟨rfl,hxv⟩
    have hC:=slC_ex3 ((hxv.below.block _ (Array.getElem?_eq_some_iff.1 hn.out).1).trans hn.out) (slI_of2 ((hxv.below.block _ (Array.getElem?_eq_some_iff.1 hr.out).1).trans hr.out))
    replace hE:=Lib.hid (hE.out.trans hxv)
    refine hK.out _ _ (hS.out _ hE.out) (fun hHeld=>?_)
    clear hxv hr hn
    (clear hK K)
    (try simp only [Act.put,List.setIfInBounds_toArray,List.set_cons_zero,List.set_cons_succ])
    have q:=qB.out _ _ hE.out hC
    refine wpAnyH_ready (rs:=[24]) (by kernel_rfl) (by simp) ?_
    refine consL rfl (fun K hK=>?_)
    (rw [if_pos (by rfl)])
    go_simp
    (go_at_call 15);refine q.mono ?_;rintro e wv ⟨rfl,hxv⟩
    replace hE:=Lib.hid (hE.out.trans hxv)
    refine hK.out _ _ (hS.out _ hE.out) (fun hHeld=>?_)
    clear hxv hC q
    (clear hK K)
    (try simp only [Act.put,List.setIfInBounds_toArray,List.set_cons_zero,List.set_cons_succ])
    (refine takeL (i:=25) (v:=?_) rfl (by kernel_rfl) (by kernel_rfl) (by kernel_rfl) (fun _ _ _ h=>h) (Or.inl ⟨by rfl,?_⟩) (by assumption) ?_)
    rotate_left
    ·(intro w hSw;(try dsimp only at hSw);go_simp;first | done | with_reducible rfl)
    (try simp only [Act.put,List.setIfInBounds_toArray,List.set_cons_zero,List.set_cons_succ])
    (refine takeL (i:=26) (v:=?_) rfl (by kernel_rfl) (by kernel_rfl) (by kernel_rfl) (fun _ _ _ h=>h) (Or.inl ⟨by rfl,?_⟩) (by assumption) ?_)
    rotate_left
    ·(intro w hSw;(try dsimp only at hSw);go_simp;first | done | with_reducible rfl)
    (try simp only [Act.put,List.setIfInBounds_toArray,List.set_cons_zero,List.set_cons_succ])
    (refine wpAnyH_done (by kernel_rfl) ?_ _)
    clear hHeld
    go_wp2_with fail
    go_ret
    exact ⟨rfl,hBw.out.trans (hE.out.below.mono hBw.out.size)⟩
  ·(rw [if_pos (by rfl)])
   go_simp
   obtain ⟨xhr,wv,hx,hW,hE2,hr,hbv⟩:=extAllocE hE.out (.cells #[.int .i64 0,.int .i64 1] 3)
   rw [←hW,←hx]
   replace hE:=Lib.hid hE2
   replace hr:=Lib.hid hr
   replace hx:=Lib.hid hx
   replace hW:=Lib.hid hW
   refine hK.out _ _ (hS.out _ hE.out) (fun hHeld=>?_)
   clear hE2 hx hW hbv
   (clear hK K)
   (try simp only [Act.put,List.setIfInBounds_toArray,List.set_cons_zero,List.set_cons_succ])
   refine wpAnyH_ready (rs:=[18]) (by kernel_rfl) (by simp) ?_
   refine consL rfl (fun K hK=>?_)
   (rw [if_pos (by rfl)])
   go_simp
   (go_at_call 33);refine (leaf_any 2 _).mono ?_;rintro e wv ⟨rfl,hxv⟩
   replace hr:=Lib.hid ((hxv.below.block _ (Array.getElem?_eq_some_iff.1 hr.out).1).trans hr.out)
   replace hE:=Lib.hid (hE.out.trans hxv)
   refine hK.out _ _ (hS.out _ hE.out) (fun hHeld=>?_)
   clear hxv
   (clear hK K)
   (try simp only [Act.put,List.setIfInBounds_toArray,List.set_cons_zero,List.set_cons_succ])
   refine wpAnyH_ready (rs:=[19]) (by kernel_rfl) (by simp) ?_
   refine consL rfl (fun K hK=>?_)
   (rw [if_pos (by rfl)])
   go_simp
   (go_at_call 33);refine (leaf_any 3 _).mono ?_;rintro e wv ⟨rfl,hxv⟩
   replace hr:=Lib.hid ((hxv.below.block _ (Array.getElem?_eq_some_iff.1 hr.out).1).trans hr.out)
   replace hE:=Lib.hid (hE.out.trans hxv)
   refine hK.out _ _ (hS.out _ hE.out) (fun hHeld=>?_)
   clear hxv
   (clear hK K)
   (try simp only [Act.put,List.setIfInBounds_toArray,List.set_cons_zero,List.set_cons_succ])
   refine wpAnyH_ready (rs:=[21]) (by kernel_rfl) (by simp) ?_
   refine consL rfl (fun K hK=>?_)
   (rw [if_pos (by rfl)])
   go_simp
   (go_at_call 34);refine (ofn_any 4 _ _ _ _).mono ?_;rintro e wv ⟨rfl,hxv⟩
   replace hr:=Lib.hid ((hxv.below.block _ (Array.getElem?_eq_some_iff.1 hr.out).1).trans hr.out)
   replace hE:=Lib.hid (hE.out.trans hxv)
   refine hK.out _ _ (hS.out _ hE.out) (fun hHeld=>?_)
   clear hxv
   (clear hK K)
   (try simp only [Act.put,List.setIfInBounds_toArray,List.set_cons_zero,List.set_cons_succ])
   refine wpAnyH_ready (rs:=[22]) (by kernel_rfl) (by simp) ?_
   refine consL rfl (fun K hK=>?_)
   (rw [if_pos (by rfl)])
   go_simp
   obtain ⟨xhn,wv,hx,hW,hE2,hn,hbv⟩:=extAllocE hE.out (.cells #[.int .i64 2,.int .i64 2,.slice none 0 0,.int .i64 2,.int .i64 3,.slice none 0 0,.int .i64 4,.int .i64 0,.slice (some ⟨xhr,0,none⟩) 2 2] 40)
   replace hr:=Lib.hid ((hbv.block _ (Array.getElem?_eq_some_iff.1 hr.out).1).trans hr.out)
   rw [←hW,←hx]
   replace hE:=Lib.hid hE2
   replace hn:=Lib.hid hn
   replace hx:=Lib.hid hx
   replace hW:=Lib.hid hW
   refine hK.out _ _ (hS.out _ hE.out) (fun hHeld=>?_)
   clear hE2 hx hW hbv
   (clear hK K)
   (try simp only [Act.put,List.setIfInBounds_toArray,List.set_cons_zero,List.set_cons_succ])
   refine wpAnyH_ready (rs:=[23]) (by kernel_rfl) (by simp) ?_
   refine consL rfl (fun K hK=>?_)
   (rw [if_pos (by rfl)])
   go_simp
   (go_at_call 32);refine (netn_any 3 _ _ _ _).mono ?_;rintro e wv ⟨rfl,hxv⟩
   have hC:=slC_ex3 ((hxv.below.block _ (Array.getElem?_eq_some_iff.1 hn.out).1).trans hn.out) (slI_of2 ((hxv.below.block _ (Array.getElem?_eq_some_iff.1 hr.out).1).trans hr.out))
   replace hE:=Lib.hid (hE.out.trans hxv)
   refine hK.out _ _ (hS.out _ hE.out) (fun hHeld=>?_)
   clear hxv hr hn
   (clear hK K)
   (try simp only [Act.put,List.setIfInBounds_toArray,List.set_cons_zero,List.set_cons_succ])
   have q:=qB.out _ _ hE.out hC
   refine wpAnyH_ready (rs:=[24]) (by kernel_rfl) (by simp) ?_
   refine consL rfl (fun K hK=>?_)
   (rw [if_pos (by rfl)])
   go_simp
   (go_at_call 15);refine q.mono ?_;rintro e wv ⟨rfl,hxv⟩
   replace hE:=Lib.hid (hE.out.trans hxv)
   refine hK.out _ _ (hS.out _ hE.out) (fun hHeld=>?_)
   clear hxv hC q
   (clear hK K)
   (try simp only [Act.put,List.setIfInBounds_toArray,List.set_cons_zero,List.set_cons_succ])
   (refine takeL (i:=25) (v:=?_) rfl (by kernel_rfl) (by kernel_rfl) (by kernel_rfl) (fun _ _ _ h=>h) (Or.inl ⟨by rfl,?_⟩) (by assumption) ?_)
   rotate_left
   ·(intro w hSw;(try dsimp only at hSw);go_simp;first | done | with_reducible rfl)
   (try simp only [Act.put,List.setIfInBounds_toArray,List.set_cons_zero,List.set_cons_succ])
   (refine takeL (i:=26) (v:=?_) rfl (by kernel_rfl) (by kernel_rfl) (by kernel_rfl) (fun _ _ _ h=>h) (Or.inl ⟨by rfl,?_⟩) (by assumption) ?_)
   rotate_left
   ·(intro w hSw;(try dsimp only at hSw);go_simp;first | done | with_reducible rfl)
   (try simp only [Act.put,List.setIfInBounds_toArray,List.set_cons_zero,List.set_cons_succ])
   (refine wpAnyH_done (by kernel_rfl) ?_ _)
   clear hHeld
   go_wp2_with fail
   go_ret
   exact ⟨rfl,hBw.out.trans (hE.out.below.mono hBw.out.size)⟩
end Go.Proofs.YtckhohpbokojdaaGreatDoor
