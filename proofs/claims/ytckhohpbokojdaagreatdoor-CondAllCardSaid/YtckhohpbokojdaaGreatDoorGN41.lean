import Derived.Test.YtckhohpbokojdaaGreatDoorGN40
set_option linter.unusedSimpArgs false
set_option linter.unusedVariables false
namespace Go.Proofs.YtckhohpbokojdaaGreatDoor
open Go Go.RowKit Go.Shelf
theorem given_err {n:Int} {C:List L.Gt} {t:List Int} {v tv:Value} {w:World} (hv:SlC w v C) (hl:C.length≤80) (h2:∀ g∈C,g.inp.length≤20) (ht:SlI w tv t) (htl:t.length≤300) (hno:¬ (L.netChk n C = 0∧L.TermL n t)) :
  Calls Tryz.prog 13 #[.agg #[.int .i64 n,v],tv] w fun e w'=>e = .returned (.tuple #[.agg #[.int .i64 0,.slice none 0 0],.int .i64 1])∧Below w.heap.size w w':=by
 by_cases hc:L.netChk n C = 0
 ·exact given_no hv hc (by omega) (fun g hg=>by have:=h2 g hg;omega) ht (by omega) (fun h=>hno ⟨hc,h⟩)
 ·exact condgiven_bad hv hc (by omega) (fun g hg=>by have:=h2 g hg;omega)
theorem light_parts {C:List L.Gt} (h:lightN C = true):C.length≤80∧∀ g∈C,g.inp.length≤20:=by
 unfold lightN at h
 rw [Bool.and_eq_true,decide_eq_true_eq] at h
 exact ⟨h.2,fun g hg=>by have:=List.all_eq_true.1 h.1 g hg;simpa using this⟩
theorem nodes_of {n:Int} {C:List L.Gt} (hc:L.netChk n C = 0):∃ nl:List L.ND,C = nl.map L.ofND∧nl.length = C.length∧∀ y∈nl,∃ g∈C,g.inp.length = y.inp.length:=by
 refine ⟨C.map L.toND,(L.net_nok hc).2.2.symm,List.length_map ..,fun y hy=>?_⟩
 obtain ⟨g,hg,rfl⟩:=List.mem_map.1 hy
 exact ⟨g,hg,(by unfold L.toND;simp)⟩
set_option maxRecDepth 100000 in
set_option maxHeartbeats 40000000 in
theorem condholds_any {n:Int} {C:List L.Gt} {t:List Int} {a:VSet} {v tv:Value} (w:World) (hP:PowTab w) (hv:SlC w v C) (hl:C.length≤9223372036854775807) (ht:SlI w tv t) :
  Calls Tryz.prog 7 #[.agg #[.int .i64 n,v],tv,.agg #[.int .u64 (lo a),.int .u64 (hi a)]] w fun e w'=>e = .returned (.bool true)∧Below w.heap.size w w':=by
 have hgP:=hP.lt
 have hw:∀ W,Below w.heap.size w W→Calls Tryz.prog 11 #[] W fun e w''=>e = .returned (.bool true)∧Below W.heap.size W w'':=fun W hx=>works35_any W (hP.below hx) (Nat.lt_of_lt_of_le hgP hx.size)
 have ql:=fun (W:World) (hW:Ext w W)=>light35_any (n:=n) (hv.ext hW.below) hl
 have hvq:=hv
 have htq:=ht
 obtain ⟨ba,cp,rfl,-⟩:=hv.shape
 obtain ⟨tb,tc,rfl,-⟩:=id ht
 have hx2:Ext w ((w.alloc (.cells #[.int .i64 n,.slice ba C.length cp] 24)).alloc (.cells #[.int .u64 (lo a),.int .u64 (hi a)] 37)):=((Ext.refl w).alloc _).alloc _
 obtain ⟨e0,e1⟩:=alloc2h w (.cells #[.int .i64 n,.slice ba C.length cp] 24) (.cells #[.int .u64 (lo a),.int .u64 (hi a)] 37)
 obtain ⟨w2,hw2⟩:∃ x,x = ((w.alloc (.cells #[.int .i64 n,.slice ba C.length cp] 24)).alloc (.cells #[.int .u64 (lo a),.int .u64 (hi a)] 37)):=⟨_,rfl⟩
 rw [←hw2] at hx2 e0 e1
 have hbx:∀ V,Below w2.heap.size w2 V→(V.cell? ⟨w.heap.size,0,none⟩ = some (.int .i64 n)∧V.cell? ⟨w.heap.size,1,none⟩ = some (.slice ba C.length cp))∧V.cell? ⟨w.heap.size+1,0,none⟩ = some (.int .u64 (lo a))∧V.cell? ⟨w.heap.size+1,1,none⟩ = some (.int .u64 (hi a)):=fun V hV=>by
  have f0:=(hV.block _ (Array.getElem?_eq_some_iff.1 e0).1).trans e0
  have f1:=(hV.block _ (Array.getElem?_eq_some_iff.1 e1).1).trans e1
  exact ⟨⟨by rw [World.cell?,f0];rfl,by rw [World.cell?,f0];rfl⟩,by rw [World.cell?,f1];rfl,by rw [World.cell?,f1];rfl⟩
 obtain ⟨⟨p0,p1⟩,p2,p3⟩:=hbx w2 (Below.refl _ _)
 have q1:=ql w2 hx2
 replace hw:=Lib.hid hw
 replace hvq:=Lib.hid hvq
 replace htq:=Lib.hid htq
 replace hbx:=Lib.hid hbx
 replace hx2:=Lib.hid hx2
 replace e0:=Lib.hid e0
 replace e1:=Lib.hid e1
 replace hP:=Lib.hid hP
 clear hv ht ql
 rw [hw2] at p0 p1 p2 p3
 cases hL:lightN C with
 | false =>
   rw [hL] at q1
   go_enter Tryz.func7,Tryz.ntmps7
   go_wp2_with fail
   rw [←hw2]
   replace hw2:=Lib.hid hw2
   refine q1.mono ?_
   rintro e w3 ⟨rfl,hx3⟩
   have hb3:=(hx2.out.trans hx3).below
   have q:=hw.out _ hb3
   replace hb3:=Lib.hid hb3
   clear q1 p0 p1 p2 p3 hx3
   go_wp2_with fail
   refine q.mono ?_
   rintro e w4 ⟨rfl,hb4⟩
   clear q
   go_wp2_with fail
   go_ret
   exact ⟨rfl,hb3.out.trans (hb4.mono hb3.out.size)⟩
 | true =>
   rw [hL] at q1
   obtain ⟨hC80,hC20⟩:=light_parts hL
   replace hC20:=Lib.hid hC20
   by_cases htl:t.length≤300
   ·have d3:decide ((t.length:Int) > 300) = false:=decide_eq_false (by omega)
    by_cases hok:L.netChk n C = 0∧L.TermL n t
    ·obtain ⟨hc,hT⟩:=hok
     obtain ⟨nl,rfl,hnlC,hnli⟩:=nodes_of hc
     have hnl80:nl.length≤80:=by omega
     have hnl20:∀ y∈nl,y.inp.length≤20:=fun y hy=>by
      obtain ⟨g,hg,e⟩:=hnli y hy
      have:=hC20.out g hg
      omega
     obtain ⟨hnok,hne,hn,hl6⟩:=nok_of hc
     obtain ⟨r1,r2,r3,r4,r5⟩:=red_facts hn (L.map_nok hnok _ (L.givND_or t)) (map_ne hne) (by rw [List.length_map];omega)
     have hlaw:=giv_law hc hT a
     have hfree:=fun (i:Nat)=>giv_free (i:=i) hc hT
     obtain ⟨RL,hRL⟩:∃ RL,RL = L.reduceL (nl.map (L.givND t)):=⟨_,rfl⟩
     have qg:=fun (W:World) (hW:Below w.heap.size w W)=>given_ok (hvq.out.ext hW) hc (by omega) (fun y hy=>by have:=hnl20 y hy;omega) (htq.out.ext hW) (by omega) hT (hP.out.below hW) (Nat.lt_of_lt_of_le hgP hW.size)
     rw [←hRL] at r1 r2 r3 r4 r5 hlaw
     simp only [←hRL] at qg hfree
     rw [List.length_map] at r4
     simp only [List.length_map] at r5
     obtain ⟨T,hTT⟩:∃ T,T = L.tv RL (L.asg a) (RL.length - 1):=⟨_,rfl⟩
     have qE1:=fun (W:World) (vL:Value) (hs:SlC W vL (RL.map L.ofND))=>neval_any (a:=a) hs r1 (by omega) (fun y hy=>by have:=r5 y hy;omega)
     have qE2:=fun (W:World) (hW:Below w.heap.size w W)=>neval_any (a:=madeS a t) (hvq.out.ext hW) hc (by omega) (fun y hy=>by have:=hnl20 y hy;omega)
     have qM:=fun (W:World) (hW:Below w.heap.size w W)=>made_any (a:=a) (htq.out.ext hW) (by omega)
     have qV:=fun (W:World) (vL:Value) (hs:SlC W vL (RL.map L.ofND))=>nvars_any hs r1 (by omega) (fun y hy=>by have:=r5 y hy;omega)
     simp only [←hTT] at qE1
     rw [←hTT] at hlaw
     simp only [←hlaw] at qE2
     have hTne:(T != T) = false:=by simp
     have hcell:=fun (j:Nat) (hj:j < t.length)=>(slI_cell htq.out hj)
     have hz:∀ z∈t,-128≤z∧z≤128:=fun z hz=>by have:=term_abs hn.2 hT z hz;omega
     obtain ⟨M,hM⟩:∃ M,M = madeS a t:=⟨_,rfl⟩
     simp only [←hM] at qE2 qM
     simp only [List.length_map] at *
     have hRl:RL.length≤80:=by omega
     replace hlaw:=Lib.hid hlaw
     replace hfree:=Lib.hid hfree
     replace hRL:=Lib.hid hRL
     replace hTT:=Lib.hid hTT
     replace hM:=Lib.hid hM
     replace qg:=Lib.hid qg
     replace qE1:=Lib.hid qE1
     replace qE2:=Lib.hid qE2
     replace qM:=Lib.hid qM
     replace qV:=Lib.hid qV
     replace hcell:=Lib.hid hcell
     replace hz:=Lib.hid hz
     replace hT:=Lib.hid hT
     replace hc:=Lib.hid hc
     clear hnok hne r1 r2 r3 r4 r5 hnli hnl20 hnlC hl hL
     go_enter Tryz.func7,Tryz.ntmps7
     go_wp2_with fail
     rw [←hw2]
     replace hw2:=Lib.hid hw2
     refine q1.mono ?_
     rintro e w3 ⟨rfl,hx3⟩
     have hb3:=(hx2.out.trans hx3).below
     have qg3:=qg.out w3 hb3
     clear q1 p0 p1 p2 p3
     obtain ⟨⟨p0,p1⟩,p2,p3⟩:=hbx.out w3 hx3.below
     replace hb3:=Lib.hid hb3
     replace hx3:=Lib.hid hx3.below
     clear qg
     go_wp2_with fail
     refine qg3.mono ?_
     rintro e w4 ⟨vL,us,rfl,hoL,hRo,hb4⟩
     have hsL:=nodes_slC hoL hRo
     obtain ⟨bL,cL,rfl⟩:∃ b c,vL = .slice b RL.length c:=by
      obtain ⟨b,c,h,-⟩:=hsL.shape
      rw [List.length_map] at h
      exact ⟨b,c,h⟩
     have hx5:=(Ext.refl w4).alloc (.cells #[.int .i64 n,.slice bL RL.length cL] 24)
     have hn5:=heap_alloc_new w4 (.cells #[.int .i64 n,.slice bL RL.length cL] 24)
     have hb5:=Lib.hid (hb3.out.trans ((hb4.trans (hx5.below.mono hb4.size)).mono hb3.out.size))
     have hx25:=Lib.hid (hx3.out.trans ((hb4.trans (hx5.below.mono hb4.size)).mono hx3.out.size))
     replace hsL:=Lib.hid (hsL.ext hx5.below)
     replace hn5:=Lib.hid hn5
     clear qg3 hoL hRo hb4 hx5 p0 p1 p2 p3 hb3 hx3
     go_wp2_with fail
     obtain ⟨gb,hgb⟩:∃ x,x = w4.heap.size:=⟨_,rfl⟩
     obtain ⟨w5,hw5⟩:∃ x,x = w4.alloc (.cells #[.int .i64 n,.slice bL RL.length cL] 24):=⟨_,rfl⟩
     rw [←hw5] at hb5 hx25 hsL hn5 ⊢
     rw [←hgb] at hn5 ⊢
     clear hw5 hgb
     have hS:∀ V,Below w5.heap.size w5 V→((V.cell? ⟨gb,0,none⟩ = some (.int .i64 n)∧V.cell? ⟨gb,1,none⟩ = some (.slice bL RL.length cL))∧(V.cell? ⟨w.heap.size,0,none⟩ = some (.int .i64 n)∧V.cell? ⟨w.heap.size,1,none⟩ = some (.slice ba nl.length cp))∧V.cell? ⟨w.heap.size+1,0,none⟩ = some (.int .u64 (lo a))∧V.cell? ⟨w.heap.size+1,1,none⟩ = some (.int .u64 (hi a))):=fun V hV=>by
      have f:=(hV.block _ (Array.getElem?_eq_some_iff.1 hn5.out).1).trans hn5.out
      obtain ⟨h1,h2⟩:=hbx.out V (hx25.out.trans (hV.mono hx25.out.size))
      exact ⟨⟨by rw [World.cell?,f];rfl,by rw [World.cell?,f];rfl⟩,h1,h2⟩
     replace hS:=Lib.hid hS
     have hE:Hid (Below w5.heap.size w5 w5.drew):=Lib.hid (Below.refl _ _).drew
     obtain ⟨⟨p0,p1⟩,⟨p2,p3⟩,p4,p5⟩:=hS.out _ (Below.refl _ _)
     try go_wp2_with fail
     (refine wp_region_held_drew (S:=(fun V=>(V.cell? ⟨gb,0,none⟩ = some (.int .i64 n)∧V.cell? ⟨gb,1,none⟩ = some (.slice bL RL.length cL))∧(V.cell? ⟨w.heap.size,0,none⟩ = some (.int .i64 n)∧V.cell? ⟨w.heap.size,1,none⟩ = some (.slice ba nl.length cp))∧V.cell? ⟨w.heap.size+1,0,none⟩ = some (.int .u64 (lo a))∧V.cell? ⟨w.heap.size+1,1,none⟩ = some (.int .u64 (hi a)))) (by kernel_rfl) ?_ (fun hHeld=>?_))
     ·exact hS.out _ hE.out
     clear p0 p1 p2 p3 p4 p5
     (refine takeL (i:=0) (v:=?_) rfl (by kernel_rfl) (by kernel_rfl) (by kernel_rfl) (fun _ _ _ h=>h) (Or.inl ⟨by rfl,?_⟩) (by assumption) ?_)
     rotate_left
     ·(intro w hSw;(try dsimp only at hSw);go_simp;first | done | with_reducible rfl)
     (try simp only [Act.put,List.setIfInBounds_toArray,List.set_cons_zero,List.set_cons_succ])
     (refine takeL (i:=1) (v:=?_) rfl (by kernel_rfl) (by kernel_rfl) (by kernel_rfl) (fun _ _ _ h=>h) (Or.inl ⟨by rfl,?_⟩) (by assumption) ?_)
     rotate_left
     ·(intro w hSw;(try dsimp only at hSw);go_simp;first | done | with_reducible rfl)
     (try simp only [Act.put,List.setIfInBounds_toArray,List.set_cons_zero,List.set_cons_succ])
     (refine takeL (i:=2) (v:=?_) rfl (by kernel_rfl) (by kernel_rfl) (by kernel_rfl) (fun _ _ _ h=>h) (Or.inl ⟨by rfl,?_⟩) (by assumption) ?_)
     rotate_left
     ·(intro w hSw;(try dsimp only at hSw);go_simp;first | done | with_reducible rfl)
     (try simp only [Act.put,List.setIfInBounds_toArray,List.set_cons_zero,List.set_cons_succ])
     (refine takeL (i:=3) (v:=?_) rfl (by kernel_rfl) (by kernel_rfl) (by kernel_rfl) (fun _ _ _ h=>h) (Or.inl ⟨by rfl,?_⟩) (by assumption) ?_)
     rotate_left
     ·(intro w hSw;(try dsimp only at hSw);go_simp;first | done | with_reducible rfl)
     (try simp only [Act.put,List.setIfInBounds_toArray,List.set_cons_zero,List.set_cons_succ])
     (refine takeL (i:=4) (v:=?_) rfl (by kernel_rfl) (by kernel_rfl) (by kernel_rfl) (fun _ _ _ h=>h) (Or.inl ⟨by rfl,?_⟩) (by assumption) ?_)
     rotate_left
     ·(intro w hSw;(try dsimp only at hSw);go_simp;first | done | with_reducible rfl)
     (try simp only [Act.put,List.setIfInBounds_toArray,List.set_cons_zero,List.set_cons_succ])
     (refine takeL (i:=5) (v:=?_) rfl (by kernel_rfl) (by kernel_rfl) (by kernel_rfl) (fun _ _ _ h=>h) (Or.inl ⟨by rfl,?_⟩) (by assumption) ?_)
     rotate_left
     ·(intro w hSw;(try dsimp only at hSw);go_simp;first | done | with_reducible rfl)
     (try simp only [Act.put,List.setIfInBounds_toArray,List.set_cons_zero,List.set_cons_succ])
     (refine takeL (i:=6) (v:=?_) rfl (by kernel_rfl) (by kernel_rfl) (by kernel_rfl) (fun _ _ _ h=>h) (Or.inl ⟨by rfl,?_⟩) (by assumption) ?_)
     rotate_left
     ·(intro w hSw;(try dsimp only at hSw);go_simp;first | done | with_reducible rfl)
     (try simp only [Act.put,List.setIfInBounds_toArray,List.set_cons_zero,List.set_cons_succ])
     (refine takeL (i:=7) (v:=?_) rfl (by kernel_rfl) (by kernel_rfl) (by kernel_rfl) (fun _ _ _ h=>h) (Or.inl ⟨by rfl,?_⟩) (by assumption) ?_)
     rotate_left
     ·(intro w hSw;(try dsimp only at hSw);go_simp;first | done | with_reducible rfl)
     (try simp only [Act.put,List.setIfInBounds_toArray,List.set_cons_zero,List.set_cons_succ])
     (refine takeL (i:=9) (v:=?_) rfl (by kernel_rfl) (by kernel_rfl) (by kernel_rfl) (fun _ _ _ h=>h) (Or.inl ⟨by rfl,?_⟩) (by assumption) ?_)
     rotate_left
     ·(intro w hSw;(try dsimp only at hSw);go_simp;first | done | with_reducible rfl)
     (try simp only [Act.put,List.setIfInBounds_toArray,List.set_cons_zero,List.set_cons_succ])
     (refine takeL (i:=10) (v:=?_) rfl (by kernel_rfl) (by kernel_rfl) (by kernel_rfl) (fun _ _ _ h=>h) (Or.inl ⟨by rfl,?_⟩) (by assumption) ?_)
     rotate_left
     ·(intro w hSw;(try dsimp only at hSw);go_simp;first | done | with_reducible rfl)
     (try simp only [Act.put,List.setIfInBounds_toArray,List.set_cons_zero,List.set_cons_succ])
     (refine takeL (i:=11) (v:=?_) rfl (by kernel_rfl) (by kernel_rfl) (by kernel_rfl) (fun _ _ _ h=>h) (Or.inl ⟨by rfl,?_⟩) (by assumption) ?_)
     rotate_left
     ·(intro w hSw;(try dsimp only at hSw);go_simp;first | done | with_reducible rfl)
     (try simp only [Act.put,List.setIfInBounds_toArray,List.set_cons_zero,List.set_cons_succ])
     (refine wpAnyH_ready (rs:=[8]) (by kernel_rfl) (by simp) ?_)
     (refine consL rfl (fun K hK=>?_))
     ((rw [if_pos (by rfl)]);go_simp;(go_at_call 19);refine (qE1.out _ _ (hsL.out.ext hE.out)).mono ?_;rintro e w6 ⟨rfl,hb6⟩;replace hE:=Lib.hid (hE.out.trans (hb6.mono hE.out.size));refine hK.out _ _ (hS.out _ hE.out) (fun hHeld=>?_);clear hb6)
     (clear hK K)
     (try simp only [Act.put,List.setIfInBounds_toArray,List.set_cons_zero,List.set_cons_succ])
     (refine wpAnyH_ready (rs:=[12]) (by kernel_rfl) (by simp) ?_)
     (refine consL rfl (fun K hK=>?_))
     ((rw [if_pos (by rfl)]);go_simp;(go_at_call 22);refine (qM.out _ (hb5.out.trans (hE.out.mono hb5.out.size))).mono ?_;rintro e w7 ⟨rfl,hb7⟩;replace hE:=Lib.hid (hE.out.trans (hb7.mono hE.out.size));refine hK.out _ _ (hS.out _ hE.out) (fun hHeld=>?_);clear hb7)
     (clear hK K)
     (try simp only [Act.put,List.setIfInBounds_toArray,List.set_cons_zero,List.set_cons_succ])
     (refine wpAnyH_ready (rs:=[13]) (by kernel_rfl) (by simp) ?_)
     (refine consL rfl (fun K hK=>?_))
     ((rw [if_pos (by rfl)]);go_simp;(go_at_call 19);refine (qE2.out _ (hb5.out.trans (hE.out.mono hb5.out.size))).mono ?_;rintro e w8 ⟨rfl,hb8⟩;replace hE:=Lib.hid (hE.out.trans (hb8.mono hE.out.size));refine hK.out _ _ (hS.out _ hE.out) (fun hHeld=>?_);clear hb8)
     (clear hK K)
     (try simp only [Act.put,List.setIfInBounds_toArray,List.set_cons_zero,List.set_cons_succ])
     (refine takeL (i:=14) (v:=?_) rfl (by kernel_rfl) (by kernel_rfl) (by kernel_rfl) (fun _ _ _ h=>h) (Or.inl ⟨by rfl,?_⟩) (by assumption) ?_)
     rotate_left
     ·(intro w hSw;(try dsimp only at hSw);go_simp;first | done | with_reducible rfl)
     (try simp only [Act.put,List.setIfInBounds_toArray,List.set_cons_zero,List.set_cons_succ])
     (refine takeL (i:=15) (v:=?_) rfl (by kernel_rfl) (by kernel_rfl) (by kernel_rfl) (fun _ _ _ h=>h) (Or.inl ⟨by rfl,?_⟩) (by assumption) ?_)
     rotate_left
     ·(intro w hSw;(try dsimp only at hSw);go_simp;first | done | with_reducible rfl)
     (try simp only [Act.put,List.setIfInBounds_toArray,List.set_cons_zero,List.set_cons_succ])
     (refine wpAnyH_done (by kernel_rfl) ?_ _)
     clear hHeld
     obtain ⟨⟨p0,p1⟩,⟨p2,p3⟩,p4,p5⟩:=hS.out _ hE.out
     have qv:=qV.out _ _ (hsL.out.ext hE.out)
     clear qE1 qE2 qM
     go_wp2_with fail
     refine qv.mono ?_
     rintro e w9 ⟨g,hg,rfl,hsets,hb9⟩
     have hE9:=hE.out.trans (hb9.mono hE.out.size)
     have hb09:Hid (Below w.heap.size w w9):=Lib.hid (hb5.out.trans (hE9.mono hb5.out.size))
     replace hsets:=Lib.hid hsets
     clear qv qV p0 p1 p2 p3 p4 p5 hb9 hE9 hE hg hS
     go_wp2_with fail
     go_loopw [61] (fun i wr=>∃ k:Nat,k≤RL.length∧i = .int .i64 (k:Nat)∧Hid (Below w9.heap.size w9 wr)) (fun i _=>RL.length - (intOf i).toNat)
     case atStart=>exact ⟨0,Nat.zero_le _,rfl,Lib.hid (Below.refl _ _)⟩
     case round =>
      obtain ⟨k,hk,rfl,hI⟩:=hrel
      by_cases hlt:k < RL.length
      ·have g0:(0:Int)≤(k:Int):=by omega
       have g1:(k:Int) < (RL.length:Int):=by omega
       obtain ⟨⟨c0,c1⟩,-,-⟩:=(hsets.out.below hI.out).cell hlt
       have hfk:=fun (z:Int) (hz:z∈t)=>hfree.out k hlt hz
       obtain ⟨s,hs⟩:∃ s,s = L.vset RL k:=⟨_,rfl⟩
       rw [←hs] at c0 c1
       simp only [←hs] at hfk
       have hxx:=(Ext.refl wr).alloc (.cells #[.int .u64 (lo s),.int .u64 (hi s)] 37)
       have hxn:=Lib.hid (heap_alloc_new wr (.cells #[.int .u64 (lo s),.int .u64 (hi s)] 37))
       have hI6:=Lib.hid (hI.out.trans (hxx.below.mono hI.out.size))
       replace hs:=Lib.hid hs
       replace hfk:=Lib.hid hfk
       clear hxx hI
       go_wp2_with fail
       generalize hxb:wr.heap.size = xb at *
       generalize (wr.alloc (.cells #[.int .u64 (lo s),.int .u64 (hi s)] 37)) = w10 at *
       clear c0 c1 hxb
       go_loopw [67] (fun i wr=>∃ j:Nat,j≤t.length∧i = .int .i64 (j:Nat)∧Hid (Below w9.heap.size w9 wr∧wr.heap[xb]? = some (.cells #[.int .u64 (lo s),.int .u64 (hi s)] 37))) (fun i _=>t.length - (intOf i).toNat)
       case atStart=>exact ⟨0,Nat.zero_le _,rfl,Lib.hid ⟨hI6.out,hxn.out⟩⟩
       case round =>
        clear hI6 hxn
        obtain ⟨j,hj,rfl,hJ⟩:=hrel
        by_cases hjl:j < t.length
        ·have m0:(0:Int)≤(j:Int):=by omega
         have m1:(j:Int) < (t.length:Int):=by omega
         obtain ⟨b2,o2,rfl,x0⟩:=hcell.out j hjl
         have hb0r:=hb09.out.trans (hJ.out.1.mono hb09.out.size)
         have x1:=(hb0r.cell (World.block_lt_of_cell? w _ x0)).trans x0
         have hmem:=List.getElem_mem hjl
         generalize t[j] = z at *
         have hzz:=hz.out z hmem
         have hf:=hfk.out z hmem
         have qv:=fun V=>var_any z V
         have hr:-9223372036854775808≤varF z∧varF z≤9223372036854775807:=by unfold varF;repeat' split <;> omega
         have qh:=fun V=>has_any s (varF z) V hr.1 hr.2
         simp only [hf] at qh
         generalize varF z = v at *
         have hSt:∀ V,Ext wr V→V.cell? ⟨xb,0,none⟩ = some (.int .u64 (lo s))∧V.cell? ⟨xb,1,none⟩ = some (.int .u64 (hi s)):=fun V hV=>by
          have f:=(hV.below.block _ (Array.getElem?_eq_some_iff.1 hJ.out.2).1).trans hJ.out.2
          exact ⟨by rw [World.cell?,f];rfl,by rw [World.cell?,f];rfl⟩
         replace hSt:=Lib.hid hSt
         replace qv:=Lib.hid qv
         replace qh:=Lib.hid qh
         clear x0 hb0r hr hf hmem
         go_wp2_with fail
         clear x1
         (refine wp_region_below (by kernel_rfl) (by kernel_rfl) ?_
          repeat (refine wpQuiet_step (fun K hK=>?_)
                  go_simp
                  first
                   | (refine hK _ ?_;clear hK K)
                   | (replace hK:=Lib.hid hK
                      apply Exists.intro
                      refine ⟨fun wq hq=>?_,hK.out _ ?_⟩
                      ·(obtain ⟨f1,f2⟩:=hSt.out wq hq)
                       go_simp
                       first
                        | done
                        | first | (refine (qv.out wq).mono ?_;rintro e w' ⟨rfl,rfl⟩;exact ⟨rfl,hq⟩) | (refine (qh.out wq).mono ?_;rintro e w' ⟨rfl,hb⟩;exact ⟨rfl,hq.trans hb⟩)
                        | rfl
                        | exact ⟨rfl,rfl⟩
                      clear hK K))
          refine wpQuiet_nil ?_)
         intro w11 hw11
         have hnx:Hid (Below w9.heap.size w9 w11∧w11.heap[xb]? = some (.cells #[.int .u64 (lo s),.int .u64 (hi s)] 37)):=Lib.hid ⟨hJ.out.1.trans (hw11.below.mono hJ.out.1.size),(hw11.below.block _ (Array.getElem?_eq_some_iff.1 hJ.out.2).1).trans hJ.out.2⟩
         clear hw11 hSt qv qh
         go_wp2_with fail
         go_roundw
         case rel=>exact ⟨j+1,by omega,by go_num,hnx⟩
         case measure=>simp [intOf];omega
        ·obtain rfl:j = t.length:=by omega
         have hJ1:=Lib.hid hJ.out.1
         go_wp2_with fail
         go_roundw
         case rel=>exact ⟨k+1,by omega,by go_num,hJ1⟩
         case measure=>simp [intOf];omega
      ·obtain rfl:k = RL.length:=by omega
       have hb:=hb09.out.trans (hI.out.mono hb09.out.size)
       have q:=hw.out _ hb
       replace hb:=Lib.hid hb
       go_wp2_with fail
       refine q.mono ?_
       rintro e w12 ⟨rfl,hb12⟩
       clear q
       go_wp2_with fail
       go_ret
       exact ⟨rfl,hb.out.trans (hb12.mono hb.out.size)⟩
    ·have qg:=fun (W:World) (hW:Below w.heap.size w W)=>given_err (hvq.out.ext hW) hC80 hC20.out (htq.out.ext hW) htl hok
     replace qg:=Lib.hid qg
     replace hok:=Lib.hid hok
     clear hL hl
     go_enter Tryz.func7,Tryz.ntmps7
     go_wp2_with fail
     rw [←hw2]
     replace hw2:=Lib.hid hw2
     refine q1.mono ?_
     rintro e w3 ⟨rfl,hx3⟩
     have hb3:=(hx2.out.trans hx3).below
     have qg3:=qg.out w3 hb3
     clear q1 p0 p1 p2 p3
     obtain ⟨⟨p0,p1⟩,p2,p3⟩:=hbx.out w3 hx3.below
     replace hb3:=Lib.hid hb3
     clear qg hx3
     go_wp2_with fail
     refine qg3.mono ?_
     rintro e w4 ⟨rfl,hb4⟩
     have hx5:=(Ext.refl w4).alloc (.cells #[.int .i64 0,.slice none 0 0] 24)
     have hn5:=heap_alloc_new w4 (.cells #[.int .i64 0,.slice none 0 0] 24)
     have hb5:=hb3.out.trans ((hb4.trans (hx5.below.mono hb4.size)).mono hb3.out.size)
     have z0:(w4.alloc (.cells #[.int .i64 0,.slice none 0 0] 24)).cell? ⟨w4.heap.size,0,none⟩ = some (.int .i64 0):=by rw [World.cell?,hn5];rfl
     have z1:(w4.alloc (.cells #[.int .i64 0,.slice none 0 0] 24)).cell? ⟨w4.heap.size,1,none⟩ = some (.slice none 0 0):=by rw [World.cell?,hn5];rfl
     have q:=hw.out _ hb5
     replace hb5:=Lib.hid hb5
     clear qg3 p0 p1 p2 p3 hb4 hx5 hn5 hb3
     go_wp2_with fail
     refine q.mono ?_
     rintro e w6 ⟨rfl,hb6⟩
     clear q z0 z1
     go_wp2_with fail
     go_ret
     exact ⟨rfl,hb5.out.trans (hb6.mono hb5.out.size)⟩
   ·have d3:decide ((t.length:Int) > 300) = true:=decide_eq_true (by omega)
    go_enter Tryz.func7,Tryz.ntmps7
    go_wp2_with fail
    rw [←hw2]
    replace hw2:=Lib.hid hw2
    refine q1.mono ?_
    rintro e w3 ⟨rfl,hx3⟩
    have hb3:=(hx2.out.trans hx3).below
    have q:=hw.out _ hb3
    replace hb3:=Lib.hid hb3
    clear q1 p0 p1 p2 p3 hx3
    go_wp2_with fail
    refine q.mono ?_
    rintro e w4 ⟨rfl,hb4⟩
    clear q
    go_wp2_with fail
    go_ret
    exact ⟨rfl,hb3.out.trans (hb4.mono hb3.out.size)⟩
theorem condholds_card {n:Int} {C:List L.Gt} {t:List Int} {x0 x1:Int} {u tv:Value} (w:World) (hP:PowTab w) (hv:SlC w u C∧C.length≤9223372036854775807∧(-9223372036854775808≤n∧n≤9223372036854775807)) (ht:SlI w tv t) (hz:(0≤x0∧x0≤18446744073709551615)∧(0≤x1∧x1≤18446744073709551615)) :
  Calls Tryz.prog 7 #[.agg #[.int .i64 n,u],tv,.agg #[.int .u64 x0,.int .u64 x1]] w fun e w'=>e = .returned (.bool true)∧Below w.heap.size w w':=by
 obtain ⟨a,rfl,rfl⟩:=vset_of hz.1 hz.2
 exact condholds_any w hP hv.1 hv.2.1 ht
end Go.Proofs.YtckhohpbokojdaaGreatDoor
