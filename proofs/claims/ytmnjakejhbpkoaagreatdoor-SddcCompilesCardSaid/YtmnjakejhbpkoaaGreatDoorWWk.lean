import Derived.Test.YtmnjakejhbpkoaaGreatDoorWJoin
section
set_option linter.unusedSimpArgs false
set_option linter.unusedVariables false
namespace Go.Proofs.YtmnjakejhbpkoaaGreatDoor
open Go Go.RowKit Go.Shelf
set_option maxRecDepth 100000 in
set_option maxHeartbeats 2000000 in
theorem open_bad {t:List VN} (w:World) (ba:Option Addr) (cap:Nat) (need:VSet) (h:t = []∨∃ b o,ba = some ⟨b,o,none⟩∧TreeAt w b o t) (hc:checkF t≠0) :
  Calls Tryz.prog 79 #[.slice ba t.length cap,.agg #[.int .u64 (lo need),.int .u64 (hi need)]] w fun e w'=>e = .returned (.tuple #[.pointer none,.int .i64 (checkF t)])∧Ext w w':=by
 have hx1:=(Ext.refl w).alloc (.cells #[.int .u64 (lo need),.int .u64 (hi need)] 41)
 have q:=check_any (w.alloc (.cells #[.int .u64 (lo need),.int .u64 (hi need)] 41)) ba cap (h.imp id fun ⟨b,o,e,ht⟩=>⟨b,o,e,ht.ext hx1⟩)
 have hd:(checkF t != 0) = true:=by simpa using hc
 generalize checkF t = z at *
 clear hc h
 go_enter Tryz.func79,Tryz.ntmps79
 go_wp2_with fail
 refine q.mono ?_
 rintro e w2 ⟨rfl,hx2⟩
 clear q
 go_wp2_with fail
 go_ret2
 exact ⟨rfl,hx1.trans hx2⟩
set_option maxRecDepth 100000 in
set_option maxHeartbeats 4000000 in
theorem open_no {t:List VN} (w:World) (b o cap:Nat) (need:VSet) (h:TreeAt w b o t) (hc:checkF t = 0) (hno:∃ u,hasS need u = true∧¬ VarOf t u) :
  Calls Tryz.prog 79 #[.slice (some ⟨b,o,none⟩) t.length cap,.agg #[.int .u64 (lo need),.int .u64 (hi need)]] w fun e w'=>e = .returned (.tuple #[.pointer none,.int .i64 1])∧Below w.heap.size w w':=by
 have hx1:=(Ext.refl w).alloc (.cells #[.int .u64 (lo need),.int .u64 (hi need)] 41)
 have hn1:=heap_alloc_new w (.cells #[.int .u64 (lo need),.int .u64 (hi need)] 41)
 obtain ⟨w1,hw1⟩:∃ w1,w1 = w.alloc (.cells #[.int .u64 (lo need),.int .u64 (hi need)] 41):=⟨_,rfl⟩
 rw [←hw1] at hx1 hn1
 have q:=check_any w1 (some ⟨b,o,none⟩) cap (.inr ⟨b,o,rfl,h.ext hx1⟩)
 rw [hc] at q
 have h1:=h.ext hx1
 replace hx1:=Lib.hid hx1
 replace hno:=Lib.hid hno
 replace hc:=Lib.hid hc
 go_enter Tryz.func79,Tryz.ntmps79
 go_wp2_with fail
 rw [←hw1]
 replace hw1:=Lib.hid hw1
 refine q.mono ?_
 rintro e w2 ⟨rfl,hx2⟩
 have hn2:=(hx2.below.block _ (Array.getElem?_eq_some_iff.1 hn1).1).trans hn1
 have h2:=h1.ext hx2
 have c0:w2.cell? ⟨w.heap.size,0,none⟩ = some (.int .u64 (lo need)):=by simp [World.cell?,hn2]
 have c1:w2.cell? ⟨w.heap.size,1,none⟩ = some (.int .u64 (hi need)):=by simp [World.cell?,hn2]
 have hxx:=hx1.out.trans hx2
 replace hxx:=Lib.hid hxx
 replace h2:=Lib.hid h2
 clear q hn1 hn2 h1 hx2
 go_wp2_with fail
 (refine wp_region_held_drew (S:=(fun V=>V.cell? ⟨w.heap.size,0,none⟩ = some (.int .u64 (lo need))∧V.cell? ⟨w.heap.size,1,none⟩ = some (.int .u64 (hi need)))) (by kernel_rfl) ?_ (fun hHeld=>?_))
 ·exact ⟨c0,c1⟩
 (refine takeL (i:=0) (v:=?_) rfl (by kernel_rfl) (by kernel_rfl) (by kernel_rfl) (fun _ _ _ h=>h) (Or.inl ⟨by rfl,?_⟩) (by assumption) ?_)
 rotate_left
 ·(intro w hSw;(try dsimp only at hSw);go_simp;first | done | with_reducible rfl)
 (try simp only [Act.put,List.setIfInBounds_toArray,List.set_cons_zero,List.set_cons_succ])
 (refine takeL (i:=1) (v:=?_) rfl (by kernel_rfl) (by kernel_rfl) (by kernel_rfl) (fun _ _ _ h=>h) (Or.inl ⟨by rfl,?_⟩) (by assumption) ?_)
 rotate_left
 ·(intro w hSw;(try dsimp only at hSw);go_simp;first | done | with_reducible rfl)
 (try simp only [Act.put,List.setIfInBounds_toArray,List.set_cons_zero,List.set_cons_succ])
 have qa:=fun V (hV:TreeAt V b o t)=>vall_any (cap:=cap) V b o hV hc.out
 have qs:=fun m V=>varsSub_any need m V
 unfold encS at qs
 replace qa:=Lib.hid qa
 replace qs:=Lib.hid qs
 (refine wpAnyH_ready (rs:=[2]) (by kernel_rfl) (by simp) ?_)
 (refine consL rfl (fun K hK=>?_))
 ((rw [if_pos (by rfl)]);go_simp;(go_at_call 150);refine (qa.out _ (h2.out.below ((Below.refl _ _).drew))).mono ?_;rintro e w3 ⟨m,rfl,hm,hb3⟩;refine hK.out _ _ ⟨(hb3.cell (World.block_lt_of_cell? _ _ hHeld.1)).trans hHeld.1,(hb3.cell (World.block_lt_of_cell? _ _ hHeld.2)).trans hHeld.2⟩ (fun hHeld=>?_))
 (clear hK K)
 (try simp only [Act.put,List.setIfInBounds_toArray,List.set_cons_zero,List.set_cons_succ])
 have qs2:=qs.out m
 replace hm:=Lib.hid hm
 (refine wpAnyH_ready (rs:=[3]) (by kernel_rfl) (by simp) ?_)
 (refine consL rfl (fun K hK=>?_))
 ((rw [if_pos (by rfl)]);go_simp;(go_at_call 111);refine (qs2 _).mono ?_;rintro e w4 ⟨rfl,hx4⟩;refine hK.out _ _ ⟨hx4.cell hHeld.1,hx4.cell hHeld.2⟩ (fun hHeld=>?_))
 (clear hK K)
 (try simp only [Act.put,List.setIfInBounds_toArray,List.set_cons_zero,List.set_cons_succ])
 (refine takeL (i:=4) (v:=?_) rfl (by kernel_rfl) (by kernel_rfl) (by kernel_rfl) (fun _ _ _ h=>h) (Or.inl ⟨by rfl,?_⟩) (by assumption) ?_)
 rotate_left
 ·(intro w hSw;(try dsimp only at hSw);go_simp;first | done | with_reducible rfl)
 (try simp only [Act.put,List.setIfInBounds_toArray,List.set_cons_zero,List.set_cons_succ])
 (refine wpAnyH_done (by kernel_rfl) ?_ _)
 have hb2:Below w2.heap.size w2 w3:=((Below.refl _ _).drew).trans hb3
 have hxe:Below w.heap.size w w4:=hxx.out.below.trans ((hb2.trans (hx4.below.mono hb2.size)).mono hxx.out.below.size)
 have h4:TreeAt w4 b o t:=(h2.out.below hb2).ext hx4
 have hs:subS need m = false:=by
  cases e:subS need m
  ·rfl
  ·obtain ⟨u,hu,hnu⟩:=hno.out
   exact absurd ((bel_root hc.out u).1 ((isBel_has hm.out (L.hasS_range hu)).1 ((subS_iff _ _).1 e u hu))) hnu
 rw [hs]
 replace hxe:=Lib.hid hxe
 clear qs2 qs qa hx4 hb3 hb2 h4 hHeld
 go_wp2_with fail
 go_ret2
 exact ⟨rfl,hxe.out⟩
set_option maxRecDepth 100000 in
set_option maxHeartbeats 4000000 in
theorem open_ok {t:List VN} (w:World) (b o cap:Nat) (need:VSet) (h:TreeAt w b o t) (hc:checkF t = 0) (hno:∀ u,hasS need u = true→VarOf t u) {w0:World} (hbel:Below w0.heap.size w0 w) (hT:TzTab w) (hP:PowTab w) (hfew:t.length≤11) :
  Calls Tryz.prog 79 #[.slice (some ⟨b,o,none⟩) t.length cap,.agg #[.int .u64 (lo need),.int .u64 (hi need)]] w fun e w'=>∃ sb,e = .returned (.tuple #[.pointer (some ⟨sb,0,none⟩),.int .i64 0])∧SL t sb 327000 [] (newSt t) w0 w'∧Val (newSt t) 0 (fun _=>false)∧Val (newSt t) 1 (fun _=>true)∧Below w.heap.size w w':=by
 replace hbel:=Lib.hid hbel
 replace hT:=Lib.hid hT
 replace hP:=Lib.hid hP
 have hx1:=(Ext.refl w).alloc (.cells #[.int .u64 (lo need),.int .u64 (hi need)] 41)
 have hn1:=heap_alloc_new w (.cells #[.int .u64 (lo need),.int .u64 (hi need)] 41)
 obtain ⟨w1,hw1⟩:∃ w1,w1 = w.alloc (.cells #[.int .u64 (lo need),.int .u64 (hi need)] 41):=⟨_,rfl⟩
 rw [←hw1] at hx1 hn1
 have q:=check_any w1 (some ⟨b,o,none⟩) cap (.inr ⟨b,o,rfl,h.ext hx1⟩)
 rw [hc] at q
 have h1:=h.ext hx1
 replace hx1:=Lib.hid hx1
 replace hno:=Lib.hid hno
 replace hc:=Lib.hid hc
 go_enter Tryz.func79,Tryz.ntmps79
 go_wp2_with fail
 rw [←hw1]
 replace hw1:=Lib.hid hw1
 refine q.mono ?_
 rintro e w2 ⟨rfl,hx2⟩
 have hn2:=(hx2.below.block _ (Array.getElem?_eq_some_iff.1 hn1).1).trans hn1
 have h2:=h1.ext hx2
 have c0:w2.cell? ⟨w.heap.size,0,none⟩ = some (.int .u64 (lo need)):=by simp [World.cell?,hn2]
 have c1:w2.cell? ⟨w.heap.size,1,none⟩ = some (.int .u64 (hi need)):=by simp [World.cell?,hn2]
 have hxx:=hx1.out.trans hx2
 replace hxx:=Lib.hid hxx
 replace h2:=Lib.hid h2
 clear q hn1 hn2 h1 hx2
 go_wp2_with fail
 (refine wp_region_held_drew (S:=(fun V=>V.cell? ⟨w.heap.size,0,none⟩ = some (.int .u64 (lo need))∧V.cell? ⟨w.heap.size,1,none⟩ = some (.int .u64 (hi need)))) (by kernel_rfl) ?_ (fun hHeld=>?_))
 ·exact ⟨c0,c1⟩
 (refine takeL (i:=0) (v:=?_) rfl (by kernel_rfl) (by kernel_rfl) (by kernel_rfl) (fun _ _ _ h=>h) (Or.inl ⟨by rfl,?_⟩) (by assumption) ?_)
 rotate_left
 ·(intro w hSw;(try dsimp only at hSw);go_simp;first | done | with_reducible rfl)
 (try simp only [Act.put,List.setIfInBounds_toArray,List.set_cons_zero,List.set_cons_succ])
 (refine takeL (i:=1) (v:=?_) rfl (by kernel_rfl) (by kernel_rfl) (by kernel_rfl) (fun _ _ _ h=>h) (Or.inl ⟨by rfl,?_⟩) (by assumption) ?_)
 rotate_left
 ·(intro w hSw;(try dsimp only at hSw);go_simp;first | done | with_reducible rfl)
 (try simp only [Act.put,List.setIfInBounds_toArray,List.set_cons_zero,List.set_cons_succ])
 have qa:=fun V (hV:TreeAt V b o t)=>vall_any (cap:=cap) V b o hV hc.out
 have qs:=fun m V=>varsSub_any need m V
 unfold encS at qs
 replace qa:=Lib.hid qa
 replace qs:=Lib.hid qs
 (refine wpAnyH_ready (rs:=[2]) (by kernel_rfl) (by simp) ?_)
 (refine consL rfl (fun K hK=>?_))
 ((rw [if_pos (by rfl)]);go_simp;(go_at_call 150);refine (qa.out _ (h2.out.below ((Below.refl _ _).drew))).mono ?_;rintro e w3 ⟨m,rfl,hm,hb3⟩;refine hK.out _ _ ⟨(hb3.cell (World.block_lt_of_cell? _ _ hHeld.1)).trans hHeld.1,(hb3.cell (World.block_lt_of_cell? _ _ hHeld.2)).trans hHeld.2⟩ (fun hHeld=>?_))
 (clear hK K)
 (try simp only [Act.put,List.setIfInBounds_toArray,List.set_cons_zero,List.set_cons_succ])
 have qs2:=qs.out m
 replace hm:=Lib.hid hm
 (refine wpAnyH_ready (rs:=[3]) (by kernel_rfl) (by simp) ?_)
 (refine consL rfl (fun K hK=>?_))
 ((rw [if_pos (by rfl)]);go_simp;(go_at_call 111);refine (qs2 _).mono ?_;rintro e w4 ⟨rfl,hx4⟩;refine hK.out _ _ ⟨hx4.cell hHeld.1,hx4.cell hHeld.2⟩ (fun hHeld=>?_))
 (clear hK K)
 (try simp only [Act.put,List.setIfInBounds_toArray,List.set_cons_zero,List.set_cons_succ])
 (refine takeL (i:=4) (v:=?_) rfl (by kernel_rfl) (by kernel_rfl) (by kernel_rfl) (fun _ _ _ h=>h) (Or.inl ⟨by rfl,?_⟩) (by assumption) ?_)
 rotate_left
 ·(intro w hSw;(try dsimp only at hSw);go_simp;first | done | with_reducible rfl)
 (try simp only [Act.put,List.setIfInBounds_toArray,List.set_cons_zero,List.set_cons_succ])
 (refine wpAnyH_done (by kernel_rfl) ?_ _)
 have hb2:Below w2.heap.size w2 w3:=((Below.refl _ _).drew).trans hb3
 have hxe:Below w.heap.size w w4:=hxx.out.below.trans ((hb2.trans (hx4.below.mono hb2.size)).mono hxx.out.below.size)
 have h4:TreeAt w4 b o t:=(h2.out.below hb2).ext hx4
 have hs:subS need m = true:=(subS_iff _ _).2 fun u hu=>(isBel_has hm.out (L.hasS_range hu)).2 ((bel_root hc.out u).2 (hno.out u hu))
 rw [hs]
 have q:=new_L (w0:=w0) b o cap (hbel.out.trans (hxe.mono hbel.out.size)) (hT.out.below hT.out.lt hxe) (hP.out.below hxe) h4 hc.out hfew
 replace hxe:=Lib.hid hxe
 clear qs2 qs qa hx4 hb3 hb2 h4 hHeld
 go_wp2_with fail
 refine q.mono ?_
 rintro e w5 ⟨sb,rfl,hS5,v0,v1,hb5⟩
 replace hS5:=Lib.hid hS5
 clear q
 go_wp2_with fail
 go_ret2
 exact ⟨sb,rfl,hS5.out,v0,v1,hxe.out.trans (hb5.mono hxe.out.size)⟩
end Go.Proofs.YtmnjakejhbpkoaaGreatDoor
end
section
set_option linter.unusedSimpArgs false
set_option linter.unusedVariables false
namespace Go.Proofs.YtmnjakejhbpkoaaGreatDoor
open Go Go.RowKit Go.Shelf
theorem SL.base {t:List VN} {sb k:Nat} {X:List Nat} {s:St} {w0 w1 w:World} (h:SL t sb k X s w1 w) (hb:Below w0.heap.size w0 w1):SL t sb k X s w0 w:=by
 obtain ⟨B,h1,h2,h3,h4⟩:=h.on
 exact ⟨⟨B,h1,h2,fun j hj=>Nat.le_trans hb.size (h3 j hj),h4⟩,h.room,h.tree,hb.trans (h.bel.mono hb.size)⟩
set_option maxRecDepth 100000 in
set_option maxHeartbeats 2000000 in
theorem compile_err {n:Int} {T:List (List Int)} {v:Value} {w:World} (hv:SlT w v T) (ba:Option Addr) (len cap:Nat) (hno:L.thChk n T≠0) :
  Calls Tryz.prog 19 #[.agg #[.int .i64 n,v],.slice ba len cap] w fun e w'=>e = .returned (.tuple #[.pointer none,.int .i64 0,.int .i64 (L.thChk n T)])∧Ext w w':=by
 have hx1:=(Ext.refl w).alloc (.cells #[.int .i64 n,v] 24)
 have q:=thCheck_any (n:=n) (hv.ext hx1.below)
 obtain ⟨ba2,c2,rfl,_⟩:=hv
 have hd:(L.thChk n T != 0) = true:=by simpa using hno
 generalize L.thChk n T = z at *
 clear hno
 go_enter Tryz.func19,Tryz.ntmps19
 go_wp2_with fail
 refine q.mono ?_
 rintro e w2 ⟨rfl,hx2⟩
 clear q
 go_wp2_with fail
 go_ret3
 exact ⟨rfl,hx1.trans hx2⟩
set_option maxRecDepth 100000 in
set_option maxHeartbeats 2000000 in
theorem compile_bad {n:Int} {T:List (List Int)} {v:Value} {w:World} (hv:SlT w v T) {t:List VN} (ba:Option Addr) (cap:Nat) (hok:L.thChk n T = 0) {E:Int} (hE:E≠0)
  (hopen:∀ W,Ext w W→Calls Tryz.prog 79 #[.slice ba t.length cap,.agg #[.int .u64 (lo (L.thVars T)),.int .u64 (hi (L.thVars T))]] W fun e w'=>e = .returned (.tuple #[.pointer none,.int .i64 E])∧Below W.heap.size W w') :
  Calls Tryz.prog 19 #[.agg #[.int .i64 n,v],.slice ba t.length cap] w fun e w'=>e = .returned (.tuple #[.pointer none,.int .i64 0,.int .i64 E])∧Below w.heap.size w w':=by
 have hx1:=(Ext.refl w).alloc (.cells #[.int .i64 n,v] 24)
 have hn1:=heap_alloc_new w (.cells #[.int .i64 n,v] 24)
 have q:=thCheck_any (n:=n) (hv.ext hx1.below)
 rw [hok] at q
 have hd:(E != 0) = true:=by simpa using hE
 obtain ⟨w1,hw1⟩:∃ w1,w1 = w.alloc (.cells #[.int .i64 n,v] 24):=⟨_,rfl⟩
 rw [←hw1] at hx1 hn1 q
 have c0:w1.cell? ⟨w.heap.size,0,none⟩ = some (.int .i64 n):=by simp [World.cell?,hn1]
 have c1:w1.cell? ⟨w.heap.size,1,none⟩ = some v:=by simp [World.cell?,hn1]
 have hvh:=Lib.hid hv
 obtain ⟨ba2,c2,rfl,_⟩:=hv
 replace hok:=Lib.hid hok
 clear hE hn1
 replace hopen:=Lib.hid hopen
 go_enter Tryz.func19,Tryz.ntmps19
 go_wp2_with fail
 rw [←hw1]
 replace hw1:=Lib.hid hw1
 refine q.mono ?_
 rintro e w2 ⟨rfl,hx2⟩
 have hxx:=hx1.trans hx2
 have qv:=thVars_any (n:=n) (hvh.out.ext hxx.below) hok.out
 have d0:=hx2.cell c0
 have d1:=hx2.cell c1
 unfold encS at qv
 replace hx1:=Lib.hid hx1
 replace hx2:=Lib.hid hx2
 clear q c0 c1
 go_wp2_with fail
 refine qv.mono ?_
 rintro e w3 ⟨rfl,hx3⟩
 have q3:=hopen.out w3 (hxx.trans hx3)
 clear qv
 go_wp2_with fail
 refine q3.mono ?_
 rintro e w4 ⟨rfl,hb4⟩
 clear q3
 go_wp2_with fail
 go_ret3
 exact ⟨rfl,(hxx.trans hx3).below.trans (hb4.mono (hxx.trans hx3).below.size)⟩
set_option maxRecDepth 100000 in
set_option maxHeartbeats 4000000 in
theorem compile_ok {n:Int} {T:List (List Int)} {v:Value} {w:World} (hv:SlT w v T) {t:List VN} (b o cap:Nat) (hok:L.thChk n T = 0) (h30:T.length≤30) (htr:TreeAt w b o t) (hc:checkF t = 0) (hfew:t.length≤11) (hsub:∀ u,hasS (L.thVars T) u = true→VarOf t u) (hT:TzTab w) (hP:PowTab w) :
  Calls Tryz.prog 19 #[.agg #[.int .i64 n,v],.slice (some ⟨b,o,none⟩) t.length cap] w fun e w'=>∃ (sb root:Nat) (s:St),e = .returned (.tuple #[.pointer (some ⟨sb,0,none⟩),.int .i64 (root:Nat),.int .i64 0])∧SL t sb 50820 [] s w w'∧Val s root (L.thφ T)∧Below w.heap.size w w':=by
 obtain ⟨⟨hn0,hn1'⟩,_,hall⟩:=L.thChk_ok.1 hok
 have hx1:=(Ext.refl w).alloc (.cells #[.int .i64 n,v] 24)
 have hn1:=heap_alloc_new w (.cells #[.int .i64 n,v] 24)
 have q:=thCheck_any (n:=n) (hv.ext hx1.below)
 rw [hok] at q
 have hz:gPow < w.heap.size∧gTz < w.heap.size:=⟨hP.lt,hT.lt'⟩
 have hlv:∀ c∈T,∀ l∈c,VarOf t (l.natAbs:Int):=fun c hc l hl=>by
  have h1:=L.validB_range hn1' ((hall c hc).2 l hl)
  exact hsub _ ((L.hasS_thVars T _).2 ⟨c,hc,l,hl,rfl,h1.1,h1.2.2⟩)
 have hcl:∀ c∈T,c.length≤128:=fun c hc=>(hall c hc).1
 obtain ⟨w1,hw1⟩:∃ w1,w1 = w.alloc (.cells #[.int .i64 n,v] 24):=⟨_,rfl⟩
 rw [←hw1] at hx1 hn1 q
 have c0:w1.cell? ⟨w.heap.size,0,none⟩ = some (.int .i64 n):=by simp [World.cell?,hn1]
 have c1:w1.cell? ⟨w.heap.size,1,none⟩ = some v:=by simp [World.cell?,hn1]
 have hvh:=Lib.hid hv
 obtain ⟨ba2,c2,rfl,hv0⟩:=hv
 have hcs:∀ j (hj:j < T.length),∃ b o u,ba2 = some ⟨b,o,none⟩∧w.cell? ⟨b,o+j,none⟩ = some u∧SlI w u T[j]:=fun j hj=>by
  rcases hv0 with ⟨_,rfl,_⟩ | ⟨b,o,rfl,h⟩
  ·simp at hj
  ·obtain ⟨u,h1,h2⟩:=h j hj
   exact ⟨b,o,u,rfl,h1,h2⟩
 replace hcs:=Lib.hid hcs
 replace hok:=Lib.hid hok
 replace hc:=Lib.hid hc
 replace hT:=Lib.hid hT
 replace hP:=Lib.hid hP
 replace hlv:=Lib.hid hlv
 replace hcl:=Lib.hid hcl
 replace hsub:=Lib.hid hsub
 replace htr:=Lib.hid htr
 clear hn1 hall hv0
 go_enter Tryz.func19,Tryz.ntmps19
 go_wp2_with fail
 rw [←hw1]
 replace hw1:=Lib.hid hw1
 refine q.mono ?_
 rintro e w2 ⟨rfl,hx2⟩
 have hxx:=hx1.trans hx2
 have qv:=thVars_any (n:=n) (hvh.out.ext hxx.below) hok.out
 have d0:=hx2.cell c0
 have d1:=hx2.cell c1
 unfold encS at qv
 replace hx1:=Lib.hid hx1
 replace hx2:=Lib.hid hx2
 clear q c0 c1
 go_wp2_with fail
 refine qv.mono ?_
 rintro e w3 ⟨rfl,hx3⟩
 have hx03:=hxx.trans hx3
 have q3:=open_ok (w0:=w) w3 b o cap (L.thVars T) (htr.out.ext hx03) hc.out hsub.out hx03.below (hT.out.ext hx03) (hP.out.below hx03.below) hfew
 have e1:=hx3.cell d1
 replace hx3:=Lib.hid hx3
 replace hx03:=Lib.hid hx03
 replace hxx:=Lib.hid hxx
 clear qv d0 d1
 go_wp2_with fail
 refine q3.mono ?_
 rintro e w4 ⟨sb,rfl,hS4,v0,v1,hb4⟩
 have f1:=(hb4.cell (World.block_lt_of_cell? _ _ e1)).trans e1
 replace hS4:=Lib.hid hS4
 replace v0:=Lib.hid v0
 replace v1:=Lib.hid v1
 clear q3 e1
 go_wp2_with fail
 clear f1
 go_loopw [4,5,30] (fun y x i wr=>∃ (k r:Nat),k≤T.length∧y = .pointer (some ⟨sb,0,none⟩)∧x = .int .i64 (r:Nat)∧i = .int .i64 k∧Hid (∃ s',SL t sb (50820+(T.length - k) * 9206) [] s' w wr∧L.Step (newSt t) s'∧Val s' r (L.thφ (T.take k)))) (fun y x i _=>T.length - (intOf i).toNat)
 case atStart=>exact ⟨0,1,Nat.zero_le _,rfl,rfl,rfl,Lib.hid ⟨_,hS4.out.less (by omega),L.Step.refl hS4.out.inv,v1.out.congr fun x=>by simp [L.thφ]⟩⟩
 case round =>
  obtain ⟨k,r,hk,rfl,rfl,rfl,hI⟩:=hrel
  obtain ⟨s',hS,hs,hv⟩:=hI.out
  clear hI
  by_cases hlt:k < T.length
  ·obtain ⟨b2,o2,u,rfl,g1,g2⟩:=hcs.out k hlt
   have g1:=(hS.bel.cell (World.block_lt_of_cell? w _ g1)).trans g1
   have hcm:=List.getElem_mem hlt
   have hc128:=hcl.out _ hcm
   have q:=clause_any hS hz (v0.out.step hS4.out.inv hs) g2 (hlv.out _ hcm) hc128 (k':=50820+(T.length - (k+1)) * 9206+118) (by omega)
   have htk:Hid (T.take (k+1) = T.take k++[T[k]]):=Lib.hid (List.take_succ_eq_append_getElem hlt)
   generalize T[k] = c at *
   obtain ⟨bb,cc,rfl,_⟩:=g2
   replace hS:=Lib.hid hS
   replace hv:=Lib.hid hv
   go_wp2_with fail
   refine q.mono ?_
   rintro e w5 ⟨r5,s5,rfl,hS5,hs5,hv5,_,_⟩
   have q5:=hS5.and (k':=50820+(T.length - (k+1)) * 9206) (by omega) (hv.out.step hS.out.inv hs5) hv5
   replace hS5:=Lib.hid hS5
   replace hv5:=Lib.hid hv5
   clear q
   go_wp2_with fail
   refine q5.mono ?_
   rintro e w6 ⟨r6,s6,rfl,hS6,hs6,hv6,_,_⟩
   have hnew:Hid (∃ s',SL t sb (50820+(T.length - (k+1)) * 9206) [] s' w w6∧L.Step (newSt t) s'∧Val s' r6 (L.thφ (T.take (k+1)))):=Lib.hid ⟨s6,hS6,(hs.trans hs5).trans hs6,hv6.congr fun x=>by rw [htk.out,L.thφ_snoc]⟩
   clear q5 hS6 hv6
   go_wp2_with fail
   exact ⟨⟨k+1,r6,by omega,rfl,rfl,rfl,hnew⟩,by simp [intOf];omega⟩
  ·obtain rfl:k = T.length:=by omega
   rw [List.take_length] at hv
   replace hS:=Lib.hid hS
   replace hv:=Lib.hid hv
   go_wp2_with fail
   go_ret3
   exact ⟨sb,r,s',rfl,hS.out.less (by omega),hv.out,hS.out.bel⟩
end Go.Proofs.YtmnjakejhbpkoaaGreatDoor
end
section
set_option linter.unusedSimpArgs false
set_option linter.unusedVariables false
namespace Go.Proofs.YtmnjakejhbpkoaaGreatDoor
open Go Go.RowKit Go.Shelf
def t5:List VN:=[⟨-1,-1,1⟩,⟨-1,-1,2⟩,⟨0,1,0⟩,⟨-1,-1,3⟩,⟨2,3,0⟩]
def T2:List (List Int):=[[1,2],[-1,3]]
theorem checkT5:checkF t5 = 0:=by kernel_rfl
theorem thT2:L.thChk 3 T2 = 0:=by kernel_rfl
theorem cntT2:L.cnt (L.vl t5 4) (L.thφ T2) = 4:=by kernel_rfl
theorem givT:L.giv (L.thφ T2) 1 true = litφ 3:=by
 funext x
 simp [L.giv,L.upd,L.thφ,L.clφ,L.liφ,T2,litφ]
theorem givF:L.giv (L.thφ T2) 1 false = litφ 2:=by
 funext x
 simp [L.giv,L.upd,L.thφ,L.clφ,L.liφ,T2,litφ]
theorem txL3:(literalF (newSt t5) 3 3).map (fun p=>L.tx p.2.nodes p.1) = some [51]:=by kernel_rfl
theorem txL2:(literalF (newSt t5) 2 1).map (fun p=>L.tx p.2.nodes p.1) = some [50]:=by kernel_rfl
set_option maxRecDepth 100000 in
set_option maxHeartbeats 1000000 in
theorem leaf27_any (v:Int) (w:World):Calls Tryz.prog 66 #[.int .i64 v] w fun e w'=>e = .returned (.agg #[.int .i64 (-1),.int .i64 (-1),.int .i64 v])∧Ext w w':=by
 go_enter Tryz.func66,Tryz.ntmps66
 go_wp2_with fail
 go_returns
 exact ⟨rfl,⟨by go_grown,Nat.le_refl _⟩⟩
set_option maxRecDepth 100000 in
set_option maxHeartbeats 2000000 in
theorem three_any (w:World):Calls Tryz.prog 62 #[] w fun e w'=>∃ g,e = .returned (.slice (some ⟨g,0,none⟩) 5 5)∧w.heap.size≤g∧TreeAt w' g 0 t5∧Ext w w':=by
 go_enter Tryz.func62,Tryz.ntmps62
 go_wp2_with fail
 refine (leaf27_any 1 _).mono ?_
 rintro e w1 ⟨rfl,hx1⟩
 go_wp2_with fail
 refine (leaf27_any 2 _).mono ?_
 rintro e w2 ⟨rfl,hx2⟩
 go_wp2_with fail
 refine (leaf27_any 3 _).mono ?_
 rintro e w3 ⟨rfl,hx3⟩
 have hx:=(hx1.trans hx2).trans hx3
 have hz3:=heap_alloc_new w3 (.cells #[.int .i64 (-1),.int .i64 (-1),.int .i64 1,.int .i64 (-1),.int .i64 (-1),.int .i64 2,.int .i64 0,.int .i64 1,.int .i64 0,.int .i64 (-1),.int .i64 (-1),.int .i64 3,.int .i64 2,.int .i64 3,.int .i64 0] 106)
 have hx4:Ext w (w3.alloc (.cells #[.int .i64 (-1),.int .i64 (-1),.int .i64 1,.int .i64 (-1),.int .i64 (-1),.int .i64 2,.int .i64 0,.int .i64 1,.int .i64 0,.int .i64 (-1),.int .i64 (-1),.int .i64 3,.int .i64 2,.int .i64 3,.int .i64 0] 106)):=hx.alloc _
 go_wp2_with fail
 generalize w3.alloc (.cells #[.int .i64 (-1),.int .i64 (-1),.int .i64 1,.int .i64 (-1),.int .i64 (-1),.int .i64 2,.int .i64 0,.int .i64 1,.int .i64 0,.int .i64 (-1),.int .i64 (-1),.int .i64 3,.int .i64 2,.int .i64 3,.int .i64 0] 106) = w4 at *
 go_ret
 refine ⟨w3.heap.size,rfl,hx.below.size,fun j u hj=>?_,hx4⟩
 have:=World.news_of_block hz3 j u hj
 rw [Nat.zero_add]
 have hadd:(⟨w3.heap.size,0,none⟩:Addr).add j = ⟨w3.heap.size,j,none⟩:=by unfold Addr.add;split <;> simp_all
 rw [hadd] at this
 exact this
set_option maxRecDepth 100000 in
set_option maxHeartbeats 2000000 in
theorem chapter_any (w:World):Calls Tryz.prog 61 #[] w fun e w'=>∃ v,e = .returned (.agg #[.int .i64 3,v])∧SlT w' v T2∧Ext w w':=by
 obtain ⟨e0,e1,e2,e3⟩:=four_all w (.cells #[.int .i64 3,.slice (some ⟨w.heap.size+1+1+1,0,none⟩) 2 2] 24) (.cells #[.int .i64 1,.int .i64 2] 3) (.cells #[.int .i64 (-1),.int .i64 3] 3) (.cells #[.slice (some ⟨w.heap.size+1,0,none⟩) 2 2,.slice (some ⟨w.heap.size+1+1,0,none⟩) 2 2] 45)
 have hx:Ext w ((((w.alloc (.cells #[.int .i64 3,.slice (some ⟨w.heap.size+1+1+1,0,none⟩) 2 2] 24)).alloc (.cells #[.int .i64 1,.int .i64 2] 3)).alloc (.cells #[.int .i64 (-1),.int .i64 3] 3)).alloc (.cells #[.slice (some ⟨w.heap.size+1,0,none⟩) 2 2,.slice (some ⟨w.heap.size+1+1,0,none⟩) 2 2] 45)):=((((Ext.refl w).alloc _).alloc _).alloc _).alloc _
 replace e0:=Lib.hid e0
 replace e1:=Lib.hid e1
 replace e2:=Lib.hid e2
 replace e3:=Lib.hid e3
 go_enter Tryz.func61,Tryz.ntmps61
 go_wp2_with fail
 generalize (((w.alloc (.cells #[.int .i64 3,.slice (some ⟨w.heap.size+1+1+1,0,none⟩) 2 2] 24)).alloc (.cells #[.int .i64 1,.int .i64 2] 3)).alloc (.cells #[.int .i64 (-1),.int .i64 3] 3)).alloc (.cells #[.slice (some ⟨w.heap.size+1,0,none⟩) 2 2,.slice (some ⟨w.heap.size+1+1,0,none⟩) 2 2] 45) = w4 at *
 have c0:w4.cell? ⟨w.heap.size,0,none⟩ = some (.int .i64 3):=by rw [World.cell?,e0.out];rfl
 have c1:w4.cell? ⟨w.heap.size,1,none⟩ = some (.slice (some ⟨w.heap.size+1+1+1,0,none⟩) 2 2):=by rw [World.cell?,e0.out];rfl
 refine bodyPost_ret (v:=.agg #[.int .i64 3,.slice (some ⟨w.heap.size+1+1+1,0,none⟩) 2 2]) (by simp [results,Tryz.results61,go_sem,c0,c1]) rfl ⟨_,rfl,⟨_,2,rfl,.inr ⟨w.heap.size+3,0,rfl,fun j hj=>?_⟩⟩,hx⟩
 have hj2:j < 2:=hj
 match j,hj2 with
 | 0,_=>exact ⟨.slice (some ⟨w.heap.size+1,0,none⟩) 2 2,by rw [World.cell?,e3.out];rfl,⟨_,2,rfl,.inr ⟨w.heap.size+1,0,rfl,fun i hi=>by
    have hi2:i < 2:=hi
    match i,hi2 with
    | 0,_=>rw [World.cell?,e1.out];rfl
    | 1,_=>rw [World.cell?,e1.out];rfl⟩⟩⟩
 | 1,_=>exact ⟨.slice (some ⟨w.heap.size+2,0,none⟩) 2 2,by rw [World.cell?,e3.out];rfl,⟨_,2,rfl,.inr ⟨w.heap.size+2,0,rfl,fun i hi=>by
    have hi2:i < 2:=hi
    match i,hi2 with
    | 0,_=>rw [World.cell?,e2.out];rfl
    | 1,_=>rw [World.cell?,e2.out];rfl⟩⟩⟩
end Go.Proofs.YtmnjakejhbpkoaaGreatDoor
end
