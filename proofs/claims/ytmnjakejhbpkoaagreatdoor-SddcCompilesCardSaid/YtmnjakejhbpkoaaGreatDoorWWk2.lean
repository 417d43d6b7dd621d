import Derived.Test.YtmnjakejhbpkoaaGreatDoorWWk
set_option linter.unusedSimpArgs false
set_option linter.unusedVariables false
namespace Go.Proofs.YtmnjakejhbpkoaaGreatDoor
open Go Go.RowKit Go.Shelf
theorem lit_text {t:List VN} (hc:checkF t = 0) (hfew:t.length≤11) {x:Int} {u:Nat} {y:VN} (h1:t[u]? = some y) (h2:leafB y = true) (h3:y.var = (x.natAbs:Int)) {T:List UInt8} (hT:(literalF (newSt t) x u).map (fun p=>L.tx p.2.nodes p.1) = some T)
  {s:St} (hi:L.Inv s) (ht:s.tree = t) {r:Nat} (hv:Val s r (litφ x)):L.tx s.nodes r = T:=by
 have hR:L.Room (newSt t) 0:=⟨new_inv hc,hfew,by rw [new_big];omega⟩
 obtain ⟨c,s',e1,e2,e3,e4,_⟩:=L.literal_spec hR (l:=x) (u:=u) (y:=y) h1 h2 h3
 rw [e1] at hT
 have hT':L.tx s'.nodes c = T:=by simpa using hT
 rw [←hT']
 have hk:s'.tree = t:=e2.tree
 exact L.tx_eq hi e2.inv (by rw [hk,ht]) r c hv.lt e3 (funext fun z=>by rw [hv.sem,e4];rfl)
set_option maxRecDepth 100000 in
set_option maxHeartbeats 8000000 in
theorem works27_any (w:World) (hT:TzTab w) (hP:PowTab w):Calls Tryz.prog 16 #[] w fun e w'=>e = .returned (.bool true)∧Below w.heap.size w w':=by
 go_enter Tryz.func16,Tryz.ntmps16
 go_wp2_with fail
 refine (chapter_any _).mono ?_
 rintro e w1 ⟨v,rfl,hv1,hx1⟩
 replace hv1:=Lib.hid hv1
 go_wp2_with fail
 refine (three_any _).mono ?_
 rintro e w2 ⟨g,rfl,hg,ht2,hx2⟩
 have hx:=hx1.trans hx2
 have q:=compile_ok (hv1.out.ext hx2.below) g 0 5 thT2 (by decide) ht2 checkT5 (by decide) (fun u hu=>by
  obtain ⟨c,hc,l,hl,e,_⟩:=(L.hasS_thVars T2 u).1 hu
  have:u = 1∨u = 2∨u = 3:=by simp [T2] at hc;rcases hc with rfl | rfl <;> simp at hl <;> rcases hl with rfl | rfl <;> simp at e <;> omega
  rcases this with rfl | rfl | rfl
  ·exact ⟨0,_,rfl,by decide,rfl⟩
  ·exact ⟨1,_,rfl,by decide,rfl⟩
  ·exact ⟨3,_,rfl,by decide,rfl⟩) (hT.ext hx) (hP.below hx.below)
 obtain ⟨ba,cp,rfl,_⟩:=hv1.out
 replace hT:=Lib.hid hT
 replace hP:=Lib.hid hP
 replace hv1:=Lib.hid hv1
 replace ht2:=Lib.hid ht2
 rw [show t5.length = 5 from rfl] at q
 replace hx:=Lib.hid hx
 clear hx1 hx2
 go_wp2_with fail
 refine q.mono ?_
 rintro e w3 ⟨sb,root,s3,rfl,hS3,hv3,hb3⟩
 have q3:=count_any hS3 hv3
 rw [show t5.length - 1 = 4 from rfl,cntT2,show natV 4 = .agg #[.string ⟨#[4]⟩] from rfl] at q3
 replace hS3:=Lib.hid hS3
 replace hv3:=Lib.hid hv3
 clear q
 go_wp2_with fail
 refine q3.mono ?_
 rintro e w4 ⟨rfl,hb4⟩
 clear q3
 go_wp2_with fail
 have hbB:Below w4.heap.size w4 (w4.alloc (.cells #[.string ⟨#[4]⟩] 52)):=(Below.refl _ _).alloc (Nat.le_refl _) _
 have hnB:=heap_alloc_new w4 (.cells #[.string ⟨#[4]⟩] 52)
 obtain ⟨wB,hwB⟩:∃ wB,wB = w4.alloc (.cells #[.string ⟨#[4]⟩] 52):=⟨_,rfl⟩
 rw [←hwB] at hbB hnB
 have hSB:=(hS3.out.below hb4).below hbB
 have q4:=Given_any (k':=40000) hSB hv3.out (l:=1) ⟨0,_,rfl,by decide,rfl⟩ (by omega)
 rw [show ((1:Int).natAbs:Int) = 1 from rfl,show decide ((0:Int) < 1) = true from rfl,givT] at q4
 replace hSB:=Lib.hid hSB
 replace hnB:=Lib.hid hnB
 replace hwB:=Lib.hid hwB
 go_wp2_with fail
 rw [←hwB.out]
 refine q4.mono ?_
 rintro e w5 ⟨r5,s5,rfl,hS5,hs5,hv5,_,hst5⟩
 have q5:=Given_any (k':=30000) hS5 (hv3.out.step hS3.out.inv hs5) (l:=-1) ⟨0,_,rfl,by decide,rfl⟩ (by omega)
 rw [show ((-1:Int).natAbs:Int) = 1 from rfl,show decide ((0:Int) < -1) = false from rfl,givF] at q5
 replace hS5:=Lib.hid hS5
 clear q4
 go_wp2_with fail
 refine q5.mono ?_
 rintro e w6 ⟨r6,s6,rfl,hS6,hs6,hv6,_,hst6⟩
 have hv56:=hv5.step hS5.out.inv hs6
 have q6:=hS6.text hv56.lt
 rw [lit_text checkT5 (by decide) (x:=3) (u:=3) rfl (by decide) rfl txL3 hS6.inv hS6.tree hv56] at q6
 replace hS6:=Lib.hid hS6
 replace hv56:=Lib.hid hv56
 clear q5
 go_wp2_with fail
 refine q6.mono ?_
 rintro e w7 ⟨rfl,hb7⟩
 have hS7:=hS6.out.below hb7
 have q7:=hS7.text hv6.lt
 rw [lit_text checkT5 (by decide) (x:=2) (u:=1) rfl (by decide) rfl txL2 hS7.inv hS7.tree hv6] at q7
 replace hS7:=Lib.hid hS7
 clear q6
 go_wp2_with fail
 refine q7.mono ?_
 rintro e w8 ⟨rfl,hb8⟩
 have hS8:=hS7.out.below hb8
 have hn8:=((((hst5.trans hst6).trans (Stays.of_below hb7)).trans (Stays.of_below hb8)).get hnB.out (by decide) (by decide))
 have c8:w8.cell? ⟨w4.heap.size,0,none⟩ = some (.string ⟨#[4]⟩):=by simp [World.cell?,hn8]
 have hbe:=hx.out.below.trans (hS8.bel.mono hx.out.below.size)
 have qn:=fun V=>natOf_any (w:=V) (n:=4) (by omega)
 rw [show natV 4 = .agg #[.string ⟨#[4]⟩] from rfl,show (((4:Nat):Nat):Int) = 4 from rfl] at qn
 have hnq:=fun V=>natEq (a:=4) (b:=4) (by omega) (by omega) V
 rw [show natV 4 = .agg #[.string ⟨#[4]⟩] from rfl,show decide ((4:Nat) = 4) = true from rfl] at hnq
 replace hS8:=Lib.hid hS8
 replace hbe:=Lib.hid hbe
 replace qn:=Lib.hid qn
 clear q7
 go_wp2_with fail
 (refine wp_region_held_drew (S:=(fun V=>V.cell? ⟨w4.heap.size,0,none⟩ = some (.string ⟨#[4]⟩))) (by kernel_rfl) ?_ (fun hHeld=>?_))
 ·exact c8
 (refine takeL (i:=0) (v:=?_) rfl (by kernel_rfl) (by kernel_rfl) (by kernel_rfl) (fun _ _ _ h=>h) (Or.inl ⟨by rfl,?_⟩) (by assumption) ?_)
 rotate_left
 ·(intro w hSw;(try dsimp only at hSw);go_simp;first | done | with_reducible rfl)
 (try simp only [Act.put,List.setIfInBounds_toArray,List.set_cons_zero,List.set_cons_succ])
 (refine takeL (i:=1) (v:=?_) rfl (by kernel_rfl) (by kernel_rfl) (by kernel_rfl) (fun _ _ _ h=>h) (Or.inl ⟨by rfl,?_⟩) (by assumption) ?_)
 rotate_left
 ·(intro w hSw;(try dsimp only at hSw);go_simp;first | done | with_reducible rfl)
 (try simp only [Act.put,List.setIfInBounds_toArray,List.set_cons_zero,List.set_cons_succ])
 (refine takeL (i:=2) (v:=?_) rfl (by kernel_rfl) (by kernel_rfl) (by kernel_rfl) (fun _ _ _ h=>h) (Or.inl ⟨by rfl,?_⟩) (by assumption) ?_)
 rotate_left
 ·(intro w hSw;(try dsimp only at hSw);go_simp;first | done | with_reducible rfl)
 (try simp only [Act.put,List.setIfInBounds_toArray,List.set_cons_zero,List.set_cons_succ])
 (refine takeL (i:=3) (v:=?_) rfl (by kernel_rfl) (by kernel_rfl) (by kernel_rfl) (fun _ _ _ h=>h) (Or.inl ⟨by rfl,?_⟩) (by assumption) ?_)
 rotate_left
 ·(intro w hSw;(try dsimp only at hSw);go_simp;first | done | with_reducible rfl)
 (try simp only [Act.put,List.setIfInBounds_toArray,List.set_cons_zero,List.set_cons_succ])
 (refine takeL (i:=4) (v:=?_) rfl (by kernel_rfl) (by kernel_rfl) (by kernel_rfl) (fun _ _ _ h=>h) (Or.inl ⟨by rfl,?_⟩) (by assumption) ?_)
 rotate_left
 ·(intro w hSw;(try dsimp only at hSw);go_simp;first | done | with_reducible rfl)
 (try simp only [Act.put,List.setIfInBounds_toArray,List.set_cons_zero,List.set_cons_succ])
 (refine takeL (i:=5) (v:=?_) rfl (by kernel_rfl) (by kernel_rfl) (by kernel_rfl) (fun _ _ _ h=>h) (Or.inl ⟨by rfl,?_⟩) (by assumption) ?_)
 rotate_left
 ·(intro w hSw;(try dsimp only at hSw);go_simp;first | done | with_reducible rfl)
 (try simp only [Act.put,List.setIfInBounds_toArray,List.set_cons_zero,List.set_cons_succ])
 (refine takeL (i:=6) (v:=?_) rfl (by kernel_rfl) (by kernel_rfl) (by kernel_rfl) (fun _ _ _ h=>h) (Or.inl ⟨by rfl,?_⟩) (by assumption) ?_)
 rotate_left
 ·(intro w hSw;(try dsimp only at hSw);go_simp;first | done | with_reducible rfl)
 (try simp only [Act.put,List.setIfInBounds_toArray,List.set_cons_zero,List.set_cons_succ])
 (refine takeL (i:=7) (v:=?_) rfl (by kernel_rfl) (by kernel_rfl) (by kernel_rfl) (fun _ _ _ h=>h) (Or.inl ⟨by rfl,?_⟩) (by assumption) ?_)
 rotate_left
 ·(intro w hSw;(try dsimp only at hSw);go_simp;first | done | with_reducible rfl)
 (try simp only [Act.put,List.setIfInBounds_toArray,List.set_cons_zero,List.set_cons_succ])
 (refine takeL (i:=8) (v:=?_) rfl (by kernel_rfl) (by kernel_rfl) (by kernel_rfl) (fun _ _ _ h=>h) (Or.inl ⟨by rfl,?_⟩) (by assumption) ?_)
 rotate_left
 ·(intro w hSw;(try dsimp only at hSw);go_simp;first | done | with_reducible rfl)
 (try simp only [Act.put,List.setIfInBounds_toArray,List.set_cons_zero,List.set_cons_succ])
 (refine takeL (i:=9) (v:=?_) rfl (by kernel_rfl) (by kernel_rfl) (by kernel_rfl) (fun _ _ _ h=>h) (Or.inl ⟨by rfl,?_⟩) (by assumption) ?_)
 rotate_left
 ·(intro w hSw;(try dsimp only at hSw);go_simp;first | done | with_reducible rfl)
 (try simp only [Act.put,List.setIfInBounds_toArray,List.set_cons_zero,List.set_cons_succ])
 (refine takeL (i:=10) (v:=?_) rfl (by kernel_rfl) (by kernel_rfl) (by kernel_rfl) (fun _ _ _ h=>h) (Or.inl ⟨by rfl,?_⟩) (by assumption) ?_)
 rotate_left
 ·(intro w hSw;(try dsimp only at hSw);go_simp;first | done | with_reducible rfl)
 (try simp only [Act.put,List.setIfInBounds_toArray,List.set_cons_zero,List.set_cons_succ])
 (refine takeL (i:=11) (v:=?_) rfl (by kernel_rfl) (by kernel_rfl) (by kernel_rfl) (fun _ _ _ h=>h) (Or.inl ⟨by rfl,?_⟩) (by assumption) ?_)
 rotate_left
 ·(intro w hSw;(try dsimp only at hSw);go_simp;first | done | with_reducible rfl)
 (try simp only [Act.put,List.setIfInBounds_toArray,List.set_cons_zero,List.set_cons_succ])
 (refine wpAnyH_ready (rs:=[12]) (by kernel_rfl) (by simp) ?_)
 (refine consL rfl (fun K hK=>?_))
 ((rw [if_pos (by rfl)]);go_simp;(go_at_call 30);refine (qn.out _).mono ?_;rintro e w9 ⟨rfl,hb9⟩;refine hK.out _ _ ((hb9.cell (World.block_lt_of_cell? _ _ hHeld)).trans hHeld) (fun hHeld=>?_))
 (clear hK K)
 (try simp only [Act.put,List.setIfInBounds_toArray,List.set_cons_zero,List.set_cons_succ])
 (refine takeL (i:=13) (v:=?_) rfl (by kernel_rfl) (by kernel_rfl) (by kernel_rfl) (fun _ _ _ h=>h) (Or.inl ⟨by rfl,?_⟩) (by assumption) ?_)
 rotate_left
 ·(intro w hSw;(try dsimp only at hSw);go_simp;first | done | with_reducible rfl)
 (try simp only [Act.put,List.setIfInBounds_toArray,List.set_cons_zero,List.set_cons_succ])
 (refine takeL (i:=14) (v:=?_) rfl (by kernel_rfl) (by kernel_rfl) (by kernel_rfl) (fun _ _ _ h=>h) (Or.inl ⟨by rfl,?_⟩) (by assumption) ?_)
 rotate_left
 ·(intro w hSw;(try dsimp only at hSw);go_simp;first | done | with_reducible rfl)
 (try simp only [Act.put,List.setIfInBounds_toArray,List.set_cons_zero,List.set_cons_succ])
 (refine takeL (i:=15) (v:=?_) rfl (by kernel_rfl) (by kernel_rfl) (by kernel_rfl) (fun _ _ _ h=>h) (Or.inl ⟨by rfl,?_⟩) (by assumption) ?_)
 rotate_left
 ·(intro w hSw;(try dsimp only at hSw);go_simp;first | done | with_reducible rfl)
 (try simp only [Act.put,List.setIfInBounds_toArray,List.set_cons_zero,List.set_cons_succ])
 (refine takeL (i:=16) (v:=?_) rfl (by kernel_rfl) (by kernel_rfl) (by kernel_rfl) (fun _ _ _ h=>h) (Or.inl ⟨by rfl,?_⟩) (by assumption) ?_)
 rotate_left
 ·(intro w hSw;(try dsimp only at hSw);go_simp;first | done | with_reducible rfl)
 (try simp only [Act.put,List.setIfInBounds_toArray,List.set_cons_zero,List.set_cons_succ])
 (refine takeL (i:=17) (v:=?_) rfl (by kernel_rfl) (by kernel_rfl) (by kernel_rfl) (fun _ _ _ h=>h) (Or.inl ⟨by rfl,?_⟩) (by assumption) ?_)
 rotate_left
 ·(intro w hSw;(try dsimp only at hSw);go_simp;first | done | with_reducible rfl)
 (try simp only [Act.put,List.setIfInBounds_toArray,List.set_cons_zero,List.set_cons_succ])
 (refine takeL (i:=18) (v:=?_) rfl (by kernel_rfl) (by kernel_rfl) (by kernel_rfl) (fun _ _ _ h=>h) (Or.inl ⟨by rfl,?_⟩) (by assumption) ?_)
 rotate_left
 ·(intro w hSw;(try dsimp only at hSw);go_simp;first | done | with_reducible rfl)
 (try simp only [Act.put,List.setIfInBounds_toArray,List.set_cons_zero,List.set_cons_succ])
 (refine takeL (i:=19) (v:=?_) rfl (by kernel_rfl) (by kernel_rfl) (by kernel_rfl) (fun _ _ _ h=>h) (Or.inl ⟨by rfl,?_⟩) (by assumption) ?_)
 rotate_left
 ·(intro w hSw;(try dsimp only at hSw);go_simp;first | done | with_reducible rfl)
 (try simp only [Act.put,List.setIfInBounds_toArray,List.set_cons_zero,List.set_cons_succ])
 (refine takeL (i:=20) (v:=?_) rfl (by kernel_rfl) (by kernel_rfl) (by kernel_rfl) (fun _ _ _ h=>h) (Or.inl ⟨by rfl,?_⟩) (by assumption) ?_)
 rotate_left
 ·(intro w hSw;(try dsimp only at hSw);go_simp;first | done | with_reducible rfl)
 (try simp only [Act.put,List.setIfInBounds_toArray,List.set_cons_zero,List.set_cons_succ])
 (refine takeL (i:=21) (v:=?_) rfl (by kernel_rfl) (by kernel_rfl) (by kernel_rfl) (fun _ _ _ h=>h) (Or.inl ⟨by rfl,?_⟩) (by assumption) ?_)
 rotate_left
 ·(intro w hSw;(try dsimp only at hSw);go_simp;first | done | with_reducible rfl)
 (try simp only [Act.put,List.setIfInBounds_toArray,List.set_cons_zero,List.set_cons_succ])
 (refine takeL (i:=22) (v:=?_) rfl (by kernel_rfl) (by kernel_rfl) (by kernel_rfl) (fun _ _ _ h=>h) (Or.inl ⟨by rfl,?_⟩) (by assumption) ?_)
 rotate_left
 ·(intro w hSw;(try dsimp only at hSw);go_simp;first | done | with_reducible rfl)
 (try simp only [Act.put,List.setIfInBounds_toArray,List.set_cons_zero,List.set_cons_succ])
 (refine takeL (i:=23) (v:=?_) rfl (by kernel_rfl) (by kernel_rfl) (by kernel_rfl) (fun _ _ _ h=>h) (Or.inl ⟨by rfl,?_⟩) (by assumption) ?_)
 rotate_left
 ·(intro w hSw;(try dsimp only at hSw);go_simp;first | done | with_reducible rfl)
 (try simp only [Act.put,List.setIfInBounds_toArray,List.set_cons_zero,List.set_cons_succ])
 (refine wpAnyH_done (by kernel_rfl) ?_ _)
 have hbf:Below w.heap.size w w9:=hbe.out.trans (((Below.refl _ _).drew.trans hb9).mono hbe.out.size)
 clear hHeld hb9
 go_wp2_with fail
 go_ret
 exact ⟨rfl,hbf⟩
end Go.Proofs.YtmnjakejhbpkoaaGreatDoor
