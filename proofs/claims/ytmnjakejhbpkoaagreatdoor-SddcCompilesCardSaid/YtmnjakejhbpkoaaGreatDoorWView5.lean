import Derived.Test.YtmnjakejhbpkoaaGreatDoorWView4
set_option linter.unusedSimpArgs false
set_option linter.unusedVariables false
namespace Go.Proofs.YtmnjakejhbpkoaaGreatDoor
open Go Go.RowKit Go.Shelf
section
variable {t:List VN} {sb k:Nat} {X:List Nat} {s:St} {w0:World} {xv gt ct gb pc pn:Nat} {f:Nat→VSet} {wb W:World} {m:List (Nat × Nat)}
theorem cnt6 {t:List VN} (hc:checkF t = 0) (hfew:t.length≤11) {P at_:Nat} (hP:P < t.length) (hat:at_ < t.length) (hu:L.Und t at_ P) {φ:L.Asg→Bool} (hd:L.Dep (L.Bel t P) φ) {c:Nat} (he:c = L.cnt (L.vl t P) φ) :
  L.nv t P≤L.nv t at_∧L.nv t at_≤6∧L.nv t at_ - L.nv t P < 8∧c * 2 ^ (L.nv t at_ - L.nv t P) < 256∧c < 256∧2 ^ (L.nv t at_ - L.nv t P) < 256∧L.cnt (L.vl t at_) φ = c * 2 ^ (L.nv t at_ - L.nv t P):=by
 obtain ⟨h1,h2⟩:=L.cnt_up hc hat hu hd
 have h3:=L.nv_le hc hat
 have h4:=L.cnt_le (L.vl t at_) φ
 have h5:=L.cnt_le (L.vl t P) φ
 have h6:(2:Nat) ^ (L.vl t at_).length≤2 ^ 6:=Nat.pow_le_pow_right (by omega) (by show L.nv t at_≤6;omega)
 have h7:(2:Nat) ^ (L.vl t P).length≤2 ^ 6:=Nat.pow_le_pow_right (by omega) (by show L.nv t P≤6;omega)
 have h8:(2:Nat) ^ (L.nv t at_ - L.nv t P)≤2 ^ 6:=Nat.pow_le_pow_right (by omega) (by omega)
 have e:L.cnt (L.vl t at_) φ = c * 2 ^ (L.nv t at_ - L.nv t P):=by rw [h2,←he,Nat.mul_comm]
 refine ⟨h1,by omega,by omega,by rw [←e];omega,by omega,by omega,e⟩
set_option maxRecDepth 100000 in
set_option maxHeartbeats 8000000 in
theorem models_hit (h0:MI0 t sb k X s w0 xv gt ct gb pc pn f wb) (hF:FI t s pc wb m W) {a at_:Nat} (h2:2≤a) (hat:at_ < t.length) {nd:SNode} {P:Nat} (hn:s.nodes[a]? = some nd) (hpl:nd.pl = (P:Nat)) (hP:P < t.length) (hu:L.Und t at_ P) (hd:L.Dep (L.Bel t P) (L.sem s.nodes a)) {c:Nat} (hm:asc m a = some c) (he:c = L.cnt (L.vl t P) (L.sem s.nodes a)) :
  Calls Tryz.prog 97 #[.pointer (some ⟨xv,0,none⟩),.int .i64 (a:Nat),.int .i64 (at_:Nat)] W (RetM t s pc wb W (L.cnt (L.vl t at_) (L.sem s.nodes a))):=by
 have hc:=h0.sl.chk
 obtain ⟨hPn,hn6,hN8,hcp,hc8,hp8,hcnt⟩:=cnt6 hc h0.sl.few hP hat hu hd he
 replace hcnt:=Lib.hid hcnt
 replace he:=Lib.hid he
 have d0:((a:Int) == 0) = false:=by rw [beq_eq_false_iff_ne];omega
 have d1:((a:Int) == 1) = false:=by rw [beq_eq_false_iff_ne];omega
 have hb1:=(Below.refl W.heap.size W).alloc (Nat.le_refl _) (.cells #[.string ⟨#[]⟩] 52)
 have hx1:=heap_alloc_new W (.cells #[.string ⟨#[]⟩] 52)
 obtain ⟨w1,hw1⟩:∃ w1,w1 = W.alloc (.cells #[.string ⟨#[]⟩] 52):=⟨_,rfl⟩
 rw [←hw1] at hb1 hx1
 have hF1:=hF.below hb1
 have hV1:=h0.vwAt hF1.fr
 have q1:=(h0.slAt hF1.fr).at hn
 rw [hpl] at q1
 have c0:w1.cell? ⟨xv,0,none⟩ = some (.pointer (some ⟨sb,0,none⟩)):=by simp [World.cell?,hV1.box]
 have c3:w1.cell? ⟨xv,3,none⟩ = some (.map (some pc)):=by simp [World.cell?,hV1.box]
 rw [hw1] at c0 c3
 go_enter Tryz.func97,Tryz.ntmps97
 go_wp2_with fail
 rw [←hw1] at c0 c3 ⊢
 replace hw1:=Lib.hid hw1
 refine q1.mono ?_
 rintro e w2 ⟨rfl,hb2⟩
 have hF2:=hF1.below hb2
 have lk:=hF2.look a
 rw [hm] at lk
 obtain ⟨S9,hS9⟩:∃ S9,natV c = .agg #[.string S9]:=⟨_,rfl⟩
 rw [show ((some c).map encC).getD (natV 0) = .agg #[.string S9] from hS9,show (some c).isSome = true from rfl] at lk
 have e3:=(hb2.cell (World.block_lt_of_cell? _ _ c3)).trans c3
 have hr2:=(hb2.block _ (Array.getElem?_eq_some_iff.1 hx1).1).trans hx1
 have hb9:Below w2.heap.size w2 (w2.alloc (.cells #[.string S9] 52)):=(Below.refl _ _).alloc (Nat.le_refl _) _
 have hF9:=hF2.below hb9
 have h9:=heap_alloc_new w2 (.cells #[.string S9] 52)
 have hr9:=(hb9.block _ (Array.getElem?_eq_some_iff.1 hr2).1).trans hr2
 have hfr9:Fr [pc] W (w2.alloc (.cells #[.string S9] 52)):=fr_below pc (hb1.trans ((hb2.trans (hb9.mono hb2.size)).mono hb1.size))
 replace hS9:=Lib.hid hS9
 clear q1 c0 c3 hx1 hV1 hr2 hF1
 go_wp2_with fail
 generalize hg9:w2.heap.size = g9 at *
 generalize w2.alloc (.cells #[.string S9] 52) = w9 at *
 replace hg9:=Lib.hid hg9
 obtain ⟨m9,hm9⟩:∃ m9,m9 = m:=⟨_,rfl⟩
 rw [←hm9] at hF9
 have hl9:=(Array.getElem?_eq_some_iff.1 h9).1
 have hlr:=(Array.getElem?_eq_some_iff.1 hr9).1
 have c9:w9.cell? ⟨g9,0,none⟩ = some (.string S9):=by simp [World.cell?,h9]
 have qs1:=Lib.hid fun (V:World) (hV:Below w9.heap.size w9 V)=>vsize_any (h0.vwAt (hF9.below hV).fr) hc hat
 have qs2:=Lib.hid fun (V:World) (hV:Below w9.heap.size w9 V)=>vsize_any (h0.vwAt (hF9.below hV).fr) hc hP
 have qp:=Lib.hid fun V:World=>pow2_any (w:=V) (n:=L.nv t at_ - L.nv t P) hN8
 have qm:=Lib.hid fun V:World=>nmul_any (w:=V) (a:=c) (b:=2 ^ (L.nv t at_ - L.nv t P)) hcp hc8 hp8
 have hsubw:IntKind.i64.wrap ((L.nv t at_:Int) - (L.nv t P:Int)) = ((L.nv t at_ - L.nv t P:Nat):Int):=by rw [IntWalk.i64_in _ (by omega)];omega
 generalize L.nv t at_ - L.nv t P = D at *
 generalize L.nv t at_ = N at *
 generalize L.nv t P = M at *
 rw [show natV c = .agg #[.string S9] from hS9.out] at qm
 replace hF9:=Lib.hid hF9
 replace hr9:=Lib.hid hr9
 replace h9:=Lib.hid h9
 (refine wp_region_z (S:=(fun V=>Below w9.heap.size w9 V)) 10 (by kernel_rfl) ?_ (fun hHeld=>?_))
 ·exact (Below.refl _ _).drew
 (refine wpZ_take (i:=0) (v:=?_) rfl (by kernel_rfl) (by decide) (by kernel_rfl) (by kernel_rfl) (by kernel_rfl) (fun _ _ _ h=>h) (Or.inl ⟨by rfl,?_⟩) (by assumption) ?_)
 rotate_left
 ·(intro w hSw;(try dsimp only at hSw);have z0:=(hSw.cell (p:=⟨g9,0,none⟩) hl9).trans c9;go_simp;first | done | with_reducible rfl)
 (try simp only [Act.put,List.setIfInBounds_toArray,List.set_cons_zero,List.set_cons_succ])
 (refine wpZ_take (i:=1) (v:=?_) rfl (by kernel_rfl) (by decide) (by kernel_rfl) (by kernel_rfl) (by kernel_rfl) (fun _ _ _ h=>h) (Or.inl ⟨by rfl,?_⟩) (by assumption) ?_)
 rotate_left
 ·(intro w hSw;(try dsimp only at hSw);skip;go_simp;first | done | with_reducible rfl)
 (try simp only [Act.put,List.setIfInBounds_toArray,List.set_cons_zero,List.set_cons_succ])
 (refine wpZ_take (i:=2) (v:=?_) rfl (by kernel_rfl) (by decide) (by kernel_rfl) (by kernel_rfl) (by kernel_rfl) (fun _ _ _ h=>h) (Or.inl ⟨by rfl,?_⟩) (by assumption) ?_)
 rotate_left
 ·(intro w hSw;(try dsimp only at hSw);skip;go_simp;first | done | with_reducible rfl)
 (try simp only [Act.put,List.setIfInBounds_toArray,List.set_cons_zero,List.set_cons_succ])
 (refine wpZ_take (i:=4) (v:=?_) rfl (by kernel_rfl) (by decide) (by kernel_rfl) (by kernel_rfl) (by kernel_rfl) (fun _ _ _ h=>h) (Or.inl ⟨by rfl,?_⟩) (by assumption) ?_)
 rotate_left
 ·(intro w hSw;(try dsimp only at hSw);skip;go_simp;first | done | with_reducible rfl)
 (try simp only [Act.put,List.setIfInBounds_toArray,List.set_cons_zero,List.set_cons_succ])
 (refine wpZ_take (i:=5) (v:=?_) rfl (by kernel_rfl) (by decide) (by kernel_rfl) (by kernel_rfl) (by kernel_rfl) (fun _ _ _ h=>h) (Or.inl ⟨by rfl,?_⟩) (by assumption) ?_)
 rotate_left
 ·(intro w hSw;(try dsimp only at hSw);skip;go_simp;first | done | with_reducible rfl)
 (try simp only [Act.put,List.setIfInBounds_toArray,List.set_cons_zero,List.set_cons_succ])
 (refine wpZ_one (i:=3) (by kernel_rfl) rfl (fun K hK=>?_))
 ((rw [if_pos (by rfl)]);go_simp;(go_at_call 161);refine (qs1.out _ hHeld).mono ?_;rintro e v1 ⟨rfl,hv1⟩;refine hK.out _ _ (hHeld.trans (hv1.below.mono hHeld.size)) (fun hHeld=>?_))
 (clear hK K)
 (try simp only [Act.put,List.setIfInBounds_toArray,List.set_cons_zero,List.set_cons_succ])
 (refine wpZ_one (i:=6) (by kernel_rfl) rfl (fun K hK=>?_))
 ((rw [if_pos (by rfl)]);go_simp;(go_at_call 161);refine (qs2.out _ hHeld).mono ?_;rintro e v2 ⟨rfl,hv2⟩;refine hK.out _ _ (hHeld.trans (hv2.below.mono hHeld.size)) (fun hHeld=>?_))
 (clear hK K)
 (try simp only [Act.put,List.setIfInBounds_toArray,List.set_cons_zero,List.set_cons_succ])
 (refine wpZ_take (i:=7) (v:=?_) rfl (by kernel_rfl) (by decide) (by kernel_rfl) (by kernel_rfl) (by kernel_rfl) (fun _ _ _ h=>h) (Or.inl ⟨by rfl,?_⟩) (by assumption) ?_)
 rotate_left
 ·(intro w hSw;(try dsimp only at hSw);skip;go_simp;first | done | with_reducible rfl)
 (try simp only [Act.put,List.setIfInBounds_toArray,List.set_cons_zero,List.set_cons_succ])
 (refine wpZ_one (i:=8) (by kernel_rfl) rfl (fun K hK=>?_))
 ((rw [if_pos (by rfl)]);go_simp;(go_at_call 43);refine (qp.out _).mono ?_;rintro e v3 ⟨rfl,hv3⟩;refine hK.out _ _ (hHeld.trans (hv3.mono hHeld.size)) (fun hHeld=>?_))
 (clear hK K)
 (try simp only [Act.put,List.setIfInBounds_toArray,List.set_cons_zero,List.set_cons_succ])
 (refine wpZ_one (i:=9) (by kernel_rfl) rfl (fun K hK=>?_))
 ((rw [if_pos (by rfl)]);go_simp;(go_at_call 68);refine (qm.out _).mono ?_;rintro e v4 ⟨rfl,hv4⟩;refine hK.out _ _ (hHeld.trans (hv4.mono hHeld.size)) (fun hHeld=>?_))
 (clear hK K)
 (try simp only [Act.put,List.setIfInBounds_toArray,List.set_cons_zero,List.set_cons_succ])
 have hr10:=(hHeld.block _ hlr).trans hr9.out
 have fz:v4.frozen? ⟨W.heap.size,0,none⟩ = false:=by simp [World.frozen?,hr10]
 have hcc:v4.cell? ⟨W.heap.size,0,none⟩ = some (.string ⟨#[]⟩):=by simp [World.cell?,hr10]
 unfold natV
 generalize hT:(⟨(natL (c * 2 ^ D)).toArray⟩:ByteArray) = T at *
 have hfin:((v4.setCell ⟨W.heap.size,0,none⟩ (.string T)).cell? ⟨W.heap.size,0,none⟩ = some (.string T)):=by simp [World.cell?,heap_set hr10 0 _]
 replace hfin:=Lib.hid hfin
 have hF10:=Lib.hid ((hF9.out.below hHeld).fresh (r:=W.heap.size) (o:=0) (v:=.string T) hF.fr.size (by have:=hF.mp.lt;omega))
 have hfr10:=FrV.trans hfr9 (fr_below pc hHeld)
 have hfr11:Hid (Fr [pc] W (v4.setCell ⟨W.heap.size,0,none⟩ (.string T))):=Lib.hid ⟨hfr10.os,hfr10.tape,hfr10.output,by have:=hfr10.size;simpa using this,fun j hj hM=>(heap_setN 0 _ (by omega)).trans (hfr10.block j hj hM)⟩
 replace hr10:=Lib.hid hr10
 clear qs1 qs2 qp qm hHeld hfr10
 (refine wpZ_last (by kernel_rfl) rfl (by kernel_rfl) (fun K hK=>?_))
 ((rw [if_pos (by rfl)]);go_simp;refine hK.out _ _ ?_)
 (clear hK K)
 (try simp only [Act.put,List.setIfInBounds_toArray,List.set_cons_zero,List.set_cons_succ])
 go_wp2_with fail
 exact bodyPost_ret (v:=.agg #[.string T]) (by simp [results,Tryz.results97,go_sem,hfin.out]) rfl ⟨m9,by rw [←hT,hcnt.out] <;> rfl,hF10.out,hfr11.out⟩
set_option maxRecDepth 100000 in
set_option maxHeartbeats 8000000 in
theorem models_lit (h0:MI0 t sb k X s w0 xv gt ct gb pc pn f wb) (hF:FI t s pc wb m W) {a at_:Nat} (h2:2≤a) (hat:at_ < t.length) {nd:SNode} {P:Nat} (hn:s.nodes[a]? = some nd) (hpl:nd.pl = (P:Nat)) (hP:P < t.length) (hu:L.Und t at_ P) (hd:L.Dep (L.Bel t P) (L.sem s.nodes a)) (hm:asc m a = none) (hel:nd.el = []) (he:1 = L.cnt (L.vl t P) (L.sem s.nodes a)) :
  Calls Tryz.prog 97 #[.pointer (some ⟨xv,0,none⟩),.int .i64 (a:Nat),.int .i64 (at_:Nat)] W (RetM t s pc wb W (L.cnt (L.vl t at_) (L.sem s.nodes a))):=by
 have hc:=h0.sl.chk
 obtain ⟨c,hc1⟩:∃ c,c = 1:=⟨_,rfl⟩
 rw [←hc1] at he
 obtain ⟨hPn,hn6,hN8,hcp,hc8,hp8,hcnt⟩:=cnt6 hc h0.sl.few hP hat hu hd he
 replace hcnt:=Lib.hid hcnt
 replace he:=Lib.hid he
 have d0:((a:Int) == 0) = false:=by rw [beq_eq_false_iff_ne];omega
 have d1:((a:Int) == 1) = false:=by rw [beq_eq_false_iff_ne];omega
 have hb1:=(Below.refl W.heap.size W).alloc (Nat.le_refl _) (.cells #[.string ⟨#[]⟩] 52)
 have hx1:=heap_alloc_new W (.cells #[.string ⟨#[]⟩] 52)
 obtain ⟨w1,hw1⟩:∃ w1,w1 = W.alloc (.cells #[.string ⟨#[]⟩] 52):=⟨_,rfl⟩
 rw [←hw1] at hb1 hx1
 have hF1:=hF.below hb1
 have hV1:=h0.vwAt hF1.fr
 have q1:=(h0.slAt hF1.fr).at hn
 rw [hpl] at q1
 have c0:w1.cell? ⟨xv,0,none⟩ = some (.pointer (some ⟨sb,0,none⟩)):=by simp [World.cell?,hV1.box]
 have c3:w1.cell? ⟨xv,3,none⟩ = some (.map (some pc)):=by simp [World.cell?,hV1.box]
 rw [hw1] at c0 c3
 go_enter Tryz.func97,Tryz.ntmps97
 go_wp2_with fail
 rw [←hw1] at c0 c3 ⊢
 replace hw1:=Lib.hid hw1
 refine q1.mono ?_
 rintro e w2 ⟨rfl,hb2⟩
 have hF2:=hF1.below hb2
 have lk:=hF2.look a
 rw [hm,show ((none:Option Nat).map encC).getD (natV 0) = .agg #[.string ⟨#[]⟩] from rfl,show (none:Option Nat).isSome = false from rfl] at lk
 have e3:=(hb2.cell (World.block_lt_of_cell? _ _ c3)).trans c3
 have hr2:=(hb2.block _ (Array.getElem?_eq_some_iff.1 hx1).1).trans hx1
 have hb3:Below w2.heap.size w2 (w2.alloc (.cells #[.string ⟨#[]⟩] 52)):=(Below.refl _ _).alloc (Nat.le_refl _) _
 have hF3:=hF2.below hb3
 have h3:=heap_alloc_new w2 (.cells #[.string ⟨#[]⟩] 52)
 have hr3:=(hb3.block _ (Array.getElem?_eq_some_iff.1 hr2).1).trans hr2
 have hfr3:Fr [pc] W (w2.alloc (.cells #[.string ⟨#[]⟩] 52)):=fr_below pc (hb1.trans ((hb2.trans (hb3.mono hb2.size)).mono hb1.size))
 have q4:=(h0.slAt hF3.fr).elements hn
 rw [hel,show ([]:List (Nat × Nat)).length = 0 from rfl] at q4
 have k0:(w2.alloc (.cells #[.string ⟨#[]⟩] 52)).cell? ⟨xv,0,none⟩ = some (.pointer (some ⟨sb,0,none⟩)):=by simp [World.cell?,(h0.vwAt hF3.fr).box]
 have q5:=fun V:World=>natOf_any (w:=V) (n:=1) (by omega)
 clear q1 c0 c3 hx1 hV1 hr2 hF1
 go_wp2_with fail
 generalize hg9:w2.heap.size = g9 at *
 generalize w2.alloc (.cells #[.string ⟨#[]⟩] 52) = w3 at *
 replace hg9:=Lib.hid hg9
 refine q4.mono ?_
 rintro e w4 ⟨ba,cap,rfl,_,hb4⟩
 have hF4:=hF3.below hb4
 have h4:=(hb4.block _ (Array.getElem?_eq_some_iff.1 h3).1).trans h3
 have hr4:=(hb4.block _ (Array.getElem?_eq_some_iff.1 hr3).1).trans hr3
 have hfr4:=FrV.trans hfr3 (fr_below pc hb4)
 have q5':=q5 w4
 clear q4 hF3 h3 hr3 hfr3 k0 lk e3 q5
 go_wp2_with fail
 refine q5'.mono ?_
 rintro e w5 ⟨rfl,hb5⟩
 have hF5:=hF4.below hb5
 have h5:=(hb5.block _ (Array.getElem?_eq_some_iff.1 h4).1).trans h4
 have hr5:=(hb5.block _ (Array.getElem?_eq_some_iff.1 hr4).1).trans hr4
 have hfr5:=FrV.trans hfr4 (fr_below pc hb5)
 have x9:w5.cell? ⟨g9,0,none⟩ = some (.string ⟨#[]⟩):=by simp [World.cell?,h5]
 have z9:w5.frozen? ⟨g9,0,none⟩ = false:=by simp [World.frozen?,h5]
 obtain ⟨S9,hS9⟩:∃ S9,natV c = .agg #[.string S9]:=⟨_,rfl⟩
 rw [←hc1,hS9]
 replace hS9:=Lib.hid hS9
 replace hc1:=Lib.hid hc1
 clear q5' hF4 h4 hr4 hfr4
 go_wp2_with fail
 refine wp_loop_rounds 1 ?_
 rw [rounds_succ]
 go_wp2_with fail
 have hgp:wb.heap.size≤g9∧g9≠pc:=by have:=hF2.fr.size;have:=hF2.mp.lt;have:=hg9.out;omega
 have hgW:W.heap.size < g9:=by have h8:=hg9.out;have:=hb2.size;have:=hb1.size;have:=hw1.out;rw [this] at hb2;have:=hb2.size;simp at this;omega
 have hF8:=hF5.fresh (r:=g9) (o:=0) (v:=.string S9) hgp.1 hgp.2
 have h8:(w5.setCell ⟨g9,0,none⟩ (.string S9)).heap[g9]? = some (.cells #[.string S9] 52 (0,0)):=heap_set h5 0 _
 have hr8:=(heap_setN (w:=w5) (b:=g9) (k:=W.heap.size) 0 (.string S9) (by omega)).trans hr5
 have hfr8:Fr [pc] W (w5.setCell ⟨g9,0,none⟩ (.string S9)):=⟨hfr5.os,hfr5.tape,hfr5.output,by have:=hfr5.size;simpa using this,fun j hj hM=>(heap_setN 0 _ (by omega)).trans (hfr5.block j hj hM)⟩
 generalize w5.setCell ⟨g9,0,none⟩ (.string S9) = w8 at *
 clear hF5 h5 hr5 hfr5 x9 z9 hb5 hb4
 have x3:w8.cell? ⟨xv,3,none⟩ = some (.map (some pc)):=by simp [World.cell?,(h0.vwAt hF8.fr).box]
 have x9:w8.cell? ⟨g9,0,none⟩ = some (.string S9):=by simp [World.cell?,h8]
 have hF8d:=hF8.below ((Below.refl w8.heap.size w8).drew)
 obtain ⟨hput,hF9,hfrp⟩:=hF8d.put a c ⟨nd,P,hn,hpl,hP,he.out⟩
 rw [hS9.out] at hput
 have hg9p:g9≠pc:=by
  intro e
  obtain ⟨L0,cl0,hm0,_⟩:=hF8.mp
  rw [←e,h8] at hm0;simp at hm0
 have hWp:W.heap.size≠pc:=by have:=hF.mp.lt;omega
 have h9:=(putMap_other (P:=Tryz.prog) 3 w8.drew pc (encNat a) (encC c) g9 hg9p).trans h8
 have hr9:=(putMap_other (P:=Tryz.prog) 3 w8.drew pc (encNat a) (encC c) W.heap.size hWp).trans hr8
 have hfr9:=FrV.trans (FrV.trans hfr8 (fr_below pc ((Below.refl w8.heap.size w8).drew))) hfrp
 replace hF9:=Lib.hid hF9
 replace h9:=Lib.hid h9
 replace hr9:=Lib.hid hr9
 replace h8:=Lib.hid h8
 replace hr8:=Lib.hid hr8
 replace hF8:=Lib.hid hF8
 (refine wp_region_z (S:=(fun V=>V.cell? ⟨xv,3,none⟩ = some (.map (some pc))∧V.cell? ⟨g9,0,none⟩ = some (.string S9))) 6 (by kernel_rfl) ?_ (fun hHeld=>?_))
 ·exact ⟨x3,x9⟩
 (refine wpZ_take (i:=0) (v:=?_) rfl (by kernel_rfl) (by decide) (by kernel_rfl) (by kernel_rfl) (by kernel_rfl) (fun _ _ _ h=>h) (Or.inl ⟨by rfl,?_⟩) (by assumption) ?_)
 rotate_left
 ·(intro w hSw;(try dsimp only at hSw);skip;go_simp;first | done | with_reducible rfl)
 (try simp only [Act.put,List.setIfInBounds_toArray,List.set_cons_zero,List.set_cons_succ])
 (refine wpZ_take (i:=1) (v:=?_) rfl (by kernel_rfl) (by decide) (by kernel_rfl) (by kernel_rfl) (by kernel_rfl) (fun _ _ _ h=>h) (Or.inl ⟨by rfl,?_⟩) (by assumption) ?_)
 rotate_left
 ·(intro w hSw;(try dsimp only at hSw);skip;go_simp;first | done | with_reducible rfl)
 (try simp only [Act.put,List.setIfInBounds_toArray,List.set_cons_zero,List.set_cons_succ])
 (refine wpZ_take (i:=2) (v:=?_) rfl (by kernel_rfl) (by decide) (by kernel_rfl) (by kernel_rfl) (by kernel_rfl) (fun _ _ _ h=>h) (Or.inl ⟨by rfl,?_⟩) (by assumption) ?_)
 rotate_left
 ·(intro w hSw;(try dsimp only at hSw);skip;go_simp;first | done | with_reducible rfl)
 (try simp only [Act.put,List.setIfInBounds_toArray,List.set_cons_zero,List.set_cons_succ])
 (refine wpZ_take (i:=3) (v:=?_) rfl (by kernel_rfl) (by decide) (by kernel_rfl) (by kernel_rfl) (by kernel_rfl) (fun _ _ _ h=>h) (Or.inl ⟨by rfl,?_⟩) (by assumption) ?_)
 rotate_left
 ·(intro w hSw;(try dsimp only at hSw);obtain ⟨z3,z9⟩:=hSw;go_simp;first | done | with_reducible rfl)
 (try simp only [Act.put,List.setIfInBounds_toArray,List.set_cons_zero,List.set_cons_succ])
 (refine wpZ_take (i:=4) (v:=?_) rfl (by kernel_rfl) (by decide) (by kernel_rfl) (by kernel_rfl) (by kernel_rfl) (fun _ _ _ h=>h) (Or.inl ⟨by rfl,?_⟩) (by assumption) ?_)
 rotate_left
 ·(intro w hSw;(try dsimp only at hSw);skip;go_simp;first | done | with_reducible rfl)
 (try simp only [Act.put,List.setIfInBounds_toArray,List.set_cons_zero,List.set_cons_succ])
 (refine wpZ_take (i:=5) (v:=?_) rfl (by kernel_rfl) (by decide) (by kernel_rfl) (by kernel_rfl) (by kernel_rfl) (fun _ _ _ h=>h) (Or.inl ⟨by rfl,?_⟩) (by assumption) ?_)
 rotate_left
 ·(intro w hSw;(try dsimp only at hSw);obtain ⟨z3,z9⟩:=hSw;go_simp;first | done | with_reducible rfl)
 (try simp only [Act.put,List.setIfInBounds_toArray,List.set_cons_zero,List.set_cons_succ])
 (refine wpZ_last (by kernel_rfl) rfl (by kernel_rfl) (fun K hK=>?_))
 ((rw [if_pos (by rfl)]);go_simp;refine hK.out _ _ ?_)
 (clear hK K)
 (try simp only [Act.put,List.setIfInBounds_toArray,List.set_cons_zero,List.set_cons_succ])
 clear hput hfrp x3 x9
 go_wp2_with fail
 generalize putMap 3 Tryz.prog w8.drew pc (encNat a) (encC c) = w9 at *
 replace hF9:=hF9.out
 replace h9:=h9.out
 replace hr9:=hr9.out
 obtain ⟨m9,hm9⟩:∃ m9,m9 = (a,c) :: m:=⟨_,rfl⟩
 rw [←hm9] at hF9
 have hl9:=(Array.getElem?_eq_some_iff.1 h9).1
 have hlr:=(Array.getElem?_eq_some_iff.1 hr9).1
 have c9:w9.cell? ⟨g9,0,none⟩ = some (.string S9):=by simp [World.cell?,h9]
 have qs1:=Lib.hid fun (V:World) (hV:Below w9.heap.size w9 V)=>vsize_any (h0.vwAt (hF9.below hV).fr) hc hat
 have qs2:=Lib.hid fun (V:World) (hV:Below w9.heap.size w9 V)=>vsize_any (h0.vwAt (hF9.below hV).fr) hc hP
 have qp:=Lib.hid fun V:World=>pow2_any (w:=V) (n:=L.nv t at_ - L.nv t P) hN8
 have qm:=Lib.hid fun V:World=>nmul_any (w:=V) (a:=c) (b:=2 ^ (L.nv t at_ - L.nv t P)) hcp hc8 hp8
 have hsubw:IntKind.i64.wrap ((L.nv t at_:Int) - (L.nv t P:Int)) = ((L.nv t at_ - L.nv t P:Nat):Int):=by rw [IntWalk.i64_in _ (by omega)];omega
 generalize L.nv t at_ - L.nv t P = D at *
 generalize L.nv t at_ = N at *
 generalize L.nv t P = M at *
 rw [show natV c = .agg #[.string S9] from hS9.out] at qm
 replace hF9:=Lib.hid hF9
 replace hr9:=Lib.hid hr9
 replace h9:=Lib.hid h9
 (refine wp_region_z (S:=(fun V=>Below w9.heap.size w9 V)) 10 (by kernel_rfl) ?_ (fun hHeld=>?_))
 ·exact (Below.refl _ _).drew
 (refine wpZ_take (i:=0) (v:=?_) rfl (by kernel_rfl) (by decide) (by kernel_rfl) (by kernel_rfl) (by kernel_rfl) (fun _ _ _ h=>h) (Or.inl ⟨by rfl,?_⟩) (by assumption) ?_)
 rotate_left
 ·(intro w hSw;(try dsimp only at hSw);have z0:=(hSw.cell (p:=⟨g9,0,none⟩) hl9).trans c9;go_simp;first | done | with_reducible rfl)
 (try simp only [Act.put,List.setIfInBounds_toArray,List.set_cons_zero,List.set_cons_succ])
 (refine wpZ_take (i:=1) (v:=?_) rfl (by kernel_rfl) (by decide) (by kernel_rfl) (by kernel_rfl) (by kernel_rfl) (fun _ _ _ h=>h) (Or.inl ⟨by rfl,?_⟩) (by assumption) ?_)
 rotate_left
 ·(intro w hSw;(try dsimp only at hSw);skip;go_simp;first | done | with_reducible rfl)
 (try simp only [Act.put,List.setIfInBounds_toArray,List.set_cons_zero,List.set_cons_succ])
 (refine wpZ_take (i:=2) (v:=?_) rfl (by kernel_rfl) (by decide) (by kernel_rfl) (by kernel_rfl) (by kernel_rfl) (fun _ _ _ h=>h) (Or.inl ⟨by rfl,?_⟩) (by assumption) ?_)
 rotate_left
 ·(intro w hSw;(try dsimp only at hSw);skip;go_simp;first | done | with_reducible rfl)
 (try simp only [Act.put,List.setIfInBounds_toArray,List.set_cons_zero,List.set_cons_succ])
 (refine wpZ_take (i:=4) (v:=?_) rfl (by kernel_rfl) (by decide) (by kernel_rfl) (by kernel_rfl) (by kernel_rfl) (fun _ _ _ h=>h) (Or.inl ⟨by rfl,?_⟩) (by assumption) ?_)
 rotate_left
 ·(intro w hSw;(try dsimp only at hSw);skip;go_simp;first | done | with_reducible rfl)
 (try simp only [Act.put,List.setIfInBounds_toArray,List.set_cons_zero,List.set_cons_succ])
 (refine wpZ_take (i:=5) (v:=?_) rfl (by kernel_rfl) (by decide) (by kernel_rfl) (by kernel_rfl) (by kernel_rfl) (fun _ _ _ h=>h) (Or.inl ⟨by rfl,?_⟩) (by assumption) ?_)
 rotate_left
 ·(intro w hSw;(try dsimp only at hSw);skip;go_simp;first | done | with_reducible rfl)
 (try simp only [Act.put,List.setIfInBounds_toArray,List.set_cons_zero,List.set_cons_succ])
 (refine wpZ_one (i:=3) (by kernel_rfl) rfl (fun K hK=>?_))
 ((rw [if_pos (by rfl)]);go_simp;(go_at_call 161);refine (qs1.out _ hHeld).mono ?_;rintro e v1 ⟨rfl,hv1⟩;refine hK.out _ _ (hHeld.trans (hv1.below.mono hHeld.size)) (fun hHeld=>?_))
 (clear hK K)
 (try simp only [Act.put,List.setIfInBounds_toArray,List.set_cons_zero,List.set_cons_succ])
 (refine wpZ_one (i:=6) (by kernel_rfl) rfl (fun K hK=>?_))
 ((rw [if_pos (by rfl)]);go_simp;(go_at_call 161);refine (qs2.out _ hHeld).mono ?_;rintro e v2 ⟨rfl,hv2⟩;refine hK.out _ _ (hHeld.trans (hv2.below.mono hHeld.size)) (fun hHeld=>?_))
 (clear hK K)
 (try simp only [Act.put,List.setIfInBounds_toArray,List.set_cons_zero,List.set_cons_succ])
 (refine wpZ_take (i:=7) (v:=?_) rfl (by kernel_rfl) (by decide) (by kernel_rfl) (by kernel_rfl) (by kernel_rfl) (fun _ _ _ h=>h) (Or.inl ⟨by rfl,?_⟩) (by assumption) ?_)
 rotate_left
 ·(intro w hSw;(try dsimp only at hSw);skip;go_simp;first | done | with_reducible rfl)
 (try simp only [Act.put,List.setIfInBounds_toArray,List.set_cons_zero,List.set_cons_succ])
 (refine wpZ_one (i:=8) (by kernel_rfl) rfl (fun K hK=>?_))
 ((rw [if_pos (by rfl)]);go_simp;(go_at_call 43);refine (qp.out _).mono ?_;rintro e v3 ⟨rfl,hv3⟩;refine hK.out _ _ (hHeld.trans (hv3.mono hHeld.size)) (fun hHeld=>?_))
 (clear hK K)
 (try simp only [Act.put,List.setIfInBounds_toArray,List.set_cons_zero,List.set_cons_succ])
 (refine wpZ_one (i:=9) (by kernel_rfl) rfl (fun K hK=>?_))
 ((rw [if_pos (by rfl)]);go_simp;(go_at_call 68);refine (qm.out _).mono ?_;rintro e v4 ⟨rfl,hv4⟩;refine hK.out _ _ (hHeld.trans (hv4.mono hHeld.size)) (fun hHeld=>?_))
 (clear hK K)
 (try simp only [Act.put,List.setIfInBounds_toArray,List.set_cons_zero,List.set_cons_succ])
 have hr10:=(hHeld.block _ hlr).trans hr9.out
 have fz:v4.frozen? ⟨W.heap.size,0,none⟩ = false:=by simp [World.frozen?,hr10]
 have hcc:v4.cell? ⟨W.heap.size,0,none⟩ = some (.string ⟨#[]⟩):=by simp [World.cell?,hr10]
 unfold natV
 generalize hT:(⟨(natL (c * 2 ^ D)).toArray⟩:ByteArray) = T at *
 have hfin:((v4.setCell ⟨W.heap.size,0,none⟩ (.string T)).cell? ⟨W.heap.size,0,none⟩ = some (.string T)):=by simp [World.cell?,heap_set hr10 0 _]
 replace hfin:=Lib.hid hfin
 have hF10:=Lib.hid ((hF9.out.below hHeld).fresh (r:=W.heap.size) (o:=0) (v:=.string T) hF.fr.size (by have:=hF.mp.lt;omega))
 have hfr10:=FrV.trans hfr9 (fr_below pc hHeld)
 have hfr11:Hid (Fr [pc] W (v4.setCell ⟨W.heap.size,0,none⟩ (.string T))):=Lib.hid ⟨hfr10.os,hfr10.tape,hfr10.output,by have:=hfr10.size;simpa using this,fun j hj hM=>(heap_setN 0 _ (by omega)).trans (hfr10.block j hj hM)⟩
 replace hr10:=Lib.hid hr10
 clear qs1 qs2 qp qm hHeld hfr10
 (refine wpZ_last (by kernel_rfl) rfl (by kernel_rfl) (fun K hK=>?_))
 ((rw [if_pos (by rfl)]);go_simp;refine hK.out _ _ ?_)
 (clear hK K)
 (try simp only [Act.put,List.setIfInBounds_toArray,List.set_cons_zero,List.set_cons_succ])
 go_wp2_with fail
 exact bodyPost_ret (v:=.agg #[.string T]) (by simp [results,Tryz.results97,go_sem,hfin.out]) rfl ⟨m9,by rw [←hT,hcnt.out] <;> rfl,hF10.out,hfr11.out⟩
end
end Go.Proofs.YtmnjakejhbpkoaaGreatDoor
