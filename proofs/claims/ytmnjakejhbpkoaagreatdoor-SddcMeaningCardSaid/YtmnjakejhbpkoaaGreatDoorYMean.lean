import Derived.Test.YtmnjakejhbpkoaaGreatDoorYCf
import Derived.Test.YtmnjakejhbpkoaaGreatDoorYEv5
set_option linter.unusedSimpArgs false
set_option linter.unusedVariables false
namespace Go.Proofs.YtmnjakejhbpkoaaGreatDoor
open Go Go.RowKit Go.Shelf
theorem compile_any {n:Int} {T:List (List Int)} {v:Value} {w:World} (hv:SlT w v T) {t:List VN} (ba:Option Addr) (cap:Nat) (h:t = []∨∃ b o,ba = some ⟨b,o,none⟩∧TreeAt w b o t) (hL:light27B n T = true) (hF:few27B t = true) (hT:TzTab w) (hP:PowTab w) :
  Calls Tryz.prog 19 #[.agg #[.int .i64 n,v],.slice ba t.length cap] w fun e w'=>∃ (p:Option Addr) (r:Nat),e = .returned (.tuple #[.pointer p,.int .i64 (r:Nat),.int .i64 (compE n T t)])∧Below w.heap.size w w':=by
 by_cases hE:compE n T t = 0
 ·obtain ⟨hok,hc,hsub⟩:=compE_ok hE
  obtain ⟨b,o,rfl,ht⟩:=tree_some hc h
  rw [hE]
  refine (compile_ok hv b o cap hok (light_few hL hok) ht hc (few_len hF hc) hsub hT hP).mono fun e w' hh=>?_
  obtain ⟨sb,root,s,e1,_,_,hb⟩:=hh
  exact ⟨_,root,e1,hb⟩
 ·exact (compile_no hv ba cap h hE).mono fun e w' hh=>⟨none,0,hh.1,hh.2⟩
theorem cut_same {T:List (List Int)} {n:Nat} (hok:L.thChk n T = 0) (a:VSet):L.thφ T (L.asg (a &&& allK n)) = L.thφ T (L.asg a):=by
 obtain ⟨⟨hn0,hn1⟩,_,hall⟩:=L.thChk_ok.1 hok
 refine L.thφ_dep fun c hc l hl=>?_
 have hr:=L.validB_range hn1 ((hall c hc).2 l hl)
 show hasS (a &&& allK n) _ = hasS a _
 rw [hasS_and,(hasS_allK _ n (by omega)).2 ⟨hr.1,hr.2.1⟩,Bool.and_true]
theorem vars_same {t t':List VN} (hc:checkF t = 0) (hc':checkF t' = 0) {l l':List Int} (h:L.SortedBel t (t.length - 1) l) (h':L.SortedBel t' (t'.length - 1) l') (e:ofS l = ofS l') (φ:L.Asg→Bool):L.cnt (L.vl t (t.length - 1)) φ = L.cnt (L.vl t' (t'.length - 1)) φ:=by
 have h0:=(check_ok hc).1
 have h0':=(check_ok hc').1
 refine L.cnt_perm ((L.sorted_perm hc (by omega) h).symm.trans (List.Perm.trans ?_ (L.sorted_perm hc' (by omega) h'))) φ
 rw [List.perm_ext_iff_of_nodup (L.sorted_nodup h.sorted) (L.sorted_nodup h'.sorted)]
 intro x
 have hm:∀ {t:List VN} {l:List Int},L.SortedBel t (t.length - 1) l→(x∈l↔hasS (ofS l) x = true):=fun {t l} hl=>by
  rw [L.hasS_ofS]
  exact ⟨fun hx=>⟨((hl.mem x).1 hx).range,hx⟩,fun hx=>hx.2⟩
 rw [hm h,hm h',e]
theorem owns_row {w:World} {B:Nat} {v:Value} {l:List Int} (h:w.ownsRow B 3 1 v l.length (l.map encZ)):SlI w v l:=owns_slI h
set_option maxRecDepth 100000 in
set_option maxHeartbeats 16000000 in
theorem meaning_any {n:Int} {T:List (List Int)} {u:Value} {t t':List VN} {x0 x1:Int} (w:World) (ba ba':Option Addr) (cap cap':Nat) (hT:TzTab w) (hP:PowTab w) (hv:SlT w u T∧T.length≤9223372036854775807∧(-9223372036854775808≤n∧n≤9223372036854775807)) (ht:t = []∨∃ b o,ba = some ⟨b,o,none⟩∧TreeAt w b o t) (htl:t.length≤5864062014805)
  (ht':t' = []∨∃ b o,ba' = some ⟨b,o,none⟩∧TreeAt w b o t') (htl':t'.length≤5864062014805) (hz:(0≤x0∧x0≤18446744073709551615)∧(0≤x1∧x1≤18446744073709551615)) :
  Calls Tryz.prog 7 #[.agg #[.int .i64 n,u],.slice ba t.length cap,.slice ba' t'.length cap',.agg #[.int .u64 x0,.int .u64 x1]] w fun e w'=>e = .returned (.bool true)∧Below w.heap.size w w':=by
 obtain ⟨hv,hlT,_⟩:=hv
 obtain ⟨a,rfl,rfl⟩:=vset_of hz.1 hz.2
 obtain ⟨e0,e1⟩:=alloc2h w (.cells #[.int .i64 n,u] 24) (.cells #[.int .u64 (lo a),.int .u64 (hi a)] 41)
 have hx1:Ext w ((w.alloc (.cells #[.int .i64 n,u] 24)).alloc (.cells #[.int .u64 (lo a),.int .u64 (hi a)] 41)):=((Ext.refl w).alloc _).alloc _
 have hw:∀ W,Below w.heap.size w W→Calls Tryz.prog 16 #[] W fun e w''=>e = .returned (.bool true)∧Below W.heap.size W w'':=fun W hx=>works27_any W (hT.same (hx.block _ hT.lt')) (hP.same (hx.block _ hP.lt))
 obtain ⟨w1,hw1⟩:∃ w1,w1 = (w.alloc (.cells #[.int .i64 n,u] 24)).alloc (.cells #[.int .u64 (lo a),.int .u64 (hi a)] 41):=⟨_,rfl⟩
 rw [←hw1] at e0 e1 hx1
 have c0:w1.cell? ⟨w.heap.size,0,none⟩ = some (.int .i64 n):=by rw [World.cell?,e0];rfl
 have c1:w1.cell? ⟨w.heap.size,1,none⟩ = some u:=by rw [World.cell?,e0];rfl
 have ql:=light27_any (n:=n) (hv.ext hx1.below) hlT
 have hvh:=Lib.hid hv
 obtain ⟨bb,cp,rfl,_⟩:=hv
 replace e0:=Lib.hid e0
 replace e1:=Lib.hid e1
 replace hw:=Lib.hid hw
 replace hx1:=Lib.hid hx1
 cases hL:light27B n T
 ·rw [hL] at ql
  go_enter Tryz.func7,Tryz.ntmps7
  go_wp2_with fail
  rw [←hw1]
  replace hw1:=Lib.hid hw1
  go_wp2_with fail
  refine ql.mono ?_
  rintro e w2 ⟨rfl,hx2⟩
  have hx:=hx1.out.trans hx2
  have q:=hw.out w2 hx.below
  clear ql
  go_wp2_with fail
  refine q.mono ?_
  rintro e w3 ⟨rfl,hb3⟩
  go_wp2_with fail
  go_ret
  exact ⟨rfl,hx.below.trans (hb3.mono hx.size)⟩
 ·rw [hL] at ql
  have qf:∀ W,Ext w1 W→Calls Tryz.prog 15 #[.slice ba t.length cap] W fun e w'=>e = .returned (.bool (few27B t))∧Ext W w':=fun W hx=>few27_any W ba cap (refchk_any W ba cap (ht.imp id fun ⟨b,o,e,h⟩=>⟨b,o,e,(h.ext hx1.out).ext hx⟩) htl)
  have qf':∀ W,Ext w1 W→Calls Tryz.prog 15 #[.slice ba' t'.length cap'] W fun e w'=>e = .returned (.bool (few27B t'))∧Ext W w':=fun W hx=>few27_any W ba' cap' (refchk_any W ba' cap' (ht'.imp id fun ⟨b,o,e,h⟩=>⟨b,o,e,(h.ext hx1.out).ext hx⟩) htl')
  cases hF:few27B t
  ·rw [hF] at qf
   replace qf:=Lib.hid qf
   replace qf':=Lib.hid qf'
   go_enter Tryz.func7,Tryz.ntmps7
   go_wp2_with fail
   rw [←hw1]
   replace hw1:=Lib.hid hw1
   go_wp2_with fail
   refine ql.mono ?_
   rintro e w2 ⟨rfl,hx2⟩
   have q:=qf.out w2 hx2
   clear ql
   go_wp2_with fail
   refine q.mono ?_
   rintro e w3 ⟨rfl,hx3⟩
   have hx:=(hx1.out.trans hx2).trans hx3
   have qw:=hw.out w3 hx.below
   clear q
   go_wp2_with fail
   refine qw.mono ?_
   rintro e w4 ⟨rfl,hb4⟩
   go_wp2_with fail
   go_ret
   exact ⟨rfl,hx.below.trans (hb4.mono hx.size)⟩
  ·rw [hF] at qf
   replace qf:=Lib.hid qf
   cases hF':few27B t'
   ·rw [hF'] at qf'
    replace qf':=Lib.hid qf'
    go_enter Tryz.func7,Tryz.ntmps7
    go_wp2_with fail
    rw [←hw1]
    replace hw1:=Lib.hid hw1
    go_wp2_with fail
    refine ql.mono ?_
    rintro e w2 ⟨rfl,hx2⟩
    have q:=qf.out w2 hx2
    clear ql
    go_wp2_with fail
    refine q.mono ?_
    rintro e w3 ⟨rfl,hx3⟩
    have q3:=qf'.out w3 (hx2.trans hx3)
    clear q
    go_wp2_with fail
    refine q3.mono ?_
    rintro e w4 ⟨rfl,hx4⟩
    have hx:=((hx1.out.trans hx2).trans hx3).trans hx4
    have qw:=hw.out w4 hx.below
    clear q3
    go_wp2_with fail
    refine qw.mono ?_
    rintro e w5 ⟨rfl,hb5⟩
    go_wp2_with fail
    go_ret
    exact ⟨rfl,hx.below.trans (hb5.mono hx.size)⟩
   ·rw [hF'] at qf'
    replace qf':=Lib.hid qf'
    by_cases hE:compE n T t = 0∧compE n T t' = 0
    ·obtain ⟨hE1,hE2⟩:=hE
     obtain ⟨hok,hc,hsub⟩:=compE_ok hE1
     obtain ⟨_,hc',hsub'⟩:=compE_ok hE2
     obtain ⟨b,o,rfl,htr⟩:=tree_some hc ht
     obtain ⟨b',o',rfl,htr'⟩:=tree_some hc' ht'
     have hfew:=few_len hF hc
     have hfew':=few_len hF' hc'
     have h30:=light_few hL hok
     obtain ⟨⟨hn0,hn1⟩,_,_⟩:=L.thChk_ok.1 hok
     obtain ⟨nn,rfl⟩:∃ k:Nat,n = k:=⟨n.toNat,by omega⟩
     have hcs:=cut_same hok a
     have hau:∀ v,hasS (a &&& allK nn) v = true→v≤nn:=fun v h=>by
      rw [hasS_and,Bool.and_eq_true] at h
      exact ((hasS_allK v nn (by omega)).1 h.2).2
     have qe:=fun (W:World) (h:Below w.heap.size w W)=>thEval_any (hvh.out.ext h) hok (a &&& allK nn) hau
     rw [hcs] at qe
     have qa:=fun W=>all_any nn (by omega) W
     have qk:=fun W=>cut_any a (allK nn) W
     have kv:=fun l l' h h' e=>vars_same (l:=l) (l':=l') hc hc' h h' e (L.thφ T)
     have k1:=cnt64 hc hfew (L.thφ T)
     have k2:=cnt64 hc' hfew' (L.thφ T)
     replace hE1:=Lib.hid hE1
     replace hE2:=Lib.hid hE2
     replace hsub:=Lib.hid hsub
     replace hsub':=Lib.hid hsub'
     replace htr:=Lib.hid htr
     replace htr':=Lib.hid htr'
     replace hok:=Lib.hid hok
     replace hc:=Lib.hid hc
     replace hc':=Lib.hid hc'
     replace qe:=Lib.hid qe
     replace qa:=Lib.hid qa
     replace qk:=Lib.hid qk
     replace kv:=Lib.hid kv
     clear hL hF hF' ht ht' hcs hau
     go_enter Tryz.func7,Tryz.ntmps7
     go_wp2_with fail
     rw [←hw1]
     replace hw1:=Lib.hid hw1
     go_wp2_with fail
     refine ql.mono ?_
     rintro e w2 ⟨rfl,hx2⟩
     have q:=qf.out w2 hx2
     have a0:=hx2.cell c0
     have a1:=hx2.cell c1
     clear ql c0 c1
     go_wp2_with fail
     refine q.mono ?_
     rintro e w3 ⟨rfl,hx3⟩
     have q3:=qf'.out w3 (hx2.trans hx3)
     have b0:=hx3.cell a0
     have b1:=hx3.cell a1
     clear q a0 a1
     go_wp2_with fail
     refine q3.mono ?_
     rintro e w4 ⟨rfl,hx4⟩
     have hx:=((hx1.out.trans hx2).trans hx3).trans hx4
     have hx14:=(hx2.trans hx3).trans hx4
     have d0:=hx4.cell b0
     have d1:=hx4.cell b1
     have q4:=compile_ok (hvh.out.ext hx.below) b o cap hok.out h30 (htr.out.ext hx) hc.out hfew hsub.out (hT.ext hx) (hP.below hx.below)
     clear q3 b0 b1 hx2 hx3 hx4
     replace hx:=Lib.hid hx
     go_wp2_with fail
     refine q4.mono ?_
     rintro e w5 ⟨sb,root,s5,rfl,hS5,hv5,hb5⟩
     have hSw:=hS5.base hx.out.below
     have hbe:=hSw.bel
     have f0:=(hb5.cell (World.block_lt_of_cell? _ _ d0)).trans d0
     have f1:=(hb5.cell (World.block_lt_of_cell? _ _ d1)).trans d1
     have hT5:=hT.same (hbe.block _ hT.lt')
     have hP5:=hP.same (hbe.block _ hP.lt)
     have q5:=compile_ok (hvh.out.ext hbe) b' o' cap' hok.out h30 (htr'.out.below hbe) hc'.out hfew' hsub'.out hT5 hP5
     have hb15:Below w1.heap.size w1 w5:=hx14.below.trans (hb5.mono hx14.size)
     replace hSw:=Lib.hid hSw
     replace hbe:=Lib.hid hbe
     replace hb15:=Lib.hid hb15
     clear q4 d0 d1 hS5 hb5 hx14 hT5 hP5
     go_wp2_with fail
     refine q5.mono ?_
     rintro e w6 ⟨sb',root',s6,rfl,hS6,hv6,hb6⟩
     have hSa:=hSw.out.below hb6
     have hSb:=hS6.base hbe.out
     have hbf:=hSb.bel
     have g0:=(hb6.cell (World.block_lt_of_cell? _ _ f0)).trans f0
     have g1:=(hb6.cell (World.block_lt_of_cell? _ _ f1)).trans f1
     have hb16:Below w1.heap.size w1 w6:=hb15.out.trans (hb6.mono hb15.out.size)
     have m0:w6.cell? ⟨w.heap.size+1,0,none⟩ = some (.int .u64 (lo a)):=by rw [World.cell?,hb16.block _ (Array.getElem?_eq_some_iff.1 e1.out).1,e1.out];rfl
     have m1:w6.cell? ⟨w.heap.size+1,1,none⟩ = some (.int .u64 (hi a)):=by rw [World.cell?,hb16.block _ (Array.getElem?_eq_some_iff.1 e1.out).1,e1.out];rfl
     replace hSa:=Lib.hid hSa
     replace hSb:=Lib.hid hSb
     replace hbf:=Lib.hid hbf
     clear q5 f0 f1 hS6 hb6 hb16
     go_wp2_with fail
     (refine wp_region_held_drew (S:=(fun V=>Ext w6 V∧V.cell? ⟨w.heap.size,0,none⟩ = some (.int .i64 (nn:Nat))∧V.cell? ⟨w.heap.size,1,none⟩ = some (.slice bb T.length cp)∧V.cell? ⟨w.heap.size+1,0,none⟩ = some (.int .u64 (lo a))∧V.cell? ⟨w.heap.size+1,1,none⟩ = some (.int .u64 (hi a)))) (by kernel_rfl) ?_ (fun hHeld=>?_))
     ·exact ⟨(Ext.refl _).drew,g0,g1,m0,m1⟩
     (refine takeL (i:=0) (v:=?_) rfl (by kernel_rfl) (by kernel_rfl) (by kernel_rfl) (fun _ _ _ h=>h) (Or.inl ⟨by rfl,?_⟩) (by assumption) ?_)
     rotate_left
     ·(intro w hSw;(try dsimp only at hSw);go_simp;first | done | with_reducible rfl)
     (try simp only [Act.put,List.setIfInBounds_toArray,List.set_cons_zero,List.set_cons_succ])
     (refine takeL (i:=1) (v:=?_) rfl (by kernel_rfl) (by kernel_rfl) (by kernel_rfl) (fun _ _ _ h=>h) (Or.inl ⟨by rfl,?_⟩) (by assumption) ?_)
     rotate_left
     ·(intro w hSw;(try dsimp only at hSw);go_simp;first | done | with_reducible rfl)
     (try simp only [Act.put,List.setIfInBounds_toArray,List.set_cons_zero,List.set_cons_succ])
     (refine takeL (i:=2) (v:=?_) rfl (by kernel_rfl) (by kernel_rfl) (by kernel_rfl) (fun _ _ _ h=>h) (Or.inl ⟨by rfl,?_⟩) (by assumption) ?_)
     rotate_left
     ·(intro w hSw;(try dsimp only at hSw);go_simp;first | done | with_reducible rfl)
     (try simp only [Act.put,List.setIfInBounds_toArray,List.set_cons_zero,List.set_cons_succ])
     (refine takeL (i:=3) (v:=?_) rfl (by kernel_rfl) (by kernel_rfl) (by kernel_rfl) (fun _ _ _ h=>h) (Or.inl ⟨by rfl,?_⟩) (by assumption) ?_)
     rotate_left
     ·(intro w hSw;(try dsimp only at hSw);go_simp;first | done | with_reducible rfl)
     (try simp only [Act.put,List.setIfInBounds_toArray,List.set_cons_zero,List.set_cons_succ])
     (refine wpAnyH_ready (rs:=[4]) (by kernel_rfl) (by simp) ?_)
     (refine consL rfl (fun K hK=>?_))
     ((rw [if_pos (by rfl)]);go_simp;(go_at_call 47);refine (qa.out _).mono ?_;rintro e w7 ⟨rfl,hx7⟩;refine hK.out _ _ ⟨hHeld.1.trans hx7,hx7.cell hHeld.2.1,hx7.cell hHeld.2.2.1,hx7.cell hHeld.2.2.2.1,hx7.cell hHeld.2.2.2.2⟩ (fun hHeld=>?_))
     (clear hK K)
     (try simp only [Act.put,List.setIfInBounds_toArray,List.set_cons_zero,List.set_cons_succ])
     (refine wpAnyH_ready (rs:=[5]) (by kernel_rfl) (by simp) ?_)
     (refine consL rfl (fun K hK=>?_))
     ((rw [if_pos (by rfl)]);go_simp;(go_at_call 46);refine (qk.out _).mono ?_;rintro e w8 ⟨rfl,hx8⟩;refine hK.out _ _ ⟨hHeld.1.trans hx8,hx8.cell hHeld.2.1,hx8.cell hHeld.2.2.1,hx8.cell hHeld.2.2.2.1,hx8.cell hHeld.2.2.2.2⟩ (fun hHeld=>?_))
     (clear hK K)
     (try simp only [Act.put,List.setIfInBounds_toArray,List.set_cons_zero,List.set_cons_succ])
     (refine wpAnyH_ready (rs:=[6]) (by kernel_rfl) (by simp) ?_)
     (refine consL rfl (fun K hK=>?_))
     ((rw [if_pos (by rfl)]);go_simp;(go_at_call 45);refine (qe.out _ (hbf.out.trans (hHeld.1.below.mono hbf.out.size))).mono ?_;rintro e w9 ⟨rfl,hx9⟩;refine hK.out _ _ ⟨hHeld.1.trans hx9,hx9.cell hHeld.2.1,hx9.cell hHeld.2.2.1,hx9.cell hHeld.2.2.2.1,hx9.cell hHeld.2.2.2.2⟩ (fun hHeld=>?_))
     (clear hK K)
     (try simp only [Act.put,List.setIfInBounds_toArray,List.set_cons_zero,List.set_cons_succ])
     (refine takeL (i:=7) (v:=?_) rfl (by kernel_rfl) (by kernel_rfl) (by kernel_rfl) (fun _ _ _ h=>h) (Or.inl ⟨by rfl,?_⟩) (by assumption) ?_)
     rotate_left
     ·(intro w hSw;(try dsimp only at hSw);go_simp;first | done | with_reducible rfl)
     (try simp only [Act.put,List.setIfInBounds_toArray,List.set_cons_zero,List.set_cons_succ])
     (refine wpAnyH_done (by kernel_rfl) ?_ _)
     obtain ⟨hx69,_,_,p0,p1⟩:=hHeld
     have hSa9:=hSa.out.below hx69.below
     have hSb9:=hSb.out.below hx69.below
     have q6:=hSa9.eval hv5 a
     have q7:=fun (W:World) (h:Ext w9 W)=>(hSb9.below h.below).eval hv6 a
     generalize hBB:L.thφ T (L.asg a) = BB at *
     replace hSa9:=Lib.hid hSa9
     replace hSb9:=Lib.hid hSb9
     replace q7:=Lib.hid q7
     replace hBB:=Lib.hid hBB
     clear qe qa qk hx7 hx8 hx9 hx69 g0 g1 m0 m1
     go_wp2_with fail
     refine q6.mono ?_
     rintro e w10 ⟨rfl,hx10⟩
     have q8:=q7.out w10 hx10
     have r0:=hx10.cell p0
     have r1:=hx10.cell p1
     clear q6
     go_wp2_with fail
     refine q8.mono ?_
     rintro e w11 ⟨rfl,hx11⟩
     have hx911:=hx10.trans hx11
     have hSa11:=hSa9.out.below hx911.below
     have hSb11:=hSb9.out.below hx911.below
     have q9:=count_any hSa11 hv5
     have q10:=fun (W:World) (h:Below w11.heap.size w11 W)=>count_any (hSb11.below h) hv6
     generalize hC1:L.cnt (L.vl t (t.length - 1)) (L.thφ T) = C1 at *
     generalize hC2:L.cnt (L.vl t' (t'.length - 1)) (L.thφ T) = C2 at *
     have hE12:=fun W=>natEq (a:=C1) (b:=C2) (by omega) (by omega) W
     simp only [nat_agg] at q9 q10 hE12
     generalize hA1:(⟨(natL C1).toArray⟩:ByteArray) = A1 at *
     generalize hA2:(⟨(natL C2).toArray⟩:ByteArray) = A2 at *
     have hbe11:=hSa11.bel
     replace hSa11:=Lib.hid hSa11
     replace hSb11:=Lib.hid hSb11
     replace hbe11:=Lib.hid hbe11
     replace q10:=Lib.hid q10
     replace hC1:=Lib.hid hC1
     replace hC2:=Lib.hid hC2
     replace hA1:=Lib.hid hA1
     replace hA2:=Lib.hid hA2
     clear q8 hx10 hx11 hx911 p0 p1 r0 r1 q7 hSa9 hSb9
     go_wp2_with fail
     refine q9.mono ?_
     rintro e w12 ⟨rfl,hb12⟩
     have hbA:Below w12.heap.size w12 (w12.alloc (.cells #[.string A1] 52)):=(Below.refl _ _).alloc (Nat.le_refl _) _
     have nA:=heap_alloc_new w12 (.cells #[.string A1] 52)
     obtain ⟨w13,hw13⟩:∃ w13,w13 = w12.alloc (.cells #[.string A1] 52):=⟨_,rfl⟩
     rw [←hw13] at hbA nA
     have hb13:=hb12.trans (hbA.mono hb12.size)
     have q11:=q10.out w13 hb13
     clear q9 hbA
     go_wp2_with fail
     rw [←hw13]
     replace hw13:=Lib.hid hw13
     refine q11.mono ?_
     rintro e w14 ⟨rfl,hb14⟩
     have hbB:Below w14.heap.size w14 (w14.alloc (.cells #[.string A2] 52)):=(Below.refl _ _).alloc (Nat.le_refl _) _
     have nB:=heap_alloc_new w14 (.cells #[.string A2] 52)
     obtain ⟨w15,hw15⟩:∃ w15,w15 = w14.alloc (.cells #[.string A2] 52):=⟨_,rfl⟩
     rw [←hw15] at hbB nB
     have nA2:=(hbB.block _ (Nat.lt_of_lt_of_le (Array.getElem?_eq_some_iff.1 nA).1 hb14.size)).trans ((hb14.block _ (Array.getElem?_eq_some_iff.1 nA).1).trans nA)
     have hb1415:=hb14.trans (hbB.mono hb14.size)
     have hb15':=hb13.trans (hb1415.mono hb13.size)
     have hbe15:=hbe11.out.trans (hb15'.mono hbe11.out.size)
     have qo:=over_any (cap:=cap) w15 b o (htr.out.below hbe15) hc.out (hT.same (hbe15.block _ hT.lt'))
     replace hbe15:=Lib.hid hbe15
     clear q11 hbB hb1415 hb15' nA
     go_wp2_with fail
     rw [←hw15]
     replace hw15:=Lib.hid hw15
     refine qo.mono ?_
     rintro e w16 ⟨lv,l,rfl,hol,hsl,hb16⟩
     have hl0:=sorted_pos hc.out hsl
     have hi1:=owns_row hol
     have hll:=hsl.len hc.out (by have:=(check_ok hc.out).1;omega)
     have hnl:=L.nv_le hc.out (v:=t.length - 1) (by have:=(check_ok hc.out).1;omega)
     have q12:=of_any l lv w16 hi1 (by omega)
     unfold encS at q12
     obtain ⟨g,lc,rfl,_,_⟩:=own_open hol (by intro e;rw [e] at hl0;simp at hl0)
     replace hsl:=Lib.hid hsl
     clear qo hol hi1 hll hnl
     go_wp2_with fail
     refine q12.mono ?_
     rintro e w17 ⟨rfl,hx17⟩
     have hb1517:Below w15.heap.size w15 w17:=hb16.trans (hx17.below.mono hb16.size)
     have hbe17:=hbe15.out.trans (hb1517.mono hbe15.out.size)
     have qo2:=over_any (cap:=cap') w17 b' o' (htr'.out.below hbe17) hc'.out (hT.same (hbe17.block _ hT.lt'))
     replace hbe17:=Lib.hid hbe17
     clear q12 hb16
     go_wp2_with fail
     refine qo2.mono ?_
     rintro e w18 ⟨lv',l',rfl,hol',hsl',hb18⟩
     have hl0':=sorted_pos hc'.out hsl'
     have hi1':=owns_row hol'
     have hll':=hsl'.len hc'.out (by have:=(check_ok hc'.out).1;omega)
     have hnl':=L.nv_le hc'.out (v:=t'.length - 1) (by have:=(check_ok hc'.out).1;omega)
     have q13:=of_any l' lv' w18 hi1' (by omega)
     unfold encS at q13
     obtain ⟨g',lc',rfl,_,_⟩:=own_open hol' (by intro e;rw [e] at hl0';simp at hl0')
     have hED:=fun W=>setEqS (ofS l) (ofS l') W
     have hk:=kv.out l l' hsl.out hsl'
     generalize hM1:ofS l = M1 at *
     generalize hM2:ofS l' = M2 at *
     clear qo2 hol' hi1' hll' hnl'
     replace hsl':=Lib.hid hsl'
     replace hk:=Lib.hid hk
     replace hM1:=Lib.hid hM1
     replace hM2:=Lib.hid hM2
     go_wp2_with fail
     refine q13.mono ?_
     rintro e w19 ⟨rfl,hx19⟩
     have hb1719:Below w17.heap.size w17 w19:=hb18.trans (hx19.below.mono hb18.size)
     have hbe19:=hbe17.out.trans (hb1719.mono hbe17.out.size)
     have hb19:=hb1517.trans (hb1719.mono hb1517.size)
     have y1:w19.cell? ⟨w12.heap.size,0,none⟩ = some (.string A1):=by simp [World.cell?,(hb19.block _ (Array.getElem?_eq_some_iff.1 nA2).1).trans nA2]
     have y2:w19.cell? ⟨w14.heap.size,0,none⟩ = some (.string A2):=by simp [World.cell?,(hb19.block _ (Array.getElem?_eq_some_iff.1 nB).1).trans nB]
     have qw:=hw.out w19 hbe19
     replace hbe19:=Lib.hid hbe19
     clear q13 hb18 hx19 hb1719 hb19 hx17 hb1517 nA2 nB
     by_cases hMM:M1 = M2
     ·have hcc:C1 = C2:=hk.out hMM
      have hD:∀ W,(Op.equalIn 10000 41 (.agg #[.int .u64 (lo M1),.int .u64 (hi M1)]) (.agg #[.int .u64 (lo M2),.int .u64 (hi M2)])).run Tryz.prog W = .ok true W:=fun W=>by rw [hED W,decide_eq_true hMM]
      have hE13:∀ W,(Op.equalIn 10000 52 (.agg #[.string A1]) (.agg #[.string A2])).run Tryz.prog W = .ok true W:=fun W=>by rw [hE12 W,decide_eq_true hcc]
      clear hED hE12
      replace hMM:=Lib.hid hMM
      replace hcc:=Lib.hid hcc
      go_wp2_with fail
      refine qw.mono ?_
      rintro e w20 ⟨rfl,hb20⟩
      go_wp2_with fail
      go_ret
      exact ⟨rfl,hbe19.out.trans (hb20.mono hbe19.out.size)⟩
     ·have hD:∀ W,(Op.equalIn 10000 41 (.agg #[.int .u64 (lo M1),.int .u64 (hi M1)]) (.agg #[.int .u64 (lo M2),.int .u64 (hi M2)])).run Tryz.prog W = .ok false W:=fun W=>by rw [hED W,decide_eq_false hMM]
      clear hED hE12
      replace hMM:=Lib.hid hMM
      go_wp2_with fail
      refine qw.mono ?_
      rintro e w20 ⟨rfl,hb20⟩
      go_wp2_with fail
      go_ret
      exact ⟨rfl,hbe19.out.trans (hb20.mono hbe19.out.size)⟩
    ·have hTe:∀ W,Ext w W→TzTab W∧PowTab W:=fun W h=>⟨hT.ext h,hP.below h.below⟩
     have qc1:=fun (W:World) (h:Ext w W)=>compile_any (hvh.out.ext h.below) ba cap (ht.imp id fun ⟨b,o,e,g⟩=>⟨b,o,e,g.ext h⟩) hL hF (hTe W h).1 (hTe W h).2
     have qc2:=fun (W:World) (h:Below w.heap.size w W)=>compile_any (hvh.out.ext h) ba' cap' (ht'.imp id fun ⟨b,o,e,g⟩=>⟨b,o,e,g.below h⟩) hL hF' (hT.same (h.block _ hT.lt')) (hP.same (h.block _ hP.lt))
     have hd:(compE n T t != 0) = true∨((compE n T t != 0) = false∧(compE n T t' != 0) = true):=by
      by_cases h1:compE n T t = 0
      ·exact .inr ⟨by simp [h1],by have:compE n T t'≠0:=fun h=>hE ⟨h1,h⟩
                                   simpa using this⟩
      ·exact .inl (by simpa using h1)
     replace qc1:=Lib.hid qc1
     replace qc2:=Lib.hid qc2
     replace hTe:=Lib.hid hTe
     clear hE
     go_enter Tryz.func7,Tryz.ntmps7
     go_wp2_with fail
     rw [←hw1]
     replace hw1:=Lib.hid hw1
     go_wp2_with fail
     refine ql.mono ?_
     rintro e w2 ⟨rfl,hx2⟩
     have q:=qf.out w2 hx2
     have a0:=hx2.cell c0
     have a1:=hx2.cell c1
     clear ql c0 c1
     go_wp2_with fail
     refine q.mono ?_
     rintro e w3 ⟨rfl,hx3⟩
     have q3:=qf'.out w3 (hx2.trans hx3)
     have b0:=hx3.cell a0
     have b1:=hx3.cell a1
     clear q a0 a1
     go_wp2_with fail
     refine q3.mono ?_
     rintro e w4 ⟨rfl,hx4⟩
     have hx:=((hx1.out.trans hx2).trans hx3).trans hx4
     have d0:=hx4.cell b0
     have d1:=hx4.cell b1
     have q4:=qc1.out w4 hx
     clear q3 b0 b1 hx2 hx3 hx4
     replace hx:=Lib.hid hx
     go_wp2_with fail
     refine q4.mono ?_
     rintro e w5 ⟨p5,r5,rfl,hb5⟩
     have hbe:=hx.out.below.trans (hb5.mono hx.out.size)
     have f0:=(hb5.cell (World.block_lt_of_cell? _ _ d0)).trans d0
     have f1:=(hb5.cell (World.block_lt_of_cell? _ _ d1)).trans d1
     have q5:=qc2.out w5 hbe
     clear q4 d0 d1
     generalize compE n T t = E1 at *
     generalize compE n T t' = E2 at *
     replace hbe:=Lib.hid hbe
     go_wp2_with fail
     refine q5.mono ?_
     rintro e w6 ⟨p6,r6,rfl,hb6⟩
     have hbf:=hbe.out.trans (hb6.mono hbe.out.size)
     have qw:=hw.out w6 hbf
     clear q5 f0 f1
     rcases hd with hd | ⟨hd,hd2⟩
     ·go_wp2_with fail
      refine qw.mono ?_
      rintro e w7 ⟨rfl,hb7⟩
      go_wp2_with fail
      go_ret
      exact ⟨rfl,hbf.trans (hb7.mono hbf.size)⟩
     ·go_wp2_with fail
      refine qw.mono ?_
      rintro e w7 ⟨rfl,hb7⟩
      go_wp2_with fail
      go_ret
      exact ⟨rfl,hbf.trans (hb7.mono hbf.size)⟩
end Go.Proofs.YtmnjakejhbpkoaaGreatDoor
