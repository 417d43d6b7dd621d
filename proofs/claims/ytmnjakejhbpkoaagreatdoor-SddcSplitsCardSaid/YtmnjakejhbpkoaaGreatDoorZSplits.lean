import Derived.Test.YtmnjakejhbpkoaaGreatDoorZTwo
set_option linter.unusedSimpArgs false
set_option linter.unusedVariables false
namespace Go.Proofs.YtmnjakejhbpkoaaGreatDoor
open Go Go.RowKit Go.Shelf
set_option maxRecDepth 100000 in
set_option maxHeartbeats 16000000 in
theorem splits_any {n:Int} {T:List (List Int)} {u:Value} {t:List VN} {z:Nat} (w:World) (ba:Option Addr) (cap:Nat) (hT:TzTab w) (hP:PowTab w) (hv:SlT w u T∧T.length≤9223372036854775807∧(-9223372036854775808≤n∧n≤9223372036854775807)) (ht:t = []∨∃ b o,ba = some ⟨b,o,none⟩∧TreeAt w b o t) (htl:t.length≤5864062014805) (hz:z < 256) :
  Calls Tryz.prog 6 #[.agg #[.int .i64 n,u],.slice ba t.length cap,.int .u8 (z:Nat)] w fun e w'=>e = .returned (.bool true)∧Below w.heap.size w w':=by
 obtain ⟨hv,hlT,_⟩:=hv
 have e0:=heap_alloc_new w (.cells #[.int .i64 n,u] 24)
 have hx1:Ext w (w.alloc (.cells #[.int .i64 n,u] 24)):=(Ext.refl w).alloc _
 have hw:∀ W,Below w.heap.size w W→Calls Tryz.prog 16 #[] W fun e w''=>e = .returned (.bool true)∧Below W.heap.size W w'':=fun W hx=>works27_any W (hT.same (hx.block _ hT.lt')) (hP.same (hx.block _ hP.lt))
 obtain ⟨w1,hw1⟩:∃ w1,w1 = w.alloc (.cells #[.int .i64 n,u] 24):=⟨_,rfl⟩
 rw [←hw1] at e0 hx1
 have c0:w1.cell? ⟨w.heap.size,0,none⟩ = some (.int .i64 n):=by rw [World.cell?,e0];rfl
 have c1:w1.cell? ⟨w.heap.size,1,none⟩ = some u:=by rw [World.cell?,e0];rfl
 have ql:=light27_any (n:=n) (hv.ext hx1.below) hlT
 have hvh:=Lib.hid hv
 obtain ⟨bb,cp,rfl,_⟩:=hv
 replace e0:=Lib.hid e0
 replace hw:=Lib.hid hw
 replace hx1:=Lib.hid hx1
 cases hL:light27B n T
 ·rw [hL] at ql
  go_enter Tryz.func6,Tryz.ntmps6
  go_wp2_with fail
  rw [←hw1]
  replace hw1:=Lib.hid hw1
  go_wp2_with fail
  refine ql.mono ?_
  rintro e w2 ⟨rfl,hx2⟩
  have hx:=hx1.out.trans hx2
  have q:=hw.out w2 hx.below
  clear ql
  go_wp2_with fail
  refine q.mono ?_
  rintro e w3 ⟨rfl,hb3⟩
  go_wp2_with fail
  go_ret
  exact ⟨rfl,hx.below.trans (hb3.mono hx.size)⟩
 ·rw [hL] at ql
  have qf:∀ W,Ext w1 W→Calls Tryz.prog 15 #[.slice ba t.length cap] W fun e w'=>e = .returned (.bool (few27B t))∧Ext W w':=fun W hx=>few27_any W ba cap (refchk_any W ba cap (ht.imp id fun ⟨b,o,e,h⟩=>⟨b,o,e,(h.ext hx1.out).ext hx⟩) htl)
  cases hF:few27B t
  ·rw [hF] at qf
   replace qf:=Lib.hid qf
   go_enter Tryz.func6,Tryz.ntmps6
   go_wp2_with fail
   rw [←hw1]
   replace hw1:=Lib.hid hw1
   go_wp2_with fail
   refine ql.mono ?_
   rintro e w2 ⟨rfl,hx2⟩
   have q:=qf.out w2 hx2
   clear ql
   go_wp2_with fail
   refine q.mono ?_
   rintro e w3 ⟨rfl,hx3⟩
   have hx:=(hx1.out.trans hx2).trans hx3
   have qw:=hw.out w3 hx.below
   clear q
   go_wp2_with fail
   refine qw.mono ?_
   rintro e w4 ⟨rfl,hb4⟩
   go_wp2_with fail
   go_ret
   exact ⟨rfl,hx.below.trans (hb4.mono hx.size)⟩
  ·rw [hF] at qf
   replace qf:=Lib.hid qf
   by_cases hE:compE n T t = 0
   ·obtain ⟨hok,hc,hsub⟩:=compE_ok hE
    obtain ⟨b,o,rfl,htr⟩:=tree_some hc ht
    have hfew:=few_len hF hc
    have h30:=light_few hL hok
    have hl6:=L.nv_le hc (v:=t.length - 1) (by have:=(check_ok hc).1;omega)
    have hcn:=fun φ=>cnt64 hc hfew φ
    replace hsub:=Lib.hid hsub
    replace htr:=Lib.hid htr
    replace hok:=Lib.hid hok
    replace hc:=Lib.hid hc
    replace hE:=Lib.hid hE
    clear hL hF ht
    go_enter Tryz.func6,Tryz.ntmps6
    go_wp2_with fail
    rw [←hw1]
    replace hw1:=Lib.hid hw1
    go_wp2_with fail
    refine ql.mono ?_
    rintro e w2 ⟨rfl,hx2⟩
    have q:=qf.out w2 hx2
    have a0:=hx2.cell c0
    have a1:=hx2.cell c1
    clear ql c0 c1
    go_wp2_with fail
    refine q.mono ?_
    rintro e w3 ⟨rfl,hx3⟩
    have hx:=(hx1.out.trans hx2).trans hx3
    have b0:=hx3.cell a0
    have b1:=hx3.cell a1
    have qc:=compile_ok (hvh.out.ext hx.below) b o cap hok.out h30 (htr.out.ext hx) hc.out hfew hsub.out (hT.ext hx) (hP.below hx.below)
    clear q a0 a1 hx2 hx3
    replace hx:=Lib.hid hx
    go_wp2_with fail
    refine qc.mono ?_
    rintro e w4 ⟨sb,root,s4,rfl,hS4,hv4,hb4⟩
    have hSw:=hS4.base hx.out.below
    have hbe4:=hSw.bel
    have qo:=over_any (cap:=cap) w4 b o ((htr.out.ext hx.out).below hb4) hc.out ((hT.ext hx.out).below (hT.ext hx.out).lt' hb4)
    replace hSw:=Lib.hid hSw
    replace hbe4:=Lib.hid hbe4
    clear qc hS4 b0 b1
    go_wp2_with fail
    refine qo.mono ?_
    rintro e w6 ⟨lv,l,rfl,hol,hsl,hb6⟩
    have hl0:=sorted_pos hc.out hsl
    have hnv:=hsl.len hc.out (by have:=(check_ok hc.out).1;omega)
    have hl6':l.length≤6:=by omega
    obtain ⟨g,lc,rfl,hg,hlc⟩:=own_open hol (by intro e;rw [e] at hl0;simp at hl0)
    have hi:z % l.length < l.length:=Nat.mod_lt _ hl0
    have hxm:l[z % l.length]∈l:=List.getElem_mem hi
    have hcell:w6.cell? ⟨g,z % l.length,none⟩ = some (.int .i64 l[z % l.length]):=by
     have:=hlc (z % l.length) (encZ l[z % l.length]) (by rw [List.getElem?_map,List.getElem?_eq_getElem hi];rfl)
     rw [Go.WideShapes.add_plain] at this
     simpa [encZ] using this
    have hS6:=hSw.out.below hb6
    have hzi:(z:Int) % (l.length:Int) = ((z % l.length:Nat):Int):=by simp
    generalize hX:l[z % l.length] = x at *
    generalize z % l.length = i at *
    have gi0:(0:Int)≤i:=by omega
    have gi1:(i:Int) < l.length:=by omega
    have hvx:=sorted_var hc.out hsl hxm
    have hxr:=hvx.range
    have en:(x.natAbs:Int) = x:=by omega
    have en':((-x).natAbs:Int) = x:=by omega
    have wn:wrap64 (-x) = -x:=by unfold wrap64;omega
    have dl:((l.length:Int) == 0) = false:=beq_eq_false_iff_ne.2 (by omega)
    have q1:=Given_any (k':=40000) hS6 hv4 (l:=x) (by rw [en];exact hvx) (by omega)
    rw [en,show decide (0 < x) = true from decide_eq_true (by omega)] at q1
    replace hS6:=Lib.hid hS6
    replace hsl:=Lib.hid hsl
    replace hnv:=Lib.hid hnv
    replace hxm:=Lib.hid hxm
    replace hv4:=Lib.hid hv4
    clear qo hlc hol hX hi
    go_wp2_with fail
    refine q1.mono ?_
    rintro e w7 ⟨r7,s7,rfl,hS7,hs7,hv7,_,hst7⟩
    have hr7:=hv4.out.step hS6.out.inv hs7
    have q2:=Given_any (k':=36000) hS7 hr7 (l:=-x) (by rw [en'];exact hvx) (by omega)
    rw [en',show decide (0 < -x) = false from decide_eq_false (by omega)] at q2
    replace hS7:=Lib.hid hS7
    replace hv7:=Lib.hid hv7
    replace hr7:=Lib.hid hr7
    clear q1 hs7 hst7
    go_wp2_with fail
    refine q2.mono ?_
    rintro e w8 ⟨r8,s8,rfl,hS8,hs8,hv8,_,hst8⟩
    have hr8:=hr7.out.step hS7.out.inv hs8
    have hy8:=hv7.out.step hS7.out.inv hs8
    have q3:=Exists_any (k':=28000) hS8 hr8 (v:=x) hvx (by omega)
    replace hS8:=Lib.hid hS8
    replace hv8:=Lib.hid hv8
    replace hr8:=Lib.hid hr8
    replace hy8:=Lib.hid hy8
    clear q2 hs8 hst8
    go_wp2_with fail
    refine q3.mono ?_
    rintro e w9 ⟨r9,s9,rfl,hS9,hs9,hv9,_,hst9⟩
    have hr9:=hr8.out.step hS8.out.inv hs9
    have hy9:=hy8.out.step hS8.out.inv hs9
    have hn9:=hv8.out.step hS8.out.inv hs9
    have q4:=hS9.not (k':=27900) (by omega) hr9
    replace hS9:=Lib.hid hS9
    replace hv9:=Lib.hid hv9
    replace hr9:=Lib.hid hr9
    replace hy9:=Lib.hid hy9
    replace hn9:=Lib.hid hn9
    clear q3 hs9 hst9
    go_wp2_with fail
    refine q4.mono ?_
    rintro e w10 ⟨r10,s10,rfl,hS10,hs10,hv10,_,hst10⟩
    have hr10:=hr9.out.step hS9.out.inv hs10
    have hy10:=hy9.out.step hS9.out.inv hs10
    have hn10:=hn9.out.step hS9.out.inv hs10
    have he10:=hv9.out.step hS9.out.inv hs10
    have q5:=count_any hS10 hr10
    have hvm:x∈L.vl t (t.length - 1):=(L.mem_vl hc.out _ (by have:=(check_ok hc.out).1;omega) x).2 ((hsl.out.mem x).1 hxm.out)
    have k1:=L.cnt_split hvm (L.thφ T)
    have k2:=L.cnt_not (L.vl t (t.length - 1)) (L.thφ T)
    have k3:=L.cnt_some (L.vl t (t.length - 1)) (L.thφ T) x
    have k4:=hcn (L.thφ T)
    have k5:=hcn (fun y=>L.giv (L.thφ T) x true y || L.giv (L.thφ T) x false y)
    have k6:(L.vl t (t.length - 1)).length = l.length:=by rw [hnv.out];rfl
    rw [k6] at k2
    have k7:2 ^ l.length≤64:=Nat.le_trans (Nat.pow_le_pow_right (by omega) hl6') (by omega:2 ^ 6≤64)
    have qy:=fun (W:World) (hS:SL t sb 27900 [] s10 w W)=>two_any hS hy10 hn10 (by omega)
    have qn:=fun (W:World) (hS:SL t sb 27900 [] s10 w W)=>two_any hS hr10 hv10 (by omega)
    have qe:=fun (W:World) (hS:SL t sb 27900 [] s10 w W)=>count_any hS he10
    have qo:=fun (W:World) (hS:SL t sb 27900 [] s10 w W)=>hS.or (k':=20000) (by omega) hy10 hn10
    rw [k1] at qy
    rw [k2] at qn
    generalize hC1:L.cnt (L.vl t (t.length - 1)) (L.thφ T) = C1 at *
    generalize hC2:L.cnt (L.vl t (t.length - 1)) (fun y=>L.giv (L.thφ T) x true y || L.giv (L.thφ T) x false y) = C2 at *
    have qadd:=fun W=>nadd_any (w:=W) (a:=C1) (b:=C1) (by omega)
    have qpow:=fun W=>pow2_any (w:=W) (n:=l.length) (by omega)
    have qcmp:=fun W=>ncmp_ge (w:=W) (a:=C2) (b:=C1) (by omega) (by omega) k3
    have E1:=fun W=>natEq (a:=C1+C1) (b:=C1+C1) (by omega) (by omega) W
    have E2:=fun W=>natEq (a:=2 ^ l.length) (b:=2 ^ l.length) (by omega) (by omega) W
    rw [decide_eq_true rfl] at E1 E2
    simp only [nat_agg] at q5 qy qn qe qadd qpow qcmp E1 E2
    generalize hS1:(⟨(natL C1).toArray⟩:ByteArray) = A1 at *
    generalize hS2:(⟨(natL C2).toArray⟩:ByteArray) = A2 at *
    generalize hS3:(⟨(natL (C1+C1)).toArray⟩:ByteArray) = A3 at *
    generalize hS4':(⟨(natL (2 ^ l.length)).toArray⟩:ByteArray) = A4 at *
    replace qy:=Lib.hid qy
    replace qn:=Lib.hid qn
    replace qe:=Lib.hid qe
    replace qo:=Lib.hid qo
    replace qadd:=Lib.hid qadd
    replace qpow:=Lib.hid qpow
    replace qcmp:=Lib.hid qcmp
    replace hS10:=Lib.hid hS10
    replace he10:=Lib.hid he10
    replace hC1:=Lib.hid hC1
    replace hC2:=Lib.hid hC2
    replace hS1:=Lib.hid hS1
    replace hS2:=Lib.hid hS2
    replace hS3:=Lib.hid hS3
    replace hS4':=Lib.hid hS4'
    replace k1:=Lib.hid k1
    replace k2:=Lib.hid k2
    replace k6:=Lib.hid k6
    clear q4 hs10 hst10 hr10 hy10 hn10 hv10 hr9 hy9 hn9 hv9 hr8 hy8 hv8 hr7 hv7 k3 k4 k5 k7 hcn
    go_wp2_with fail
    refine q5.mono ?_
    rintro e w11 ⟨rfl,hb11⟩
    have hbA:Below w11.heap.size w11 (w11.alloc (.cells #[.string A1] 52)):=(Below.refl _ _).alloc (Nat.le_refl _) _
    have nA:=heap_alloc_new w11 (.cells #[.string A1] 52)
    obtain ⟨w12,hw12⟩:∃ w12,w12 = w11.alloc (.cells #[.string A1] 52):=⟨_,rfl⟩
    rw [←hw12] at hbA nA
    have hS12:=(hS10.out.below hb11).below hbA
    have q6:=qe.out w12 hS12
    replace hS12:=Lib.hid hS12
    clear q5 hbA hb11
    go_wp2_with fail
    rw [←hw12]
    replace hw12:=Lib.hid hw12
    refine q6.mono ?_
    rintro e w13 ⟨rfl,hb13⟩
    have hbB:Below w13.heap.size w13 (w13.alloc (.cells #[.string A2] 52)):=(Below.refl _ _).alloc (Nat.le_refl _) _
    have nB:=heap_alloc_new w13 (.cells #[.string A2] 52)
    obtain ⟨w14,hw14⟩:∃ w14,w14 = w13.alloc (.cells #[.string A2] 52):=⟨_,rfl⟩
    rw [←hw14] at hbB nB
    have nA':=(hbB.block _ (Nat.lt_of_lt_of_le (Array.getElem?_eq_some_iff.1 nA).1 hb13.size)).trans ((hb13.block _ (Array.getElem?_eq_some_iff.1 nA).1).trans nA)
    have hS14:=(hS12.out.below hb13).below hbB
    have q7:=qy.out w14 hS14
    replace hS14:=Lib.hid hS14
    clear q6 hbB hb13 nA
    go_wp2_with fail
    rw [←hw14]
    replace hw14:=Lib.hid hw14
    refine q7.mono ?_
    rintro e w15 ⟨rfl,hb15⟩
    have hbC:Below w15.heap.size w15 (w15.alloc (.cells #[.string A3] 52)):=(Below.refl _ _).alloc (Nat.le_refl _) _
    have nC:=heap_alloc_new w15 (.cells #[.string A3] 52)
    obtain ⟨w16,hw16⟩:∃ w16,w16 = w15.alloc (.cells #[.string A3] 52):=⟨_,rfl⟩
    rw [←hw16] at hbC nC
    have nA2:=(hbC.block _ (Nat.lt_of_lt_of_le (Array.getElem?_eq_some_iff.1 nA').1 hb15.size)).trans ((hb15.block _ (Array.getElem?_eq_some_iff.1 nA').1).trans nA')
    have nB2:=(hbC.block _ (Nat.lt_of_lt_of_le (Array.getElem?_eq_some_iff.1 nB).1 hb15.size)).trans ((hb15.block _ (Array.getElem?_eq_some_iff.1 nB).1).trans nB)
    have hS16:=(hS14.out.below hb15).below hbC
    have q8:=qn.out w16 hS16
    replace hS16:=Lib.hid hS16
    clear q7 hbC hb15 nA' nB
    go_wp2_with fail
    rw [←hw16]
    replace hw16:=Lib.hid hw16
    refine q8.mono ?_
    rintro e w17 ⟨rfl,hb17⟩
    have hbD:Below w17.heap.size w17 (w17.alloc (.cells #[.string A4] 52)):=(Below.refl _ _).alloc (Nat.le_refl _) _
    have nD:=heap_alloc_new w17 (.cells #[.string A4] 52)
    obtain ⟨w18,hw18⟩:∃ w18,w18 = w17.alloc (.cells #[.string A4] 52):=⟨_,rfl⟩
    rw [←hw18] at hbD nD
    have nA3:=(hbD.block _ (Nat.lt_of_lt_of_le (Array.getElem?_eq_some_iff.1 nA2).1 hb17.size)).trans ((hb17.block _ (Array.getElem?_eq_some_iff.1 nA2).1).trans nA2)
    have nB3:=(hbD.block _ (Nat.lt_of_lt_of_le (Array.getElem?_eq_some_iff.1 nB2).1 hb17.size)).trans ((hb17.block _ (Array.getElem?_eq_some_iff.1 nB2).1).trans nB2)
    have nC3:=(hbD.block _ (Nat.lt_of_lt_of_le (Array.getElem?_eq_some_iff.1 nC).1 hb17.size)).trans ((hb17.block _ (Array.getElem?_eq_some_iff.1 nC).1).trans nC)
    have hS18:=(hS16.out.below hb17).below hbD
    have q9:=qo.out w18 hS18
    replace hS18:=Lib.hid hS18
    clear q8 hbD hb17 nA2 nB2 nC
    go_wp2_with fail
    rw [←hw18]
    replace hw18:=Lib.hid hw18
    refine q9.mono ?_
    rintro e w19 ⟨r19,s19,rfl,hS19,hs19,hv19,_,hst19⟩
    obtain rfl:r19 = r9:=Val.eq hS19.inv hv19 (he10.out.step hS18.out.inv hs19) (fun _=>rfl)
    have p1:w19.cell? ⟨w11.heap.size,0,none⟩ = some (.string A1):=by simp [World.cell?,hst19.get nA3 (by decide) (by decide)]
    have p2:w19.cell? ⟨w13.heap.size,0,none⟩ = some (.string A2):=by simp [World.cell?,hst19.get nB3 (by decide) (by decide)]
    have p3:w19.cell? ⟨w15.heap.size,0,none⟩ = some (.string A3):=by simp [World.cell?,hst19.get nC3 (by decide) (by decide)]
    have p4:w19.cell? ⟨w17.heap.size,0,none⟩ = some (.string A4):=by simp [World.cell?,hst19.get nD (by decide) (by decide)]
    have hbe19:=hS19.bel
    replace hbe19:=Lib.hid hbe19
    replace hS19:=Lib.hid hS19
    replace hv19:=Lib.hid hv19
    clear q9 hs19 hst19 nA3 nB3 nC3 nD
    go_wp2_with fail
    (refine wp_region_held_drew (S:=(fun V=>V.cell? ⟨w11.heap.size,0,none⟩ = some (.string A1)∧V.cell? ⟨w13.heap.size,0,none⟩ = some (.string A2)∧V.cell? ⟨w15.heap.size,0,none⟩ = some (.string A3)∧V.cell? ⟨w17.heap.size,0,none⟩ = some (.string A4))) (by kernel_rfl) ?_ (fun hHeld=>?_))
    ·exact ⟨p1,p2,p3,p4⟩
    (refine takeL (i:=0) (v:=?_) rfl (by kernel_rfl) (by kernel_rfl) (by kernel_rfl) (fun _ _ _ h=>h) (Or.inl ⟨by rfl,?_⟩) (by assumption) ?_)
    rotate_left
    ·(intro w hSw;(try dsimp only at hSw);go_simp;first | done | with_reducible rfl)
    (try simp only [Act.put,List.setIfInBounds_toArray,List.set_cons_zero,List.set_cons_succ])
    (refine takeL (i:=1) (v:=?_) rfl (by kernel_rfl) (by kernel_rfl) (by kernel_rfl) (fun _ _ _ h=>h) (Or.inl ⟨by rfl,?_⟩) (by assumption) ?_)
    rotate_left
    ·(intro w hSw;(try dsimp only at hSw);go_simp;first | done | with_reducible rfl)
    (try simp only [Act.put,List.setIfInBounds_toArray,List.set_cons_zero,List.set_cons_succ])
    (refine takeL (i:=2) (v:=?_) rfl (by kernel_rfl) (by kernel_rfl) (by kernel_rfl) (fun _ _ _ h=>h) (Or.inl ⟨by rfl,?_⟩) (by assumption) ?_)
    rotate_left
    ·(intro w hSw;(try dsimp only at hSw);go_simp;first | done | with_reducible rfl)
    (try simp only [Act.put,List.setIfInBounds_toArray,List.set_cons_zero,List.set_cons_succ])
    (refine takeL (i:=3) (v:=?_) rfl (by kernel_rfl) (by kernel_rfl) (by kernel_rfl) (fun _ _ _ h=>h) (Or.inl ⟨by rfl,?_⟩) (by assumption) ?_)
    rotate_left
    ·(intro w hSw;(try dsimp only at hSw);go_simp;first | done | with_reducible rfl)
    (try simp only [Act.put,List.setIfInBounds_toArray,List.set_cons_zero,List.set_cons_succ])
    (refine takeL (i:=4) (v:=?_) rfl (by kernel_rfl) (by kernel_rfl) (by kernel_rfl) (fun _ _ _ h=>h) (Or.inl ⟨by rfl,?_⟩) (by assumption) ?_)
    rotate_left
    ·(intro w hSw;(try dsimp only at hSw);go_simp;first | done | with_reducible rfl)
    (try simp only [Act.put,List.setIfInBounds_toArray,List.set_cons_zero,List.set_cons_succ])
    (refine takeL (i:=5) (v:=?_) rfl (by kernel_rfl) (by kernel_rfl) (by kernel_rfl) (fun _ _ _ h=>h) (Or.inl ⟨by rfl,?_⟩) (by assumption) ?_)
    rotate_left
    ·(intro w hSw;(try dsimp only at hSw);go_simp;first | done | with_reducible rfl)
    (try simp only [Act.put,List.setIfInBounds_toArray,List.set_cons_zero,List.set_cons_succ])
    (refine takeL (i:=6) (v:=?_) rfl (by kernel_rfl) (by kernel_rfl) (by kernel_rfl) (fun _ _ _ h=>h) (Or.inl ⟨by rfl,?_⟩) (by assumption) ?_)
    rotate_left
    ·(intro w hSw;(try dsimp only at hSw);go_simp;first | done | with_reducible rfl)
    (try simp only [Act.put,List.setIfInBounds_toArray,List.set_cons_zero,List.set_cons_succ])
    (refine takeL (i:=7) (v:=?_) rfl (by kernel_rfl) (by kernel_rfl) (by kernel_rfl) (fun _ _ _ h=>h) (Or.inl ⟨by rfl,?_⟩) (by assumption) ?_)
    rotate_left
    ·(intro w hSw;(try dsimp only at hSw);go_simp;first | done | with_reducible rfl)
    (try simp only [Act.put,List.setIfInBounds_toArray,List.set_cons_zero,List.set_cons_succ])
    (refine takeL (i:=8) (v:=?_) rfl (by kernel_rfl) (by kernel_rfl) (by kernel_rfl) (fun _ _ _ h=>h) (Or.inl ⟨by rfl,?_⟩) (by assumption) ?_)
    rotate_left
    ·(intro w hSw;(try dsimp only at hSw);go_simp;first | done | with_reducible rfl)
    (try simp only [Act.put,List.setIfInBounds_toArray,List.set_cons_zero,List.set_cons_succ])
    (refine takeL (i:=9) (v:=?_) rfl (by kernel_rfl) (by kernel_rfl) (by kernel_rfl) (fun _ _ _ h=>h) (Or.inl ⟨by rfl,?_⟩) (by assumption) ?_)
    rotate_left
    ·(intro w hSw;(try dsimp only at hSw);go_simp;first | done | with_reducible rfl)
    (try simp only [Act.put,List.setIfInBounds_toArray,List.set_cons_zero,List.set_cons_succ])
    (refine takeL (i:=10) (v:=?_) rfl (by kernel_rfl) (by kernel_rfl) (by kernel_rfl) (fun _ _ _ h=>h) (Or.inl ⟨by rfl,?_⟩) (by assumption) ?_)
    rotate_left
    ·(intro w hSw;(try dsimp only at hSw);go_simp;first | done | with_reducible rfl)
    (try simp only [Act.put,List.setIfInBounds_toArray,List.set_cons_zero,List.set_cons_succ])
    (refine takeL (i:=11) (v:=?_) rfl (by kernel_rfl) (by kernel_rfl) (by kernel_rfl) (fun _ _ _ h=>h) (Or.inl ⟨by rfl,?_⟩) (by assumption) ?_)
    rotate_left
    ·(intro w hSw;(try dsimp only at hSw);go_simp;first | done | with_reducible rfl)
    (try simp only [Act.put,List.setIfInBounds_toArray,List.set_cons_zero,List.set_cons_succ])
    (refine takeL (i:=12) (v:=?_) rfl (by kernel_rfl) (by kernel_rfl) (by kernel_rfl) (fun _ _ _ h=>h) (Or.inl ⟨by rfl,?_⟩) (by assumption) ?_)
    rotate_left
    ·(intro w hSw;(try dsimp only at hSw);go_simp;first | done | with_reducible rfl)
    (try simp only [Act.put,List.setIfInBounds_toArray,List.set_cons_zero,List.set_cons_succ])
    (refine takeL (i:=13) (v:=?_) rfl (by kernel_rfl) (by kernel_rfl) (by kernel_rfl) (fun _ _ _ h=>h) (Or.inl ⟨by rfl,?_⟩) (by assumption) ?_)
    rotate_left
    ·(intro w hSw;(try dsimp only at hSw);go_simp;first | done | with_reducible rfl)
    (try simp only [Act.put,List.setIfInBounds_toArray,List.set_cons_zero,List.set_cons_succ])
    (refine takeL (i:=14) (v:=?_) rfl (by kernel_rfl) (by kernel_rfl) (by kernel_rfl) (fun _ _ _ h=>h) (Or.inl ⟨by rfl,?_⟩) (by assumption) ?_)
    rotate_left
    ·(intro w hSw;(try dsimp only at hSw);go_simp;first | done | with_reducible rfl)
    (try simp only [Act.put,List.setIfInBounds_toArray,List.set_cons_zero,List.set_cons_succ])
    (refine takeL (i:=15) (v:=?_) rfl (by kernel_rfl) (by kernel_rfl) (by kernel_rfl) (fun _ _ _ h=>h) (Or.inl ⟨by rfl,?_⟩) (by assumption) ?_)
    rotate_left
    ·(intro w hSw;(try dsimp only at hSw);go_simp;first | done | with_reducible rfl)
    (try simp only [Act.put,List.setIfInBounds_toArray,List.set_cons_zero,List.set_cons_succ])
    (refine wpAnyH_ready (rs:=[16]) (by kernel_rfl) (by simp) ?_)
    (refine consL rfl (fun K hK=>?_))
    ((rw [if_pos (by rfl)]);go_simp;(go_at_call 42);refine (qadd.out _).mono ?_;rintro e w20 ⟨rfl,hb20⟩;refine hK.out _ _ ⟨(hb20.cell (World.block_lt_of_cell? _ _ hHeld.1)).trans hHeld.1,(hb20.cell (World.block_lt_of_cell? _ _ hHeld.2.1)).trans hHeld.2.1,(hb20.cell (World.block_lt_of_cell? _ _ hHeld.2.2.1)).trans hHeld.2.2.1,(hb20.cell (World.block_lt_of_cell? _ _ hHeld.2.2.2)).trans hHeld.2.2.2⟩ (fun hHeld=>?_))
    (clear hK K)
    (try simp only [Act.put,List.setIfInBounds_toArray,List.set_cons_zero,List.set_cons_succ])
    (refine takeL (i:=17) (v:=?_) rfl (by kernel_rfl) (by kernel_rfl) (by kernel_rfl) (fun _ _ _ h=>h) (Or.inl ⟨by rfl,?_⟩) (by assumption) ?_)
    rotate_left
    ·(intro w hSw;(try dsimp only at hSw);go_simp;first | done | with_reducible rfl)
    (try simp only [Act.put,List.setIfInBounds_toArray,List.set_cons_zero,List.set_cons_succ])
    (refine takeL (i:=18) (v:=?_) rfl (by kernel_rfl) (by kernel_rfl) (by kernel_rfl) (fun _ _ _ h=>h) (Or.inl ⟨by rfl,?_⟩) (by assumption) ?_)
    rotate_left
    ·(intro w hSw;(try dsimp only at hSw);go_simp;first | done | with_reducible rfl)
    (try simp only [Act.put,List.setIfInBounds_toArray,List.set_cons_zero,List.set_cons_succ])
    (refine takeL (i:=19) (v:=?_) rfl (by kernel_rfl) (by kernel_rfl) (by kernel_rfl) (fun _ _ _ h=>h) (Or.inl ⟨by rfl,?_⟩) (by assumption) ?_)
    rotate_left
    ·(intro w hSw;(try dsimp only at hSw);go_simp;first | done | with_reducible rfl)
    (try simp only [Act.put,List.setIfInBounds_toArray,List.set_cons_zero,List.set_cons_succ])
    (refine takeL (i:=20) (v:=?_) rfl (by kernel_rfl) (by kernel_rfl) (by kernel_rfl) (fun _ _ _ h=>h) (Or.inl ⟨by rfl,?_⟩) (by assumption) ?_)
    rotate_left
    ·(intro w hSw;(try dsimp only at hSw);go_simp;first | done | with_reducible rfl)
    (try simp only [Act.put,List.setIfInBounds_toArray,List.set_cons_zero,List.set_cons_succ])
    (refine takeL (i:=21) (v:=?_) rfl (by kernel_rfl) (by kernel_rfl) (by kernel_rfl) (fun _ _ _ h=>h) (Or.inl ⟨by rfl,?_⟩) (by assumption) ?_)
    rotate_left
    ·(intro w hSw;(try dsimp only at hSw);go_simp;first | done | with_reducible rfl)
    (try simp only [Act.put,List.setIfInBounds_toArray,List.set_cons_zero,List.set_cons_succ])
    (refine takeL (i:=22) (v:=?_) rfl (by kernel_rfl) (by kernel_rfl) (by kernel_rfl) (fun _ _ _ h=>h) (Or.inl ⟨by rfl,?_⟩) (by assumption) ?_)
    rotate_left
    ·(intro w hSw;(try dsimp only at hSw);go_simp;first | done | with_reducible rfl)
    (try simp only [Act.put,List.setIfInBounds_toArray,List.set_cons_zero,List.set_cons_succ])
    (refine wpAnyH_ready (rs:=[23]) (by kernel_rfl) (by simp) ?_)
    (refine consL rfl (fun K hK=>?_))
    ((rw [if_pos (by rfl)]);go_simp;(go_at_call 43);refine (qpow.out _).mono ?_;rintro e w21 ⟨rfl,hb21⟩;refine hK.out _ _ ⟨(hb21.cell (World.block_lt_of_cell? _ _ hHeld.1)).trans hHeld.1,(hb21.cell (World.block_lt_of_cell? _ _ hHeld.2.1)).trans hHeld.2.1,(hb21.cell (World.block_lt_of_cell? _ _ hHeld.2.2.1)).trans hHeld.2.2.1,(hb21.cell (World.block_lt_of_cell? _ _ hHeld.2.2.2)).trans hHeld.2.2.2⟩ (fun hHeld=>?_))
    (clear hK K)
    (try simp only [Act.put,List.setIfInBounds_toArray,List.set_cons_zero,List.set_cons_succ])
    (refine takeL (i:=24) (v:=?_) rfl (by kernel_rfl) (by kernel_rfl) (by kernel_rfl) (fun _ _ _ h=>h) (Or.inl ⟨by rfl,?_⟩) (by assumption) ?_)
    rotate_left
    ·(intro w hSw;(try dsimp only at hSw);go_simp;first | done | with_reducible rfl)
    (try simp only [Act.put,List.setIfInBounds_toArray,List.set_cons_zero,List.set_cons_succ])
    (refine takeL (i:=25) (v:=?_) rfl (by kernel_rfl) (by kernel_rfl) (by kernel_rfl) (fun _ _ _ h=>h) (Or.inl ⟨by rfl,?_⟩) (by assumption) ?_)
    rotate_left
    ·(intro w hSw;(try dsimp only at hSw);go_simp;first | done | with_reducible rfl)
    (try simp only [Act.put,List.setIfInBounds_toArray,List.set_cons_zero,List.set_cons_succ])
    (refine takeL (i:=26) (v:=?_) rfl (by kernel_rfl) (by kernel_rfl) (by kernel_rfl) (fun _ _ _ h=>h) (Or.inl ⟨by rfl,?_⟩) (by assumption) ?_)
    rotate_left
    ·(intro w hSw;(try dsimp only at hSw);go_simp;first | done | with_reducible rfl)
    (try simp only [Act.put,List.setIfInBounds_toArray,List.set_cons_zero,List.set_cons_succ])
    (refine takeL (i:=27) (v:=?_) rfl (by kernel_rfl) (by kernel_rfl) (by kernel_rfl) (fun _ _ _ h=>h) (Or.inl ⟨by rfl,?_⟩) (by assumption) ?_)
    rotate_left
    ·(intro w hSw;(try dsimp only at hSw);go_simp;first | done | with_reducible rfl)
    (try simp only [Act.put,List.setIfInBounds_toArray,List.set_cons_zero,List.set_cons_succ])
    (refine takeL (i:=28) (v:=?_) rfl (by kernel_rfl) (by kernel_rfl) (by kernel_rfl) (fun _ _ _ h=>h) (Or.inl ⟨by rfl,?_⟩) (by assumption) ?_)
    rotate_left
    ·(intro w hSw;(try dsimp only at hSw);go_simp;first | done | with_reducible rfl)
    (try simp only [Act.put,List.setIfInBounds_toArray,List.set_cons_zero,List.set_cons_succ])
    (refine wpAnyH_ready (rs:=[29]) (by kernel_rfl) (by simp) ?_)
    (refine consL rfl (fun K hK=>?_))
    ((rw [if_pos (by rfl)]);go_simp;(go_at_call 44);refine (qcmp.out _).mono ?_;rintro e w22 ⟨cz,rfl,hc0,hc1,hb22⟩;refine hK.out _ _ ⟨(hb22.cell (World.block_lt_of_cell? _ _ hHeld.1)).trans hHeld.1,(hb22.cell (World.block_lt_of_cell? _ _ hHeld.2.1)).trans hHeld.2.1,(hb22.cell (World.block_lt_of_cell? _ _ hHeld.2.2.1)).trans hHeld.2.2.1,(hb22.cell (World.block_lt_of_cell? _ _ hHeld.2.2.2)).trans hHeld.2.2.2⟩ (fun hHeld=>?_))
    (clear hK K)
    (try simp only [Act.put,List.setIfInBounds_toArray,List.set_cons_zero,List.set_cons_succ])
    have dcz:decide (cz≥0) = true:=decide_eq_true hc0
    have dcz2:decide (0≤cz) = true:=decide_eq_true hc0
    (refine takeL (i:=30) (v:=?_) rfl (by kernel_rfl) (by kernel_rfl) (by kernel_rfl) (fun _ _ _ h=>h) (Or.inl ⟨by rfl,?_⟩) (by assumption) ?_)
    rotate_left
    ·(intro w hSw;(try dsimp only at hSw);go_simp;first | done | with_reducible rfl)
    (try simp only [Act.put,List.setIfInBounds_toArray,List.set_cons_zero,List.set_cons_succ])
    (refine takeL (i:=31) (v:=?_) rfl (by kernel_rfl) (by kernel_rfl) (by kernel_rfl) (fun _ _ _ h=>h) (Or.inl ⟨by rfl,?_⟩) (by assumption) ?_)
    rotate_left
    ·(intro w hSw;(try dsimp only at hSw);go_simp;first | done | with_reducible rfl)
    (try simp only [Act.put,List.setIfInBounds_toArray,List.set_cons_zero,List.set_cons_succ])
    (refine takeL (i:=32) (v:=?_) rfl (by kernel_rfl) (by kernel_rfl) (by kernel_rfl) (fun _ _ _ h=>h) (Or.inl ⟨by rfl,?_⟩) (by assumption) ?_)
    rotate_left
    ·(intro w hSw;(try dsimp only at hSw);go_simp;first | done | with_reducible rfl)
    (try simp only [Act.put,List.setIfInBounds_toArray,List.set_cons_zero,List.set_cons_succ])
    have bz1:Below w19.heap.size w19 w20:=(Below.refl _ _).drew.trans hb20
    have bz2:=bz1.trans (hb21.mono bz1.size)
    have bz3:=bz2.trans (hb22.mono bz2.size)
    have bz:=hbe19.out.trans (bz3.mono hbe19.out.size)
    have qw:=hw.out w22 bz
    (refine wpAnyH_ready (rs:=[33]) (by kernel_rfl) (by simp) ?_)
    (refine consL rfl (fun K hK=>?_))
    ((rw [if_pos (by rfl)]);go_simp;(go_at_call 16);refine qw.mono ?_;rintro e w23 ⟨rfl,hb23⟩;refine hK.out _ _ ⟨(hb23.cell (World.block_lt_of_cell? _ _ hHeld.1)).trans hHeld.1,(hb23.cell (World.block_lt_of_cell? _ _ hHeld.2.1)).trans hHeld.2.1,(hb23.cell (World.block_lt_of_cell? _ _ hHeld.2.2.1)).trans hHeld.2.2.1,(hb23.cell (World.block_lt_of_cell? _ _ hHeld.2.2.2)).trans hHeld.2.2.2⟩ (fun hHeld=>?_))
    (clear hK K)
    (try simp only [Act.put,List.setIfInBounds_toArray,List.set_cons_zero,List.set_cons_succ])
    (refine takeL (i:=34) (v:=?_) rfl (by kernel_rfl) (by kernel_rfl) (by kernel_rfl) (fun _ _ _ h=>h) (Or.inl ⟨by rfl,?_⟩) (by assumption) ?_)
    rotate_left
    ·(intro w hSw;(try dsimp only at hSw);go_simp;first | done | with_reducible rfl)
    (try simp only [Act.put,List.setIfInBounds_toArray,List.set_cons_zero,List.set_cons_succ])
    (refine takeL (i:=35) (v:=?_) rfl (by kernel_rfl) (by kernel_rfl) (by kernel_rfl) (fun _ _ _ h=>h) (Or.inl ⟨by rfl,?_⟩) (by assumption) ?_)
    rotate_left
    ·(intro w hSw;(try dsimp only at hSw);go_simp;first | done | with_reducible rfl)
    (try simp only [Act.put,List.setIfInBounds_toArray,List.set_cons_zero,List.set_cons_succ])
    (refine wpAnyH_done (by kernel_rfl) ?_ _)
    clear hHeld
    go_wp2_with fail
    go_ret
    exact ⟨rfl,bz.trans (hb23.mono bz.size)⟩
   ·replace hE:=Lib.hid hE
    go_enter Tryz.func6,Tryz.ntmps6
    go_wp2_with fail
    rw [←hw1]
    replace hw1:=Lib.hid hw1
    go_wp2_with fail
    refine ql.mono ?_
    rintro e w2 ⟨rfl,hx2⟩
    have q:=qf.out w2 hx2
    have a0:=hx2.cell c0
    have a1:=hx2.cell c1
    clear ql c0 c1
    go_wp2_with fail
    refine q.mono ?_
    rintro e w3 ⟨rfl,hx3⟩
    have hx:=(hx1.out.trans hx2).trans hx3
    have b0:=hx3.cell a0
    have b1:=hx3.cell a1
    have qc:=compile_no (hvh.out.ext hx.below) ba cap (ht.imp id fun ⟨b,o,e,h⟩=>⟨b,o,e,h.ext hx⟩) hE.out
    have hd:(compE n T t != 0) = true:=by simpa using hE.out
    generalize compE n T t = zE at *
    clear q a0 a1 hx2 hx3
    go_wp2_with fail
    refine qc.mono ?_
    rintro e w4 ⟨rfl,hb4⟩
    have hbe:=hx.below.trans (hb4.mono hx.size)
    have qw:=hw.out w4 hbe
    clear qc
    go_wp2_with fail
    refine qw.mono ?_
    rintro e w5 ⟨rfl,hb5⟩
    go_wp2_with fail
    go_ret
    exact ⟨rfl,hbe.trans (hb5.mono hbe.size)⟩
end Go.Proofs.YtmnjakejhbpkoaaGreatDoor
