import Derived.Test.YtckhohpbokojdaaGreatDoorKQ15
set_option linter.unusedSimpArgs false
set_option linter.unusedVariables false
namespace Go.Proofs.YtckhohpbokojdaaGreatDoor
open Go Go.RowKit Go.Shelf
def BothG (n:Int) (C:List L.Gt) (t:List Int) (nA eA:Int) (R:List L.Gt):Prop :=
 (R.length≤9223372036854775806∧∀ g∈R,g.inp.length≤1048576) ∧
 (∀ (W:World) (v tv:Value),SlC W v C→SlI W tv t→PowTab W→gPow < W.heap.size→Calls Tryz.prog 13 #[.agg #[.int .i64 n,v],tv] W fun e w'=>∃ vA,e = .returned (.tuple #[.agg #[.int .i64 nA,vA],.int .i64 eA])∧SlC w' vA R∧Below W.heap.size W w') ∧
 ∀ (W:World) (v tv:Value),SlC W v C→SlI W tv t→Calls Tryz.prog 14 #[.agg #[.int .i64 n,v],tv] W fun e w'=>∃ vA,e = .returned (.tuple #[.agg #[.int .i64 nA,vA],.int .i64 eA])∧SlC w' vA R∧Below W.heap.size W w'
theorem slC_nil (w:World):SlC w (.slice none 0 0) []:=⟨none,0,rfl,.inl rfl⟩
theorem both_given {n:Int} {C:List L.Gt} {t:List Int} (hl:C.length≤80) (h2:∀ g∈C,g.inp.length≤20) (htl:t.length≤300):∃ nA eA R,BothG n C t nA eA R:=by
 by_cases hok:L.netChk n C = 0∧L.TermL n t
 ·obtain ⟨hc,hT⟩:=hok
  obtain ⟨nl,rfl,hnlC,hnli⟩:=nodes_of hc
  have hnl20:∀ y∈nl,y.inp.length≤20:=fun y hy=>by
   obtain ⟨g,hg,e⟩:=hnli y hy
   have:=h2 g hg
   omega
  obtain ⟨hnok,hne,hn,hl6⟩:=nok_of hc
  obtain ⟨r1,r2,r3,r4,r5⟩:=red_facts hn (L.map_nok hnok _ (L.givND_or t)) (map_ne hne) (by rw [List.length_map];omega)
  rw [List.length_map] at r4
  simp only [List.length_map] at r5
  refine ⟨n,0,(L.reduceL (nl.map (L.givND t))).map L.ofND,⟨by rw [List.length_map];omega,fun g hg=>?_⟩,fun W v tv hv ht hP hgP=>?_,fun W v tv hv ht=>?_⟩
  ·obtain ⟨y,hy,rfl⟩:=List.mem_map.1 hg
   have:=r5 y hy
   have e:(L.ofND y).inp.length = y.inp.length:=castL_len y.inp
   omega
  ·refine (given_ok hv hc (by omega) (fun y hy=>by have:=hnl20 y hy;omega) ht (by omega) hT hP hgP).mono ?_
   rintro e w' ⟨vL,us,rfl,ho,hR,hb⟩
   exact ⟨vL,rfl,nodes_slC ho hR,hb⟩
  ·exact rgiven_ok hv hc (by omega) (fun y hy=>by have:=hnl20 y hy;omega) ht (by omega) hT
 ·refine ⟨0,1,[],⟨by simp,fun g hg=>by cases hg⟩,fun W v tv hv ht hP hgP=>?_,fun W v tv hv ht=>?_⟩
  ·refine (given_err hv hl h2 ht htl hok).mono ?_
   rintro e w' ⟨rfl,hb⟩
   exact ⟨_,rfl,slC_nil _,hb⟩
  ·by_cases hc:L.netChk n C = 0
   ·refine (rgiven_no hv hc (by omega) (fun g hg=>by have:=h2 g hg;omega) ht (by omega) (fun h=>hok ⟨hc,h⟩)).mono ?_
    rintro e w' ⟨rfl,hb⟩
    exact ⟨_,rfl,slC_nil _,hb⟩
   ·refine (rgiven_bad hv hc (by omega) (fun g hg=>by have:=h2 g hg;omega) ht).mono ?_
    rintro e w' ⟨rfl,hb⟩
    exact ⟨_,rfl,slC_nil _,hb⟩
set_option maxRecDepth 100000 in
set_option maxHeartbeats 8000000 in
theorem condgives_any {n:Int} {C:List L.Gt} {t:List Int} {v tv:Value} (w:World) (hP:PowTab w) (hv:SlC w v C) (hl:C.length≤9223372036854775807) (ht:SlI w tv t) :
  Calls Tryz.prog 3 #[.agg #[.int .i64 n,v],tv] w fun e w'=>e = .returned (.bool true)∧Below w.heap.size w w':=by
 have hgP:=hP.lt
 obtain ⟨i0,hi0,hz0,hz1,hz2⟩:=info_parts int_info
 have hw:∀ W,Below w.heap.size w W→Calls Tryz.prog 11 #[] W fun e w''=>e = .returned (.bool true)∧Below W.heap.size W w'':=fun W hx=>works35_any W (hP.below hx) (Nat.lt_of_lt_of_le hgP hx.size)
 have ql:=fun (W:World) (hW:Ext w W)=>light35_any (n:=n) (hv.ext hW.below) hl
 have hvq:=hv
 have htq:=ht
 obtain ⟨ba,cp,rfl,-⟩:=hv.shape
 obtain ⟨tb,tc,rfl,-⟩:=id ht
 have hx2:Ext w (w.alloc (.cells #[.int .i64 n,.slice ba C.length cp] 24)):=(Ext.refl w).alloc _
 have e0:=heap_alloc_new w (.cells #[.int .i64 n,.slice ba C.length cp] 24)
 obtain ⟨w2,hw2⟩:∃ x,x = (w.alloc (.cells #[.int .i64 n,.slice ba C.length cp] 24)):=⟨_,rfl⟩
 rw [←hw2] at hx2 e0
 have hbx:∀ V,Below w2.heap.size w2 V→V.cell? ⟨w.heap.size,0,none⟩ = some (.int .i64 n)∧V.cell? ⟨w.heap.size,1,none⟩ = some (.slice ba C.length cp):=fun V hV=>by
  have f0:=(hV.block _ (Array.getElem?_eq_some_iff.1 e0).1).trans e0
  exact ⟨by rw [World.cell?,f0];rfl,by rw [World.cell?,f0];rfl⟩
 obtain ⟨p0,p1⟩:=hbx w2 (Below.refl _ _)
 have q1:=ql w2 hx2
 replace hw:=Lib.hid hw
 replace hvq:=Lib.hid hvq
 replace htq:=Lib.hid htq
 replace hbx:=Lib.hid hbx
 replace hx2:=Lib.hid hx2
 replace e0:=Lib.hid e0
 replace hP:=Lib.hid hP
 clear hv ht ql
 rw [hw2] at p0 p1
 cases hL:lightN C with
 | false =>
   rw [hL] at q1
   go_enter Tryz.func3,Tryz.ntmps3
   go_wp2_with fail
   rw [←hw2]
   replace hw2:=Lib.hid hw2
   refine q1.mono ?_
   rintro e w3 ⟨rfl,hx3⟩
   have hb3:=(hx2.out.trans hx3).below
   have q:=hw.out _ hb3
   replace hb3:=Lib.hid hb3
   clear q1 p0 p1 hx3
   go_wp2_with fail
   refine q.mono ?_
   rintro e w4 ⟨rfl,hb4⟩
   clear q
   go_wp2_with fail
   go_ret
   exact ⟨rfl,hb3.out.trans (hb4.mono hb3.out.size)⟩
 | true =>
   rw [hL] at q1
   obtain ⟨hC80,hC20⟩:=light_parts hL
   replace hC20:=Lib.hid hC20
   by_cases htl:t.length≤300
   ·have d3:decide ((t.length:Int) > 300) = false:=decide_eq_false (by omega)
    have d4:decide (300 < t.length) = false:=decide_eq_false (by omega)
    obtain ⟨nA,eA,R,hR,hG,hRG⟩:=both_given (n:=n) hC80 hC20.out htl
    have heA:(eA == eA) = true:=by simp
    have qc:=fun (W:World) (hW:Below w.heap.size w W)=>copied35_any (n:=n) (hvq.out.ext hW) (by omega) (fun g hg=>by have:=hC20.out g hg;omega)
    replace hG:=Lib.hid hG
    replace hRG:=Lib.hid hRG
    replace hR:=Lib.hid hR
    replace qc:=Lib.hid qc
    go_enter Tryz.func3,Tryz.ntmps3
    go_wp2_with fail
    rw [←hw2]
    replace hw2:=Lib.hid hw2
    refine q1.mono ?_
    rintro e w3 ⟨rfl,hx3⟩
    have hb3:=(hx2.out.trans hx3).below
    have qc3:=qc.out w3 hb3
    obtain ⟨p0',p1'⟩:=hbx.out w3 hx3.below
    replace hb3:=Lib.hid hb3
    replace hx3:=Lib.hid hx3.below
    clear q1 p0 p1 qc
    go_wp2_with fail
    refine qc3.mono ?_
    rintro e w4 ⟨vI,rfl,hsI,hb4⟩
    clear qc3 p0' p1'
    obtain ⟨bI,cI,rfl,-⟩:=hsI.shape
    have hB4:=hb3.out.trans (hb4.mono hb3.out.size)
    have hX4:=Lib.hid (hx3.out.trans (hb4.mono hx3.out.size))
    have hro:(w4.alloc (.cells #[] 3)).ownsRow w4.heap.size 3 1 (.slice (some ⟨w4.heap.size,0,none⟩) 0 0) 0 []:=World.ownsRow_lit w4 #[] 0 (Nat.le_refl _) (by unfold maxLen;omega) rfl
    have ha4:Below w4.heap.size w4 (w4.alloc (.cells #[] 3)):=(Below.refl _ w4).alloc (Nat.le_refl _) _
    have hcc:∀ j (hj:j < t.length),∃ b o,tb = some ⟨b,o,none⟩∧(w4.alloc (.cells #[] 3)).cell? ⟨b,o+j,none⟩ = some (.int .i64 t[j]):=fun j hj=>by
     obtain ⟨_,_,e,h⟩:=(htq.out.ext (hB4.trans (ha4.mono hB4.size))).shape
     simp only [Value.slice.injEq] at e
     obtain ⟨rfl,-,rfl⟩:=e
     exact h j hj
    replace hsI:=Lib.hid hsI
    replace hro:=Lib.hid hro
    replace hcc:=Lib.hid hcc
    replace ha4:=Lib.hid ha4
    replace hB4:=Lib.hid hB4
    go_wp2_with (at_builtin;refine wpList_plain rfl (fun K hK=>wp_append_ints _ _ rfl w4.heap.size i0 hi0 hz0 hz1 hz2 _ 0 [] rfl hro.out tb tc t rfl hcc.out (by omega) ha4.out.size (fun v5 w5 ho5 hg5=>hK _ _ ?_)))
    rw [List.nil_append,Nat.zero_add] at ho5
    have hs5:SlI w5 v5 t:=owns_slI ho5
    have hb45:Below w4.heap.size w4 w5:=Below.grown ha4.out hg5 ha4.out.size (fun k e=>Nat.le_of_eq (Option.some.inj (show some w4.heap.size = some k from e)))
    obtain ⟨bt5,ct5,hv5⟩:=own_shp ho5
    subst hv5
    have hx5:=(Ext.refl w5).alloc (.cells #[.int .i64 n,.slice bI C.length cI] 24)
    have hn5:=heap_alloc_new w5 (.cells #[.int .i64 n,.slice bI C.length cI] 24)
    obtain ⟨w6,hw6⟩:∃ x,x = w5.alloc (.cells #[.int .i64 n,.slice bI C.length cI] 24):=⟨_,rfl⟩
    obtain ⟨g5,hg5'⟩:∃ x,x = w5.heap.size:=⟨_,rfl⟩
    rw [←hw6] at hx5 hn5 ⊢
    rw [←hg5'] at hn5 ⊢
    have hb46:Below w4.heap.size w4 w6:=hb45.trans (hx5.below.mono hb45.size)
    have hB6:=hB4.out.trans (hb46.mono hB4.out.size)
    have hX6:=hX4.out.trans (hb46.mono hX4.out.size)
    have hsI6:=hsI.out.ext hb46
    have hs6:=hs5.ext hx5.below
    have qg:=hG.out w6 _ _ hsI6 hs6 (hP.out.below hB6) (Nat.lt_of_lt_of_le hgP hB6.size)
    replace hB6:=Lib.hid hB6
    replace hX6:=Lib.hid hX6
    replace hsI6:=Lib.hid hsI6
    replace hs6:=Lib.hid hs6
    replace hn5:=Lib.hid hn5
    clear ho5 hg5 hs5 hb45 hx5 hw6 hg5' hb46 hB4 hX4 hsI hro hcc ha4 hx3 hb3
    refine qg.mono ?_
    rintro e w7 ⟨vA,rfl,hsA,hb7⟩
    clear qg
    obtain ⟨bA,cA,rfl,-⟩:=hsA.shape
    have hx7:=(Ext.refl w7).alloc (.cells #[.int .i64 nA,.slice bA R.length cA] 24)
    have hn7:=heap_alloc_new w7 (.cells #[.int .i64 nA,.slice bA R.length cA] 24)
    have hb67:=hb7.trans (hx7.below.mono hb7.size)
    have hB8:=Lib.hid (hB6.out.trans (hb67.mono hB6.out.size))
    have hX8:=Lib.hid (hX6.out.trans (hb67.mono hX6.out.size))
    have hsA8:=Lib.hid (hsA.ext hx7.below)
    have hsI8:=Lib.hid (hsI6.out.ext hb67)
    have hs8:=Lib.hid (hs6.out.ext hb67)
    have hn58:=Lib.hid ((hb67.block _ (Array.getElem?_eq_some_iff.1 hn5.out).1).trans hn5.out)
    obtain ⟨p0,p1⟩:=hbx.out _ hX8.out
    replace hn7:=Lib.hid hn7
    clear hsA hb7 hx7 hb67 hB6 hX6 hsI6 hs6 hn5
    go_wp2_with fail
    obtain ⟨w8,hw8⟩:∃ x,x = w7.alloc (.cells #[.int .i64 nA,.slice bA R.length cA] 24):=⟨_,rfl⟩
    obtain ⟨g7,hg7'⟩:∃ x,x = w7.heap.size:=⟨_,rfl⟩
    rw [←hw8] at hB8 hX8 hsA8 hsI8 hs8 hn58 hn7 ⊢
    rw [←hg7'] at hn7 ⊢
    clear p0 p1 hw8 hg7'
    have qr:=hRG.out w8 _ _ (hvq.out.ext hB8.out) (htq.out.ext hB8.out)
    refine qr.mono ?_
    rintro e w9 ⟨vB,rfl,hsB,hb9⟩
    clear qr
    obtain ⟨bB,cB,rfl,-⟩:=hsB.shape
    have hx9:=(Ext.refl w9).alloc (.cells #[.int .i64 nA,.slice bB R.length cB] 24)
    have hn9:=heap_alloc_new w9 (.cells #[.int .i64 nA,.slice bB R.length cB] 24)
    have hb89:=hb9.trans (hx9.below.mono hb9.size)
    have hB10:=Lib.hid (hB8.out.trans (hb89.mono hB8.out.size))
    have hX10:=Lib.hid (hX8.out.trans (hb89.mono hX8.out.size))
    have hsA10:=hsA8.out.ext hb89
    have hsB10:=hsB.ext hx9.below
    have hsI10:=Lib.hid (hsI8.out.ext hb89)
    have hs10:=Lib.hid (hs8.out.ext hb89)
    have hn510:=Lib.hid ((hb89.block _ (Array.getElem?_eq_some_iff.1 hn58.out).1).trans hn58.out)
    have hn710:=(hb89.block _ (Array.getElem?_eq_some_iff.1 hn7.out).1).trans hn7.out
    have qs:=same20_any (n:=nA) hsA10 hsB10 hR.out.1 hR.out.2
    have x0:(w9.alloc (.cells #[.int .i64 nA,.slice bB R.length cB] 24)).cell? ⟨g7,0,none⟩ = some (.int .i64 nA):=by rw [World.cell?,hn710];rfl
    have x1:(w9.alloc (.cells #[.int .i64 nA,.slice bB R.length cB] 24)).cell? ⟨g7,1,none⟩ = some (.slice bA R.length cA):=by rw [World.cell?,hn710];rfl
    have x2:(w9.alloc (.cells #[.int .i64 nA,.slice bB R.length cB] 24)).cell? ⟨w9.heap.size,0,none⟩ = some (.int .i64 nA):=by rw [World.cell?,hn9];rfl
    have x3:(w9.alloc (.cells #[.int .i64 nA,.slice bB R.length cB] 24)).cell? ⟨w9.heap.size,1,none⟩ = some (.slice bB R.length cB):=by rw [World.cell?,hn9];rfl
    clear hsA8 hsB hb9 hx9 hb89 hsA10 hsB10 hn710 hn9 hn58 hs8 hsI8 hX8 hB8 hn7
    go_wp2_with fail
    refine qs.mono ?_
    rintro e w11 ⟨rfl,hx11⟩
    clear qs x0 x1 x2 x3
    have hB11:=Lib.hid (hB10.out.trans (hx11.below.mono hB10.out.size))
    have hX11:=Lib.hid (hX10.out.trans (hx11.below.mono hX10.out.size))
    have hsI11:=hsI10.out.ext hx11.below
    have hs11:=Lib.hid (hs10.out.ext hx11.below)
    have hn511:=(hx11.below.block _ (Array.getElem?_eq_some_iff.1 hn510.out).1).trans hn510.out
    have qs2:=same20_any (n:=n) hsI11 (hvq.out.ext hB11.out) (by omega) (fun g hg=>by have:=hC20.out g hg;omega)
    obtain ⟨p0,p1⟩:=hbx.out _ hX11.out
    have x0:w11.cell? ⟨g5,0,none⟩ = some (.int .i64 n):=by rw [World.cell?,hn511];rfl
    have x1:w11.cell? ⟨g5,1,none⟩ = some (.slice bI C.length cI):=by rw [World.cell?,hn511];rfl
    clear hsI11 hn511 hx11 hB10 hX10 hsI10 hs10 hn510
    go_wp2_with fail
    refine qs2.mono ?_
    rintro e w12 ⟨rfl,hx12⟩
    clear qs2 x0 x1 p0 p1
    have hB12:=Lib.hid (hB11.out.trans (hx12.below.mono hB11.out.size))
    have hs12:=hs11.out.ext hx12.below
    have qs3:=same03_full hs12 (htq.out.ext hB12.out) (by omega) (by omega)
    rw [decide_eq_true rfl] at qs3
    clear hs12 hs11 hB11 hX11 hx12
    go_wp2_with fail
    refine qs3.mono ?_
    rintro e w13 ⟨rfl,hx13⟩
    have hB13:=hB12.out.trans (hx13.below.mono hB12.out.size)
    have q:=hw.out _ hB13
    replace hB13:=Lib.hid hB13
    clear qs3 hx13 hB12
    go_wp2_with fail
    refine q.mono ?_
    rintro e w14 ⟨rfl,hb14⟩
    clear q
    go_wp2_with fail
    go_ret
    exact ⟨rfl,hB13.out.trans (hb14.mono hB13.out.size)⟩
   ·have d3:decide ((t.length:Int) > 300) = true:=decide_eq_true (by omega)
    have d4:decide (300 < t.length) = true:=decide_eq_true (by omega)
    go_enter Tryz.func3,Tryz.ntmps3
    go_wp2_with fail
    rw [←hw2]
    replace hw2:=Lib.hid hw2
    refine q1.mono ?_
    rintro e w3 ⟨rfl,hx3⟩
    have hb3:=(hx2.out.trans hx3).below
    have q:=hw.out _ hb3
    replace hb3:=Lib.hid hb3
    clear q1 p0 p1 hx3
    go_wp2_with fail
    refine q.mono ?_
    rintro e w4 ⟨rfl,hb4⟩
    clear q
    go_wp2_with fail
    go_ret
    exact ⟨rfl,hb3.out.trans (hb4.mono hb3.out.size)⟩
theorem condgives_card {n:Int} {C:List L.Gt} {t:List Int} {u tv:Value} (w:World) (hP:PowTab w) (hv:SlC w u C∧C.length≤9223372036854775807∧(-9223372036854775808≤n∧n≤9223372036854775807)) (ht:SlI w tv t) :
  Calls Tryz.prog 3 #[.agg #[.int .i64 n,u],tv] w fun e w'=>e = .returned (.bool true)∧Below w.heap.size w w' :=
 condgives_any w hP hv.1 hv.2.1 ht
end Go.Proofs.YtckhohpbokojdaaGreatDoor
