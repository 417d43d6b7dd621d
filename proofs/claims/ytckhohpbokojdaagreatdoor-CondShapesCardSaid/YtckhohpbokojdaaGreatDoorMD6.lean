import Derived.Test.YtckhohpbokojdaaGreatDoorMD5
import Derived.Test.YtckhohpbokojdaaGreatDoorMN47
import Derived.Test.YtckhohpbokojdaaGreatDoorMN44
set_option linter.unusedSimpArgs false
set_option linter.unusedVariables false
namespace Go.Proofs.YtckhohpbokojdaaGreatDoor
open Go Go.RowKit Go.Shelf
theorem shapes_law {n:Int} {nl:List L.ND} {x:List Int} (hc:L.netChk n (nl.map L.ofND) = 0) (hT:L.TermL n x):(decF nl = true→decF (L.reduceL (nl.map (L.givND x))) = true)∧((∀ a,L.Det a nl)→∀ a,L.Det a (L.reduceL (nl.map (L.givND x)))):=by
 obtain ⟨h,hne,hn,hl⟩:=nok_of hc
 have hm:=L.map_nok h _ (L.givND_or x)
 exact ⟨fun hD=>decF_iff.2 (L.reduceL_decomp hm (map_ne hne) (L.map_decomp h _ (L.givND_or x) (decF_iff.1 hD))),fun hD a=>L.reduceL_det hm (map_ne hne) (L.giv_det h hT (hD _))⟩
set_option maxRecDepth 100000 in
set_option maxHeartbeats 4000000 in
theorem condshapes_any {n:Int} {C:List L.Gt} {x:List Int} {v xv:Value} (w:World) (hTz:TzTab w) (hP:PowTab w) (hPt:PatTab w) (hv:SlC w v C) (hl:C.length≤9223372036854775807) (hnr:-9223372036854775808≤n∧n≤9223372036854775807) (hx:SlI w xv x) :
  Calls Tryz.prog 9 #[.agg #[.int .i64 n,v],xv] w fun e w'=>e = .returned (.bool true)∧Below w.heap.size w w':=by
 have hgP:=hP.lt
 have hw:∀ W,Below w.heap.size w W→Calls Tryz.prog 11 #[] W fun e w''=>e = .returned (.bool true)∧Below W.heap.size W w'':=fun W hx=>works35_any W (hP.below hx) (Nat.lt_of_lt_of_le hgP hx.size)
 have ql:=fun (W:World) (hW:Ext w W)=>light35_any (n:=n) (hv.ext hW.below) hl
 have hvq:=hv
 have hxq:=hx
 obtain ⟨ba,cp,rfl,-⟩:=hv.shape
 obtain ⟨tx,cx,rfl,-⟩:=id hx
 have hx2:Ext w (w.alloc (.cells #[.int .i64 n,.slice ba C.length cp] 24)):=(Ext.refl w).alloc _
 have e0:=heap_alloc_new w (.cells #[.int .i64 n,.slice ba C.length cp] 24)
 obtain ⟨w2,hw2⟩:∃ x,x = (w.alloc (.cells #[.int .i64 n,.slice ba C.length cp] 24)):=⟨_,rfl⟩
 rw [←hw2] at hx2 e0
 have hbx:∀ V,Below w2.heap.size w2 V→V.cell? ⟨w.heap.size,0,none⟩ = some (.int .i64 n)∧V.cell? ⟨w.heap.size,1,none⟩ = some (.slice ba C.length cp):=fun V hV=>by
  have f0:=(hV.block _ (Array.getElem?_eq_some_iff.1 e0).1).trans e0
  exact ⟨by rw [World.cell?,f0];rfl,by rw [World.cell?,f0];rfl⟩
 obtain ⟨p0,p1⟩:=hbx w2 (Below.refl _ _)
 have q1:=ql w2 hx2
 replace hw:=Lib.hid hw
 replace hvq:=Lib.hid hvq
 replace hxq:=Lib.hid hxq
 replace hbx:=Lib.hid hbx
 replace hx2:=Lib.hid hx2
 replace e0:=Lib.hid e0
 replace hP:=Lib.hid hP
 replace hTz:=Lib.hid hTz
 replace hPt:=Lib.hid hPt
 clear hv hx ql
 rw [hw2] at p0 p1
 cases hL:lightN C with
 | false =>
   rw [hL] at q1
   go_enter Tryz.func9,Tryz.ntmps9
   go_wp2_with fail
   rw [←hw2]
   replace hw2:=Lib.hid hw2
   refine q1.mono ?_
   rintro e w3 ⟨rfl,hx3⟩
   have hb3:=(hx2.out.trans hx3).below
   have hb23:=Lib.hid hx3.below
   clear q1 p0 p1 hx3
   have q:=hw.out _ hb3
   have hbq:=Lib.hid (hb3)
   go_wp2_with fail
   refine q.mono ?_
   rintro e wq ⟨rfl,hbw⟩
   clear q
   go_wp2_with fail
   go_ret
   exact ⟨rfl,hbq.out.trans (hbw.mono hbq.out.size)⟩
 | true =>
   rw [hL] at q1
   obtain ⟨hC80,hC20⟩:=light_parts hL
   replace hC20:=Lib.hid hC20
   by_cases hxl:x.length≤300
   ·have d3:decide ((x.length:Int) > 300) = false:=decide_eq_false (by omega)
    by_cases hn8:n≤8
    ·have d8:decide (n > 8) = false:=decide_eq_false (by omega)
     by_cases hok:L.netChk n C = 0∧L.TermL n x
     ·obtain ⟨hc,hT⟩:=hok
      obtain ⟨nl,rfl,hnlC,hnli⟩:=nodes_of hc
      have hnl80:nl.length≤80:=by omega
      have hnl20:∀ y∈nl,y.inp.length≤20:=fun y hy=>by
       obtain ⟨g,hg,e⟩:=hnli y hy
       have:=hC20.out g hg
       omega
      obtain ⟨r1,r4,r5⟩:=giv_chk (x:=x) hc
      obtain ⟨hsd,hst⟩:=shapes_law (x:=x) hc hT
      obtain ⟨RL,hRL⟩:∃ RL,RL = L.reduceL (nl.map (L.givND x)):=⟨_,rfl⟩
      have qg:=fun (W:World) (hW:Below w.heap.size w W)=>given_ok (hvq.out.ext hW) hc (by omega) (fun y hy=>by have:=hnl20 y hy;omega) (hxq.out.ext hW) (by omega) hT (hP.out.below hW) (Nat.lt_of_lt_of_le hgP hW.size)
      rw [←hRL] at r1 r4 r5 hsd hst
      simp only [←hRL] at qg
      have qd1:=fun (W:World) (hW:Below w.heap.size w W)=>decomp_ok (hvq.out.ext hW) hc (by omega) (fun y hy=>by have:=hnl20 y hy;omega)
      have qd2:=fun (W:World) (vL:Value) (hs:SlC W vL (RL.map L.ofND))=>decomp_ok hs r1 (by omega) (fun y hy=>by have:=r5 y hy;omega)
      have qe1:=fun (W:World) (hW:Below w.heap.size w W)=>det_any (hvq.out.ext hW) hc hn8 (fun y hy=>by have:=hnl20 y hy;omega) (hTz.out.below hTz.out.lt hW) (hPt.out.below hPt.out.lt hW)
      have qe2:=fun (W:World) (vL:Value) (hW:Below w.heap.size w W) (hs:SlC W vL (RL.map L.ofND))=>det_any hs r1 hn8 (fun y hy=>by have:=r5 y hy;omega) (hTz.out.below hTz.out.lt hW) (hPt.out.below hPt.out.lt hW)
      simp only [List.length_map] at *
      replace hRL:=Lib.hid hRL
      replace qg:=Lib.hid qg
      replace qd1:=Lib.hid qd1
      replace qd2:=Lib.hid qd2
      replace qe1:=Lib.hid qe1
      replace qe2:=Lib.hid qe2
      replace hsd:=Lib.hid hsd
      replace hst:=Lib.hid hst
      replace hT:=Lib.hid hT
      replace hc:=Lib.hid hc
      clear r1 r5 hnli hnl20 hnlC hl hL
      go_enter Tryz.func9,Tryz.ntmps9
      go_wp2_with fail
      rw [←hw2]
      replace hw2:=Lib.hid hw2
      refine q1.mono ?_
      rintro e w3 ⟨rfl,hx3⟩
      have hb3:=(hx2.out.trans hx3).below
      have hb23:=Lib.hid hx3.below
      clear q1 p0 p1 hx3
      have qg3:=qg.out w3 hb3
      obtain ⟨p0,p1⟩:=hbx.out w3 hb23.out
      replace hb3:=Lib.hid hb3
      clear qg
      go_wp2_with fail
      refine qg3.mono ?_
      rintro e w4 ⟨vL,us,rfl,hoL,hRo,hb4⟩
      have hsL:=nodes_slC hoL hRo
      obtain ⟨bL,cL,rfl⟩:∃ b c,vL = .slice b RL.length c:=own_shape hoL
      have hx5:=(Ext.refl w4).alloc (.cells #[.int .i64 n,.slice bL RL.length cL] 24)
      have hn5:=heap_alloc_new w4 (.cells #[.int .i64 n,.slice bL RL.length cL] 24)
      have hb5:=Lib.hid (hb3.out.trans ((hb4.trans (hx5.below.mono hb4.size)).mono hb3.out.size))
      have hx25:=Lib.hid (hb23.out.trans ((hb4.trans (hx5.below.mono hb4.size)).mono hb23.out.size))
      replace hsL:=Lib.hid (hsL.ext hx5.below)
      clear qg3 hoL hRo hb4 hx5 p0 p1 hb3 hb23
      have hS5:Hid (∀ V,Below (w4.alloc (.cells #[.int .i64 n,.slice bL RL.length cL] 24)).heap.size (w4.alloc (.cells #[.int .i64 n,.slice bL RL.length cL] 24)) V→Below w.heap.size w V∧SlC V (.slice bL RL.length cL) (RL.map L.ofND)∧(V.cell? ⟨w.heap.size,0,none⟩ = some (.int .i64 n)∧V.cell? ⟨w.heap.size,1,none⟩ = some (.slice ba nl.length cp))∧V.cell? ⟨w4.heap.size,0,none⟩ = some (.int .i64 n)∧V.cell? ⟨w4.heap.size,1,none⟩ = some (.slice bL RL.length cL)):=Lib.hid fun V hV=>by
       have f:=(hV.block _ (Array.getElem?_eq_some_iff.1 hn5).1).trans hn5
       exact ⟨hb5.out.trans (hV.mono hb5.out.size),hsL.out.ext hV,hbx.out V (hx25.out.trans (hV.mono hx25.out.size)),by rw [World.cell?,f];rfl,by rw [World.cell?,f];rfl⟩
      obtain ⟨-,-,⟨p0,p1⟩,g0,g1⟩:=hS5.out _ (Below.refl _ _)
      have qd:=qd1.out _ hb5.out
      replace hn5:=Lib.hid hn5
      clear qd1 hb5 hx25 hsL
      go_wp2_with fail
      obtain ⟨gb,hgb⟩:∃ x,x = w4.heap.size:=⟨_,rfl⟩
      obtain ⟨w5,hw5⟩:∃ x,x = w4.alloc (.cells #[.int .i64 n,.slice bL RL.length cL] 24):=⟨_,rfl⟩
      rw [←hw5] at hn5 hS5 qd ⊢
      rw [←hgb] at hn5 hS5 ⊢
      clear hw5 hgb p0 p1 g0 g1
      refine qd.mono ?_
      rintro e w6 ⟨rfl,hb56⟩
      have hS6:Hid (∀ V,Below w6.heap.size w6 V→Below w.heap.size w V∧SlC V (.slice bL RL.length cL) (RL.map L.ofND)∧(V.cell? ⟨w.heap.size,0,none⟩ = some (.int .i64 n)∧V.cell? ⟨w.heap.size,1,none⟩ = some (.slice ba nl.length cp))∧V.cell? ⟨gb,0,none⟩ = some (.int .i64 n)∧V.cell? ⟨gb,1,none⟩ = some (.slice bL RL.length cL)):=Lib.hid fun V hV=>hS5.out V (hb56.trans (hV.mono hb56.size))
      obtain ⟨hb06,hs6,⟨p0,p1⟩,g0,g1⟩:=hS6.out _ (Below.refl _ _)
      clear hS5 hb56 qd hn5
      cases hDn:decF nl with
      | false =>
        have qx1:=qe1.out w6 hb06
        clear hb06 hs6
        go_wp2_with fail
        refine qx1.mono ?_
        rintro e w8 ⟨B1,rfl,hB1,hb8⟩
        obtain ⟨hb08,hs8,⟨p0',p1'⟩,g0',g1'⟩:=hS6.out _ hb8
        have qx2:=qe2.out w8 _ hb08 hs8
        clear qx1 p0 p1 g0 g1 hb08 hs8
        go_wp2_with fail
        refine qx2.mono ?_
        rintro e w9 ⟨B2,rfl,hB2,hb9⟩
        obtain ⟨hb09,-⟩:=hS6.out _ (hb8.trans (hb9.mono hb8.size))
        have himp:B1 = true→B2 = true:=fun h=>hB2.2 (hst.out (hB1.1 h))
        have q:=hw.out _ hb09
        have hbq:=Lib.hid hb09
        clear qx2 p0' p1' g0' g1' hB1 hB2 hb8 hb9 hb09
        cases B1
        ·clear himp
         go_wp2_with fail
         refine q.mono ?_
         rintro e wq ⟨rfl,hbw⟩
         clear q
         go_wp2_with fail
         go_ret
         exact ⟨rfl,hbq.out.trans (hbw.mono hbq.out.size)⟩
        ·rw [himp rfl]
         clear himp
         go_wp2_with fail
         refine q.mono ?_
         rintro e wq ⟨rfl,hbw⟩
         clear q
         go_wp2_with fail
         go_ret
         exact ⟨rfl,hbq.out.trans (hbw.mono hbq.out.size)⟩
      | true =>
        have hDr:=hsd.out hDn
        have qd:=qd2.out _ _ hs6
        rw [hDr] at qd
        clear hb06 hs6
        go_wp2_with fail
        refine qd.mono ?_
        rintro e w7 ⟨rfl,hb67⟩
        replace hS6:Hid (∀ V,Below w7.heap.size w7 V→Below w.heap.size w V∧SlC V (.slice bL RL.length cL) (RL.map L.ofND)∧(V.cell? ⟨w.heap.size,0,none⟩ = some (.int .i64 n)∧V.cell? ⟨w.heap.size,1,none⟩ = some (.slice ba nl.length cp))∧V.cell? ⟨gb,0,none⟩ = some (.int .i64 n)∧V.cell? ⟨gb,1,none⟩ = some (.slice bL RL.length cL)):=Lib.hid fun V hV=>hS6.out V (hb67.trans (hV.mono hb67.size))
        clear p0 p1 g0 g1 qd
        obtain ⟨hb06,hs6,⟨p0,p1⟩,g0,g1⟩:=hS6.out _ (Below.refl _ _)
        have qx1:=qe1.out w7 hb06
        clear hb06 hs6 hb67
        go_wp2_with fail
        refine qx1.mono ?_
        rintro e w8 ⟨B1,rfl,hB1,hb8⟩
        obtain ⟨hb08,hs8,⟨p0',p1'⟩,g0',g1'⟩:=hS6.out _ hb8
        have qx2:=qe2.out w8 _ hb08 hs8
        clear qx1 p0 p1 g0 g1 hb08 hs8
        go_wp2_with fail
        refine qx2.mono ?_
        rintro e w9 ⟨B2,rfl,hB2,hb9⟩
        obtain ⟨hb09,-⟩:=hS6.out _ (hb8.trans (hb9.mono hb8.size))
        have himp:B1 = true→B2 = true:=fun h=>hB2.2 (hst.out (hB1.1 h))
        have q:=hw.out _ hb09
        have hbq:=Lib.hid hb09
        clear qx2 p0' p1' g0' g1' hB1 hB2 hb8 hb9 hb09
        cases B1
        ·clear himp
         go_wp2_with fail
         refine q.mono ?_
         rintro e wq ⟨rfl,hbw⟩
         clear q
         go_wp2_with fail
         go_ret
         exact ⟨rfl,hbq.out.trans (hbw.mono hbq.out.size)⟩
        ·rw [himp rfl]
         clear himp
         go_wp2_with fail
         refine q.mono ?_
         rintro e wq ⟨rfl,hbw⟩
         clear q
         go_wp2_with fail
         go_ret
         exact ⟨rfl,hbq.out.trans (hbw.mono hbq.out.size)⟩
     ·have qg:=fun (W:World) (hW:Below w.heap.size w W)=>given_err (hvq.out.ext hW) hC80 hC20.out (hxq.out.ext hW) (by omega) hok
      replace qg:=Lib.hid qg
      replace hok:=Lib.hid hok
      clear hL hl
      go_enter Tryz.func9,Tryz.ntmps9
      go_wp2_with fail
      rw [←hw2]
      replace hw2:=Lib.hid hw2
      refine q1.mono ?_
      rintro e w3 ⟨rfl,hx3⟩
      have hb3:=(hx2.out.trans hx3).below
      have hb23:=Lib.hid hx3.below
      clear q1 p0 p1 hx3
      have qg3:=qg.out w3 hb3
      obtain ⟨p0,p1⟩:=hbx.out w3 hb23.out
      replace hb3:=Lib.hid hb3
      clear qg
      go_wp2_with fail
      refine qg3.mono ?_
      rintro e w4 ⟨rfl,hb4⟩
      have hx5:=(Ext.refl w4).alloc (.cells #[.int .i64 0,.slice none 0 0] 24)
      have hb5:=hb3.out.trans ((hb4.trans (hx5.below.mono hb4.size)).mono hb3.out.size)
      clear qg3 p0 p1 hb4 hx5 hb3
      have q:=hw.out _ hb5
      have hbq:=Lib.hid (hb5)
      go_wp2_with fail
      refine q.mono ?_
      rintro e wq ⟨rfl,hbw⟩
      clear q
      go_wp2_with fail
      go_ret
      exact ⟨rfl,hbq.out.trans (hbw.mono hbq.out.size)⟩
    ·have d8:decide (n > 8) = true:=decide_eq_true (by omega)
     go_enter Tryz.func9,Tryz.ntmps9
     go_wp2_with fail
     rw [←hw2]
     replace hw2:=Lib.hid hw2
     refine q1.mono ?_
     rintro e w3 ⟨rfl,hx3⟩
     have hb3:=(hx2.out.trans hx3).below
     have hb23:=Lib.hid hx3.below
     clear q1 p0 p1 hx3
     obtain ⟨p0,p1⟩:=hbx.out w3 hb23.out
     have q:=hw.out _ hb3
     have hbq:=Lib.hid (hb3)
     go_wp2_with fail
     refine q.mono ?_
     rintro e wq ⟨rfl,hbw⟩
     clear q
     go_wp2_with fail
     go_ret
     exact ⟨rfl,hbq.out.trans (hbw.mono hbq.out.size)⟩
   ·have d3:decide ((x.length:Int) > 300) = true:=decide_eq_true (by omega)
    go_enter Tryz.func9,Tryz.ntmps9
    go_wp2_with fail
    rw [←hw2]
    replace hw2:=Lib.hid hw2
    refine q1.mono ?_
    rintro e w3 ⟨rfl,hx3⟩
    have hb3:=(hx2.out.trans hx3).below
    have hb23:=Lib.hid hx3.below
    clear q1 p0 p1 hx3
    have q:=hw.out _ hb3
    have hbq:=Lib.hid (hb3)
    go_wp2_with fail
    refine q.mono ?_
    rintro e wq ⟨rfl,hbw⟩
    clear q
    go_wp2_with fail
    go_ret
    exact ⟨rfl,hbq.out.trans (hbw.mono hbq.out.size)⟩
theorem condshapes_card {n:Int} {C:List L.Gt} {x:List Int} {u xv:Value} (w:World) (hTz:TzTab w) (hP:PowTab w) (hPt:PatTab w) (hv:SlC w u C∧C.length≤9223372036854775807∧(-9223372036854775808≤n∧n≤9223372036854775807)) (hx:SlI w xv x) :
  Calls Tryz.prog 9 #[.agg #[.int .i64 n,u],xv] w fun e w'=>e = .returned (.bool true)∧Below w.heap.size w w' :=
 condshapes_any w hTz hP hPt hv.1 hv.2.1 hv.2.2 hx
end Go.Proofs.YtckhohpbokojdaaGreatDoor
