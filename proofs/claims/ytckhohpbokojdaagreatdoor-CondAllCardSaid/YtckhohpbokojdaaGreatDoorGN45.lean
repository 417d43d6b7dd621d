import Derived.Test.YtckhohpbokojdaaGreatDoorGN43
import Derived.Test.YtckhohpbokojdaaGreatDoorGN44
set_option linter.unusedSimpArgs false
set_option linter.unusedVariables false
namespace Go.Proofs.YtckhohpbokojdaaGreatDoor
open Go Go.RowKit Go.Shelf
theorem alloc4h (w:World) (a b c d:Obj):((((w.alloc a).alloc b).alloc c).alloc d).heap[w.heap.size]? = some a∧((((w.alloc a).alloc b).alloc c).alloc d).heap[w.heap.size+1]? = some b∧((((w.alloc a).alloc b).alloc c).alloc d).heap[w.heap.size+1+1]? = some c∧((((w.alloc a).alloc b).alloc c).alloc d).heap[w.heap.size+1+1+1]? = some d:=by
 obtain ⟨h0,h1,h2⟩:=alloc3h w a b c
 have hx:=(Ext.refl (((w.alloc a).alloc b).alloc c)).alloc d
 have h3:=heap_alloc_new (((w.alloc a).alloc b).alloc c) d
 rw [show (((w.alloc a).alloc b).alloc c).heap.size = w.heap.size+1+1+1 by simp] at h3
 exact ⟨(hx.below.block _ (Array.getElem?_eq_some_iff.1 h0).1).trans h0,(hx.below.block _ (Array.getElem?_eq_some_iff.1 h1).1).trans h1,(hx.below.block _ (Array.getElem?_eq_some_iff.1 h2).1).trans h2,h3⟩
def goodN (n:Int) (C:List L.Gt):Bool:=decide (L.netChk n C = 0) && decF (C.map L.toND)
theorem decomp_any {n:Int} {C:List L.Gt} {v:Value} {w:World} (hv:SlC w v C) (hl:C.length≤80) (h2:∀ g∈C,g.inp.length≤20) :
  Calls Tryz.prog 20 #[.agg #[.int .i64 n,v]] w fun e w'=>e = .returned (.bool (goodN n C))∧Below w.heap.size w w':=by
 by_cases hc:L.netChk n C = 0
 ·obtain ⟨nl,rfl,hnlC,hnli⟩:=nodes_of hc
  have:=decomp_ok hv hc (by omega) (fun y hy=>by
   obtain ⟨g,hg,e⟩:=hnli y hy
   have:=h2 g hg
   omega)
  unfold goodN
  rw [decide_eq_true hc,Bool.true_and,List.map_map,show (L.toND ∘ L.ofND) = id from funext L.toND_ofND,List.map_id]
  exact this
 ·unfold goodN
  rw [decide_eq_false hc,Bool.false_and]
  exact decomp_bad hv hc (by omega) (fun g hg=>by have:=h2 g hg;omega)
set_option maxRecDepth 100000 in
set_option maxHeartbeats 40000000 in
theorem condall_any {n:Int} {C:List L.Gt} {s t a:VSet} {v:Value} (w:World) (hP:PowTab w) (hv:SlC w v C) (hl:C.length≤9223372036854775807) :
  Calls Tryz.prog 6 #[.agg #[.int .i64 n,v],.agg #[.int .u64 (lo s),.int .u64 (hi s)],.agg #[.int .u64 (lo t),.int .u64 (hi t)],.agg #[.int .u64 (lo a),.int .u64 (hi a)]] w fun e w'=>e = .returned (.bool true)∧Below w.heap.size w w':=by
 have hgP:=hP.lt
 have hw:∀ W,Below w.heap.size w W→Calls Tryz.prog 11 #[] W fun e w''=>e = .returned (.bool true)∧Below W.heap.size W w'':=fun W hx=>works35_any W (hP.below hx) (Nat.lt_of_lt_of_le hgP hx.size)
 have ql:=fun (W:World) (hW:Ext w W)=>light35_any (n:=n) (hv.ext hW.below) hl
 have hvq:=hv
 obtain ⟨ba,cp,rfl,-⟩:=hv.shape
 have hx2:Ext w ((((w.alloc (.cells #[.int .i64 n,.slice ba C.length cp] 24)).alloc (.cells #[.int .u64 (lo s),.int .u64 (hi s)] 37)).alloc (.cells #[.int .u64 (lo t),.int .u64 (hi t)] 37)).alloc (.cells #[.int .u64 (lo a),.int .u64 (hi a)] 37)):=((((Ext.refl w).alloc _).alloc _).alloc _).alloc _
 obtain ⟨e0,e1,e2,e3⟩:=alloc4h w (.cells #[.int .i64 n,.slice ba C.length cp] 24) (.cells #[.int .u64 (lo s),.int .u64 (hi s)] 37) (.cells #[.int .u64 (lo t),.int .u64 (hi t)] 37) (.cells #[.int .u64 (lo a),.int .u64 (hi a)] 37)
 obtain ⟨w2,hw2⟩:∃ x,x = ((((w.alloc (.cells #[.int .i64 n,.slice ba C.length cp] 24)).alloc (.cells #[.int .u64 (lo s),.int .u64 (hi s)] 37)).alloc (.cells #[.int .u64 (lo t),.int .u64 (hi t)] 37)).alloc (.cells #[.int .u64 (lo a),.int .u64 (hi a)] 37)):=⟨_,rfl⟩
 rw [←hw2] at hx2 e0 e1 e2 e3
 have hbx:∀ V,Below w2.heap.size w2 V→(V.cell? ⟨w.heap.size,0,none⟩ = some (.int .i64 n)∧V.cell? ⟨w.heap.size,1,none⟩ = some (.slice ba C.length cp))∧(V.cell? ⟨w.heap.size+1,0,none⟩ = some (.int .u64 (lo s))∧V.cell? ⟨w.heap.size+1,1,none⟩ = some (.int .u64 (hi s)))∧(V.cell? ⟨w.heap.size+1+1,0,none⟩ = some (.int .u64 (lo t))∧V.cell? ⟨w.heap.size+1+1,1,none⟩ = some (.int .u64 (hi t)))∧(V.cell? ⟨w.heap.size+1+1+1,0,none⟩ = some (.int .u64 (lo a))∧V.cell? ⟨w.heap.size+1+1+1,1,none⟩ = some (.int .u64 (hi a))):=fun V hV=>by
  have f0:=(hV.block _ (Array.getElem?_eq_some_iff.1 e0).1).trans e0
  have f1:=(hV.block _ (Array.getElem?_eq_some_iff.1 e1).1).trans e1
  have f2:=(hV.block _ (Array.getElem?_eq_some_iff.1 e2).1).trans e2
  have f3:=(hV.block _ (Array.getElem?_eq_some_iff.1 e3).1).trans e3
  exact ⟨⟨by rw [World.cell?,f0];rfl,by rw [World.cell?,f0];rfl⟩,⟨by rw [World.cell?,f1];rfl,by rw [World.cell?,f1];rfl⟩,⟨by rw [World.cell?,f2];rfl,by rw [World.cell?,f2];rfl⟩,by rw [World.cell?,f3];rfl,by rw [World.cell?,f3];rfl⟩
 obtain ⟨⟨p0,p1⟩,⟨p2,p3⟩,⟨p4,p5⟩,p6,p7⟩:=hbx w2 (Below.refl _ _)
 have q1:=ql w2 hx2
 replace hw:=Lib.hid hw
 replace hvq:=Lib.hid hvq
 replace hbx:=Lib.hid hbx
 replace hx2:=Lib.hid hx2
 replace e0:=Lib.hid e0
 replace e1:=Lib.hid e1
 replace e2:=Lib.hid e2
 replace e3:=Lib.hid e3
 replace hP:=Lib.hid hP
 clear hv ql
 rw [hw2] at p0 p1 p2 p3 p4 p5 p6 p7
 cases hL:lightN C with
 | false =>
   rw [hL] at q1
   go_enter Tryz.func6,Tryz.ntmps6
   go_wp2_with fail
   rw [←hw2]
   replace hw2:=Lib.hid hw2
   refine q1.mono ?_
   rintro e w3 ⟨rfl,hx3⟩
   have hb3:=(hx2.out.trans hx3).below
   clear q1 p0 p1 p2 p3 p4 p5 p6 p7 hx3
   have q:=hw.out _ hb3
   have hbq:=Lib.hid (hb3)
   go_wp2_with fail
   refine q.mono ?_
   rintro e wq ⟨rfl,hbw⟩
   clear q
   go_wp2_with fail
   go_ret
   exact ⟨rfl,hbq.out.trans (hbw.mono hbq.out.size)⟩
 | true =>
   rw [hL] at q1
   obtain ⟨hC80,hC20⟩:=light_parts hL
   have qd:=fun (W:World) (hW:Below w.heap.size w W)=>decomp_any (n:=n) (hvq.out.ext hW) hC80 hC20
   replace hC20:=Lib.hid hC20
   cases hG:goodN n C with
   | false =>
     simp only [hG] at qd
     replace qd:=Lib.hid qd
     go_enter Tryz.func6,Tryz.ntmps6
     go_wp2_with fail
     rw [←hw2]
     replace hw2:=Lib.hid hw2
     refine q1.mono ?_
     rintro e w3 ⟨rfl,hx3⟩
     have hb3:=(hx2.out.trans hx3).below
     have qd3:=qd.out w3 hb3
     clear q1 p0 p1 p2 p3 p4 p5 p6 p7
     obtain ⟨⟨p0,p1⟩,-⟩:=hbx.out w3 hx3.below
     replace hb3:=Lib.hid hb3
     clear hx3 qd
     go_wp2_with fail
     refine qd3.mono ?_
     rintro e w4 ⟨rfl,hb4⟩
     have hb5:=hb3.out.trans (hb4.mono hb3.out.size)
     clear qd3 p0 p1 hb4 hb3
     have q:=hw.out _ hb5
     have hbq:=Lib.hid (hb5)
     go_wp2_with fail
     refine q.mono ?_
     rintro e wq ⟨rfl,hbw⟩
     clear q
     go_wp2_with fail
     go_ret
     exact ⟨rfl,hbq.out.trans (hbw.mono hbq.out.size)⟩
   | true =>
     simp only [hG] at qd
     replace qd:=Lib.hid qd
     unfold goodN at hG
     rw [Bool.and_eq_true,decide_eq_true_eq] at hG
     obtain ⟨hc,hD⟩:=hG
     obtain ⟨nl,rfl,hnlC,hnli⟩:=nodes_of hc
     rw [List.map_map,show (L.toND ∘ L.ofND) = id from funext L.toND_ofND,List.map_id] at hD
     have hnl80:nl.length≤80:=by omega
     have hnl20:∀ y∈nl,y.inp.length≤20:=fun y hy=>by
      obtain ⟨g,hg,e⟩:=hnli y hy
      have:=hC20.out g hg
      omega
     obtain ⟨x1,x2,x3,x4⟩:=for_chk (s:=s) hc hD
     obtain ⟨u1,u2,u3,u4⟩:=for_chk (s:=s ||| t) hc hD
     obtain ⟨o1,o2,o3,o4⟩:=for_chk (s:=0) hc hD
     obtain ⟨y1,y2,y3,y4⟩:=for_chk (s:=t) x1 x4
     have hall:=all_law (s:=s) (t:=t) hc hD (L.asg a)
     have hnone:=none_law hc hD (L.asg a)
     obtain ⟨XL,hXL⟩:∃ l,l = L.reduceL (nl.map (L.forND s)):=⟨_,rfl⟩
     obtain ⟨ZL,hZL⟩:∃ l,l = L.reduceL (nl.map (L.forND (s ||| t))):=⟨_,rfl⟩
     obtain ⟨NL,hNL⟩:∃ l,l = L.reduceL (nl.map (L.forND 0)):=⟨_,rfl⟩
     rw [←hXL] at x1 x2 x3 x4 y1 y2 y3 y4 hall
     rw [←hZL] at u1 u2 u3 u4 hall
     rw [←hNL] at o1 o2 o3 o4 hnone
     obtain ⟨YL,hYL⟩:∃ l,l = L.reduceL (XL.map (L.forND t)):=⟨_,rfl⟩
     rw [←hYL] at y1 y2 y3 y4 hall
     have qX:=fun (W:World) (hW:Below w.heap.size w W)=>forget_ok (s:=s) (hvq.out.ext hW) hc (by omega) (fun y hy=>by have:=hnl20 y hy;omega) hD (hP.out.below hW) (Nat.lt_of_lt_of_le hgP hW.size)
     have qZ0:=fun (W:World) (hW:Below w.heap.size w W)=>forget_ok (s:=s ||| t) (hvq.out.ext hW) hc (by omega) (fun y hy=>by have:=hnl20 y hy;omega) hD (hP.out.below hW) (Nat.lt_of_lt_of_le hgP hW.size)
     have qN:=fun (W:World) (hW:Below w.heap.size w W)=>forget_ok (s:=0) (hvq.out.ext hW) hc (by omega) (fun y hy=>by have:=hnl20 y hy;omega) hD (hP.out.below hW) (Nat.lt_of_lt_of_le hgP hW.size)
     have qY:=fun (W:World) (vX:Value) (hW:Below w.heap.size w W) (hs:SlC W vX (XL.map L.ofND))=>forget_ok (s:=t) hs x1 (by omega) (fun y hy=>by have:=x3 y hy;omega) x4 (hP.out.below hW) (Nat.lt_of_lt_of_le hgP hW.size)
     simp only [←hXL] at qX
     simp only [←hZL] at qZ0
     simp only [←hNL,show lo 0 = 0 from rfl,show hi 0 = 0 from rfl] at qN
     simp only [←hYL] at qY
     obtain ⟨T1,hT1⟩:∃ T,T = L.tv ZL (L.asg a) (ZL.length - 1):=⟨_,rfl⟩
     obtain ⟨T2,hT2⟩:∃ T,T = L.tv nl (L.asg a) (nl.length - 1):=⟨_,rfl⟩
     have qE1:=fun (W:World) (vL:Value) (hs:SlC W vL (YL.map L.ofND))=>neval_any (a:=a) hs y1 (by omega) (fun y hy=>by have:=y3 y hy;omega)
     have qE2:=fun (W:World) (vL:Value) (hs:SlC W vL (ZL.map L.ofND))=>neval_any (a:=a) hs u1 (by omega) (fun y hy=>by have:=u3 y hy;omega)
     have qE3:=fun (W:World) (vL:Value) (hs:SlC W vL (NL.map L.ofND))=>neval_any (a:=a) hs o1 (by omega) (fun y hy=>by have:=o3 y hy;omega)
     have qE4:=fun (W:World) (hW:Below w.heap.size w W)=>neval_any (a:=a) (hvq.out.ext hW) hc (by omega) (fun y hy=>by have:=hnl20 y hy;omega)
     simp only [hall,←hT1] at qE1 qE2
     simp only [hnone,←hT2] at qE3 qE4
     have hTe1:(T1 == T1) = true:=by simp
     have hTe2:(T2 == T2) = true:=by simp
     simp only [List.length_map] at *
     replace hXL:=Lib.hid hXL
     replace hYL:=Lib.hid hYL
     replace hZL:=Lib.hid hZL
     replace hNL:=Lib.hid hNL
     replace hT1:=Lib.hid hT1
     replace hT2:=Lib.hid hT2
     replace qX:=Lib.hid qX
     replace qY:=Lib.hid qY
     replace qZ0:=Lib.hid qZ0
     replace qN:=Lib.hid qN
     replace qE1:=Lib.hid qE1
     replace qE2:=Lib.hid qE2
     replace qE3:=Lib.hid qE3
     replace qE4:=Lib.hid qE4
     replace hc:=Lib.hid hc
     clear x1 x2 x3 x4 y1 y2 y3 y4 u1 u2 u3 u4 o1 o2 o3 o4 hall hnone hD hnli hnl20 hnlC hl hL
     go_enter Tryz.func6,Tryz.ntmps6
     go_wp2_with fail
     rw [←hw2]
     replace hw2:=Lib.hid hw2
     refine q1.mono ?_
     rintro e w3 ⟨rfl,hx3⟩
     have hb3:=(hx2.out.trans hx3).below
     have qd3:=qd.out w3 hb3
     clear q1 p0 p1 p2 p3 p4 p5 p6 p7
     obtain ⟨⟨p0,p1⟩,-⟩:=hbx.out w3 hx3.below
     replace hb3:=Lib.hid hb3
     replace hx3:=Lib.hid hx3.below
     clear qd
     go_wp2_with fail
     refine qd3.mono ?_
     rintro e w4 ⟨rfl,hb4⟩
     have hb24:=hx3.out.trans (hb4.mono hx3.out.size)
     have hb04:=hb3.out.trans (hb4.mono hb3.out.size)
     have qx:=qX.out w4 hb04
     clear p0 p1
     obtain ⟨⟨p0,p1⟩,⟨p2,p3⟩,-,-⟩:=hbx.out w4 hb24
     replace hb24:=Lib.hid hb24
     replace hb04:=Lib.hid hb04
     clear qd3 hb4 hb3 hx3 qX
     go_wp2_with fail
     refine qx.mono ?_
     rintro e w5 ⟨vX,ux,rfl,hoX,hRX,hb5⟩
     have hsX:=nodes_slC hoX hRX
     obtain ⟨bX,cX,rfl⟩:∃ b c,vX = .slice b XL.length c:=own_shape hoX
     have hx6:=(Ext.refl w5).alloc (.cells #[.int .i64 n,.slice bX XL.length cX] 24)
     have hn6:=heap_alloc_new w5 (.cells #[.int .i64 n,.slice bX XL.length cX] 24)
     have hb46:=hb5.trans (hx6.below.mono hb5.size)
     have hb26:=hb24.out.trans (hb46.mono hb24.out.size)
     have hb06:=hb04.out.trans (hb46.mono hb04.out.size)
     replace hsX:=hsX.ext hx6.below
     have qy:=qY.out _ _ hb06 hsX
     have g0:(w5.alloc (.cells #[.int .i64 n,.slice bX XL.length cX] 24)).cell? ⟨w5.heap.size,0,none⟩ = some (.int .i64 n):=by rw [World.cell?,hn6];rfl
     have g1:(w5.alloc (.cells #[.int .i64 n,.slice bX XL.length cX] 24)).cell? ⟨w5.heap.size,1,none⟩ = some (.slice bX XL.length cX):=by rw [World.cell?,hn6];rfl
     clear p0 p1 p2 p3
     obtain ⟨-,-,⟨p4,p5⟩,-⟩:=hbx.out _ hb26
     replace hb26:=Lib.hid hb26
     replace hb06:=Lib.hid hb06
     clear qx hoX hRX hb5 hx6 hn6 hb46 hb24 hb04 hsX qY
     go_wp2_with fail
     generalize (w5.alloc (.cells #[.int .i64 n,.slice bX XL.length cX] 24)) = w6 at *
     clear g0 g1 p4 p5
     refine qy.mono ?_
     rintro e w6' ⟨vY,uy,rfl,hoY,hRY,hb6⟩
     have hsY:=nodes_slC hoY hRY
     obtain ⟨bY,cY,rfl⟩:∃ b c,vY = .slice b YL.length c:=own_shape hoY
     have hx7:=(Ext.refl w6').alloc (.cells #[.int .i64 n,.slice bY YL.length cY] 24)
     have hn7:=heap_alloc_new w6' (.cells #[.int .i64 n,.slice bY YL.length cY] 24)
     have hb67:=hb6.trans (hx7.below.mono hb6.size)
     have hb27:=hb26.out.trans (hb67.mono hb26.out.size)
     have hb07:=Lib.hid (hb06.out.trans (hb67.mono hb06.out.size))
     replace hsY:=Lib.hid (hsY.ext hx7.below)
     have hS7:Hid (∀ V,Below (w6'.alloc (.cells #[.int .i64 n,.slice bY YL.length cY] 24)).heap.size (w6'.alloc (.cells #[.int .i64 n,.slice bY YL.length cY] 24)) V→(V.cell? ⟨w.heap.size,0,none⟩ = some (.int .i64 n)∧V.cell? ⟨w.heap.size,1,none⟩ = some (.slice ba nl.length cp))∧(V.cell? ⟨w.heap.size+1,0,none⟩ = some (.int .u64 (lo s))∧V.cell? ⟨w.heap.size+1,1,none⟩ = some (.int .u64 (hi s)))∧(V.cell? ⟨w.heap.size+1+1,0,none⟩ = some (.int .u64 (lo t))∧V.cell? ⟨w.heap.size+1+1,1,none⟩ = some (.int .u64 (hi t)))∧(V.cell? ⟨w.heap.size+1+1+1,0,none⟩ = some (.int .u64 (lo a))∧V.cell? ⟨w.heap.size+1+1+1,1,none⟩ = some (.int .u64 (hi a)))):=Lib.hid fun V hV=>hbx.out V (hb27.trans (hV.mono hb27.size))
     replace hn7:=Lib.hid hn7
     clear qy hoY hRY hb6 hx7 hb67 hb27 hb26 hb06
     obtain ⟨yb,hyb⟩:∃ x,x = w6'.heap.size:=⟨_,rfl⟩
     obtain ⟨w7,hw7⟩:∃ x,x = (w6'.alloc (.cells #[.int .i64 n,.slice bY YL.length cY] 24)):=⟨_,rfl⟩
     rw [←hw7] at hn7 hb07 hsY hS7
     rw [←hyb] at hn7
     have qZ:Hid (∀ V,Below w7.heap.size w7 V→_):=Lib.hid fun V hV=>qZ0.out V (hb07.out.trans (hV.mono hb07.out.size))
     have hu':=Lib.hid (And.intro hyb hw7)
     clear qZ0
     obtain ⟨⟨p0,p1⟩,⟨p2,p3⟩,⟨p4,p5⟩,-⟩:=hS7.out w7 (Below.refl _ _)
     rw [hw7] at p0 p1 p2 p3 p4 p5
     clear hyb hw7
     go_upto_region 5 with fail
     rw [←hu'.out.1,←hu'.out.2]
     clear p0 p1 p2 p3 p4 p5 hu'
     have hE:Hid (Below w7.heap.size w7 w7.drew):=Lib.hid (Below.refl _ _).drew
     go_cut [13,14] from 38 to 45 (fun s13 s14 wx=>∃ (ob:Nat) (bB:Option Addr) (cB:Nat),s13 = .pointer (some ⟨ob,0,none⟩)∧s14 = .int .i64 0∧Hid (Below w7.heap.size w7 wx∧wx.heap[ob]? = some (.cells #[.int .i64 n,.slice bB ZL.length cB] 24)∧SlC wx (.slice bB ZL.length cB) (ZL.map L.ofND)))
     case first =>
      obtain ⟨⟨p0,p1⟩,⟨p2,p3⟩,⟨p4,p5⟩,-⟩:=hS7.out w7 (Below.refl _ _)
      have hS:Hid (∀ V,Below w7.heap.size w7 V→(V.cell? ⟨w.heap.size,0,none⟩ = some (.int .i64 n)∧V.cell? ⟨w.heap.size,1,none⟩ = some (.slice ba nl.length cp))∧(V.cell? ⟨w.heap.size+1,0,none⟩ = some (.int .u64 (lo s))∧V.cell? ⟨w.heap.size+1,1,none⟩ = some (.int .u64 (hi s)))∧(V.cell? ⟨w.heap.size+1+1,0,none⟩ = some (.int .u64 (lo t))∧V.cell? ⟨w.heap.size+1+1,1,none⟩ = some (.int .u64 (hi t)))):=Lib.hid fun V hV=>⟨(hS7.out V hV).1,(hS7.out V hV).2.1,(hS7.out V hV).2.2.1⟩
      (refine wp_region_held_drew (S:=(fun V=>(V.cell? ⟨w.heap.size,0,none⟩ = some (.int .i64 n)∧V.cell? ⟨w.heap.size,1,none⟩ = some (.slice ba nl.length cp))∧(V.cell? ⟨w.heap.size+1,0,none⟩ = some (.int .u64 (lo s))∧V.cell? ⟨w.heap.size+1,1,none⟩ = some (.int .u64 (hi s)))∧(V.cell? ⟨w.heap.size+1+1,0,none⟩ = some (.int .u64 (lo t))∧V.cell? ⟨w.heap.size+1+1,1,none⟩ = some (.int .u64 (hi t))))) (by kernel_rfl) ?_ (fun hHeld=>?_))
      ·exact hS.out _ hE.out
      clear p0 p1 p2 p3 p4 p5
      generalize w7.drew = wd at *
      (refine takeL (i:=0) (v:=?_) rfl (by kernel_rfl) (by kernel_rfl) (by kernel_rfl) (fun _ _ _ h=>h) (Or.inl ⟨by rfl,?_⟩) (by assumption) ?_)
      rotate_left
      ·(intro w hSw;(try dsimp only at hSw);go_simp;first | done | with_reducible rfl)
      (try simp only [Act.put,List.setIfInBounds_toArray,List.set_cons_zero,List.set_cons_succ])
      (refine takeL (i:=1) (v:=?_) rfl (by kernel_rfl) (by kernel_rfl) (by kernel_rfl) (fun _ _ _ h=>h) (Or.inl ⟨by rfl,?_⟩) (by assumption) ?_)
      rotate_left
      ·(intro w hSw;(try dsimp only at hSw);go_simp;first | done | with_reducible rfl)
      (try simp only [Act.put,List.setIfInBounds_toArray,List.set_cons_zero,List.set_cons_succ])
      (refine takeL (i:=2) (v:=?_) rfl (by kernel_rfl) (by kernel_rfl) (by kernel_rfl) (fun _ _ _ h=>h) (Or.inl ⟨by rfl,?_⟩) (by assumption) ?_)
      rotate_left
      ·(intro w hSw;(try dsimp only at hSw);go_simp;first | done | with_reducible rfl)
      (try simp only [Act.put,List.setIfInBounds_toArray,List.set_cons_zero,List.set_cons_succ])
      refine wpAnyH_ready (rs:=[3,8]) (by kernel_rfl) (by simp) ?_
      refine consL2 rfl rfl (fun K hK=>?_) (fun K hK=>?_)
      ·(rw [if_pos (by rfl)])
       go_simp
       (go_at_call 21);refine (union_agg' s t _).mono ?_
       rintro e wv ⟨rfl,hbx⟩
       have hbv:=hbx.below
       replace hE:=Lib.hid (hE.out.trans (hbv.mono hE.out.size))
       refine hK.out _ _ (hS.out _ hE.out) (fun hHeld=>?_)
       clear hbv
       (clear hK K)
       (try simp only [Act.put,List.setIfInBounds_toArray,List.set_cons_zero,List.set_cons_succ])
       refine wpAnyH_ready (rs:=[4,8]) (by kernel_rfl) (by simp) ?_
       refine consL2 rfl rfl (fun K hK=>?_) (fun K hK=>?_)
       ·(rw [if_pos (by rfl)])
        go_simp
        (go_at_call 17);refine (qZ.out _ hE.out).mono ?_
        rintro e wv ⟨vB,ub,rfl,hoB,hRB,hbv⟩
        replace hoB:=Lib.hid (own_weak hoB hE.out.size)
        replace hRB:=Lib.hid (hRB.weak hE.out.size)
        obtain ⟨bB,cB,rfl⟩:∃ b c,vB = .slice b ZL.length c:=own_shape hoB.out
        replace hE:=Lib.hid (hE.out.trans (hbv.mono hE.out.size))
        refine hK.out _ _ (hS.out _ hE.out) (fun hHeld=>?_)
        clear hbv
        (clear hK K)
        (try simp only [Act.put,List.setIfInBounds_toArray,List.set_cons_zero,List.set_cons_succ])
        (refine takeL (i:=5) (v:=?_) rfl (by kernel_rfl) (by kernel_rfl) (by kernel_rfl) (fun _ _ _ h=>h) (Or.inl ⟨by rfl,?_⟩) (by assumption) ?_)
        rotate_left
        ·(intro w hSw;(try dsimp only at hSw);go_simp;first | done | with_reducible rfl)
        (try simp only [Act.put,List.setIfInBounds_toArray,List.set_cons_zero,List.set_cons_succ])
        (refine takeL (i:=6) (v:=?_) rfl (by kernel_rfl) (by kernel_rfl) (by kernel_rfl) (fun _ _ _ h=>h) (Or.inl ⟨by rfl,?_⟩) (by assumption) ?_)
        rotate_left
        ·(intro w hSw;(try dsimp only at hSw);go_simp;first | done | with_reducible rfl)
        (try simp only [Act.put,List.setIfInBounds_toArray,List.set_cons_zero,List.set_cons_succ])
        (refine takeL (i:=7) (v:=?_) rfl (by kernel_rfl) (by kernel_rfl) (by kernel_rfl) (fun _ _ _ h=>h) (Or.inl ⟨by rfl,?_⟩) (by assumption) ?_)
        rotate_left
        ·(intro w hSw;(try dsimp only at hSw);go_simp;first | done | with_reducible rfl)
        (try simp only [Act.put,List.setIfInBounds_toArray,List.set_cons_zero,List.set_cons_succ])
        refine wpAnyH_ready (rs:=[8]) (by kernel_rfl) (by simp) ?_
        refine consL rfl (fun K hK=>?_)
        (rw [if_pos (by rfl)])
        go_simp
        obtain ⟨ob,wv,hx',hW,hE2,hob,hobl,hbv⟩:=belAllocE hE.out (.cells #[.int .i64 0,.slice none 0 0] 24)
        replace hoB:=Lib.hid (ownsRow_keep hoB.out fun g c h=>hbv.block g (Array.getElem?_eq_some_iff.1 h).1)
        replace hRB:=Lib.hid (hRB.out.keep fun g c h=>hbv.block g (Array.getElem?_eq_some_iff.1 h).1)
        rw [←hW,←hx']
        replace hob:=Lib.hid hob
        replace hE:=Lib.hid hE2
        replace hx':=Lib.hid hx'
        replace hW:=Lib.hid hW
        refine hK.out _ _ (hS.out _ hE.out) (fun hHeld=>?_)
        clear hE2 hbv hx' hW
        (clear hK K)
        (try simp only [Act.put,List.setIfInBounds_toArray,List.set_cons_zero,List.set_cons_succ])
        obtain ⟨⟨z0,z1⟩,y0,y1⟩:=zbox hob.out
        obtain ⟨hF1,hF2,hF3,hF4⟩:=netStore hE.out hobl hob.out hoB.out hRB.out
        replace hF1:=Lib.hid hF1
        replace hF2:=Lib.hid hF2
        replace hF3:=Lib.hid hF3
        replace hF4:=Lib.hid hF4
        (refine wpAnyH_ready (rs:=[9]) (by kernel_rfl) (by simp) ?_)
        (refine consL rfl (fun K hK=>?_))
        ((rw [if_pos (by rfl)]);go_simp;refine hK.out _ _ (hS.out _ hF4.out) (fun hHeld=>?_))
        (clear hK K)
        (try simp only [Act.put,List.setIfInBounds_toArray,List.set_cons_zero,List.set_cons_succ])
        (refine takeL (i:=10) (v:=?_) rfl (by kernel_rfl) (by kernel_rfl) (by kernel_rfl) (fun _ _ _ h=>h) (Or.inl ⟨by rfl,?_⟩) (by assumption) ?_)
        rotate_left
        ·(intro w hSw;(try dsimp only at hSw);go_simp;first | done | with_reducible rfl)
        (try simp only [Act.put,List.setIfInBounds_toArray,List.set_cons_zero,List.set_cons_succ])
        (refine wpAnyH_done (by kernel_rfl) ?_ _)
        go_wp2_with fail
        go_meet
        exact ⟨ob,bB,cB,rfl,rfl,Lib.hid ⟨hF4.out,hF1.out,nodes_slC hF2.out hF3.out⟩⟩
       ·(rw [if_pos (by rfl)])
        go_simp
        obtain ⟨ob,wv,hx',hW,hE2,hob,hobl,hbv⟩:=belAllocE hE.out (.cells #[.int .i64 0,.slice none 0 0] 24)
        rw [←hW,←hx']
        replace hob:=Lib.hid hob
        replace hE:=Lib.hid hE2
        replace hx':=Lib.hid hx'
        replace hW:=Lib.hid hW
        refine hK.out _ _ (hS.out _ hE.out) (fun hHeld=>?_)
        clear hE2 hbv hx' hW
        (clear hK K)
        (try simp only [Act.put,List.setIfInBounds_toArray,List.set_cons_zero,List.set_cons_succ])
        refine wpAnyH_ready (rs:=[4]) (by kernel_rfl) (by simp) ?_
        refine consL rfl (fun K hK=>?_)
        (rw [if_pos (by rfl)])
        go_simp
        (go_at_call 17);refine (qZ.out _ hE.out).mono ?_
        rintro e wv ⟨vB,ub,rfl,hoB,hRB,hbv⟩
        replace hoB:=Lib.hid (own_weak hoB hE.out.size)
        replace hRB:=Lib.hid (hRB.weak hE.out.size)
        obtain ⟨bB,cB,rfl⟩:∃ b c,vB = .slice b ZL.length c:=own_shape hoB.out
        replace hob:=Lib.hid ((hbv.block _ (Array.getElem?_eq_some_iff.1 hob.out).1).trans hob.out)
        replace hE:=Lib.hid (hE.out.trans (hbv.mono hE.out.size))
        refine hK.out _ _ (hS.out _ hE.out) (fun hHeld=>?_)
        clear hbv
        (clear hK K)
        (try simp only [Act.put,List.setIfInBounds_toArray,List.set_cons_zero,List.set_cons_succ])
        (refine takeL (i:=5) (v:=?_) rfl (by kernel_rfl) (by kernel_rfl) (by kernel_rfl) (fun _ _ _ h=>h) (Or.inl ⟨by rfl,?_⟩) (by assumption) ?_)
        rotate_left
        ·(intro w hSw;(try dsimp only at hSw);go_simp;first | done | with_reducible rfl)
        (try simp only [Act.put,List.setIfInBounds_toArray,List.set_cons_zero,List.set_cons_succ])
        (refine takeL (i:=6) (v:=?_) rfl (by kernel_rfl) (by kernel_rfl) (by kernel_rfl) (fun _ _ _ h=>h) (Or.inl ⟨by rfl,?_⟩) (by assumption) ?_)
        rotate_left
        ·(intro w hSw;(try dsimp only at hSw);go_simp;first | done | with_reducible rfl)
        (try simp only [Act.put,List.setIfInBounds_toArray,List.set_cons_zero,List.set_cons_succ])
        (refine takeL (i:=7) (v:=?_) rfl (by kernel_rfl) (by kernel_rfl) (by kernel_rfl) (fun _ _ _ h=>h) (Or.inl ⟨by rfl,?_⟩) (by assumption) ?_)
        rotate_left
        ·(intro w hSw;(try dsimp only at hSw);go_simp;first | done | with_reducible rfl)
        (try simp only [Act.put,List.setIfInBounds_toArray,List.set_cons_zero,List.set_cons_succ])
        obtain ⟨⟨z0,z1⟩,y0,y1⟩:=zbox hob.out
        obtain ⟨hF1,hF2,hF3,hF4⟩:=netStore hE.out hobl hob.out hoB.out hRB.out
        replace hF1:=Lib.hid hF1
        replace hF2:=Lib.hid hF2
        replace hF3:=Lib.hid hF3
        replace hF4:=Lib.hid hF4
        (refine wpAnyH_ready (rs:=[9]) (by kernel_rfl) (by simp) ?_)
        (refine consL rfl (fun K hK=>?_))
        ((rw [if_pos (by rfl)]);go_simp;refine hK.out _ _ (hS.out _ hF4.out) (fun hHeld=>?_))
        (clear hK K)
        (try simp only [Act.put,List.setIfInBounds_toArray,List.set_cons_zero,List.set_cons_succ])
        (refine takeL (i:=10) (v:=?_) rfl (by kernel_rfl) (by kernel_rfl) (by kernel_rfl) (fun _ _ _ h=>h) (Or.inl ⟨by rfl,?_⟩) (by assumption) ?_)
        rotate_left
        ·(intro w hSw;(try dsimp only at hSw);go_simp;first | done | with_reducible rfl)
        (try simp only [Act.put,List.setIfInBounds_toArray,List.set_cons_zero,List.set_cons_succ])
        (refine wpAnyH_done (by kernel_rfl) ?_ _)
        go_wp2_with fail
        go_meet
        exact ⟨ob,bB,cB,rfl,rfl,Lib.hid ⟨hF4.out,hF1.out,nodes_slC hF2.out hF3.out⟩⟩
      ·(rw [if_pos (by rfl)])
       go_simp
       obtain ⟨ob,wv,hx',hW,hE2,hob,hobl,hbv⟩:=belAllocE hE.out (.cells #[.int .i64 0,.slice none 0 0] 24)
       rw [←hW,←hx']
       replace hob:=Lib.hid hob
       replace hE:=Lib.hid hE2
       replace hx':=Lib.hid hx'
       replace hW:=Lib.hid hW
       refine hK.out _ _ (hS.out _ hE.out) (fun hHeld=>?_)
       clear hE2 hbv hx' hW
       (clear hK K)
       (try simp only [Act.put,List.setIfInBounds_toArray,List.set_cons_zero,List.set_cons_succ])
       refine wpAnyH_ready (rs:=[3]) (by kernel_rfl) (by simp) ?_
       refine consL rfl (fun K hK=>?_)
       (rw [if_pos (by rfl)])
       go_simp
       (go_at_call 21);refine (union_agg' s t _).mono ?_
       rintro e wv ⟨rfl,hbx⟩
       have hbv:=hbx.below
       replace hob:=Lib.hid ((hbv.block _ (Array.getElem?_eq_some_iff.1 hob.out).1).trans hob.out)
       replace hE:=Lib.hid (hE.out.trans (hbv.mono hE.out.size))
       refine hK.out _ _ (hS.out _ hE.out) (fun hHeld=>?_)
       clear hbv
       (clear hK K)
       (try simp only [Act.put,List.setIfInBounds_toArray,List.set_cons_zero,List.set_cons_succ])
       refine wpAnyH_ready (rs:=[4]) (by kernel_rfl) (by simp) ?_
       refine consL rfl (fun K hK=>?_)
       (rw [if_pos (by rfl)])
       go_simp
       (go_at_call 17);refine (qZ.out _ hE.out).mono ?_
       rintro e wv ⟨vB,ub,rfl,hoB,hRB,hbv⟩
       replace hoB:=Lib.hid (own_weak hoB hE.out.size)
       replace hRB:=Lib.hid (hRB.weak hE.out.size)
       obtain ⟨bB,cB,rfl⟩:∃ b c,vB = .slice b ZL.length c:=own_shape hoB.out
       replace hob:=Lib.hid ((hbv.block _ (Array.getElem?_eq_some_iff.1 hob.out).1).trans hob.out)
       replace hE:=Lib.hid (hE.out.trans (hbv.mono hE.out.size))
       refine hK.out _ _ (hS.out _ hE.out) (fun hHeld=>?_)
       clear hbv
       (clear hK K)
       (try simp only [Act.put,List.setIfInBounds_toArray,List.set_cons_zero,List.set_cons_succ])
       (refine takeL (i:=5) (v:=?_) rfl (by kernel_rfl) (by kernel_rfl) (by kernel_rfl) (fun _ _ _ h=>h) (Or.inl ⟨by rfl,?_⟩) (by assumption) ?_)
       rotate_left
       ·(intro w hSw;(try dsimp only at hSw);go_simp;first | done | with_reducible rfl)
       (try simp only [Act.put,List.setIfInBounds_toArray,List.set_cons_zero,List.set_cons_succ])
       (refine takeL (i:=6) (v:=?_) rfl (by kernel_rfl) (by kernel_rfl) (by kernel_rfl) (fun _ _ _ h=>h) (Or.inl ⟨by rfl,?_⟩) (by assumption) ?_)
       rotate_left
       ·(intro w hSw;(try dsimp only at hSw);go_simp;first | done | with_reducible rfl)
       (try simp only [Act.put,List.setIfInBounds_toArray,List.set_cons_zero,List.set_cons_succ])
       (refine takeL (i:=7) (v:=?_) rfl (by kernel_rfl) (by kernel_rfl) (by kernel_rfl) (fun _ _ _ h=>h) (Or.inl ⟨by rfl,?_⟩) (by assumption) ?_)
       rotate_left
       ·(intro w hSw;(try dsimp only at hSw);go_simp;first | done | with_reducible rfl)
       (try simp only [Act.put,List.setIfInBounds_toArray,List.set_cons_zero,List.set_cons_succ])
       obtain ⟨⟨z0,z1⟩,y0,y1⟩:=zbox hob.out
       obtain ⟨hF1,hF2,hF3,hF4⟩:=netStore hE.out hobl hob.out hoB.out hRB.out
       replace hF1:=Lib.hid hF1
       replace hF2:=Lib.hid hF2
       replace hF3:=Lib.hid hF3
       replace hF4:=Lib.hid hF4
       (refine wpAnyH_ready (rs:=[9]) (by kernel_rfl) (by simp) ?_)
       (refine consL rfl (fun K hK=>?_))
       ((rw [if_pos (by rfl)]);go_simp;refine hK.out _ _ (hS.out _ hF4.out) (fun hHeld=>?_))
       (clear hK K)
       (try simp only [Act.put,List.setIfInBounds_toArray,List.set_cons_zero,List.set_cons_succ])
       (refine takeL (i:=10) (v:=?_) rfl (by kernel_rfl) (by kernel_rfl) (by kernel_rfl) (fun _ _ _ h=>h) (Or.inl ⟨by rfl,?_⟩) (by assumption) ?_)
       rotate_left
       ·(intro w hSw;(try dsimp only at hSw);go_simp;first | done | with_reducible rfl)
       (try simp only [Act.put,List.setIfInBounds_toArray,List.set_cons_zero,List.set_cons_succ])
       (refine wpAnyH_done (by kernel_rfl) ?_ _)
       go_wp2_with fail
       go_meet
       exact ⟨ob,bB,cB,rfl,rfl,Lib.hid ⟨hF4.out,hF1.out,nodes_slC hF2.out hF3.out⟩⟩
     case rest =>
      obtain ⟨ob,bB,cB,rfl,rfl,hR9⟩:=hcut
      obtain ⟨hb9,hob9,hsB9⟩:=hR9.out
      obtain ⟨⟨p0,p1⟩,-,-,-⟩:=hS7.out _ hb9
      have hb09:=hb07.out.trans (hb9.mono hb07.out.size)
      have qn:=qN.out _ hb09
      replace hb9:=Lib.hid hb9
      replace hob9:=Lib.hid hob9
      replace hsB9:=Lib.hid hsB9
      replace hb09:=Lib.hid hb09
      clear hR9 qN qZ
      go_wp2_with fail
      refine qn.mono ?_
      rintro e w10 ⟨vN,un,rfl,hoN,hRN,hb10⟩
      have hsN:=nodes_slC hoN hRN
      obtain ⟨bN,cN,rfl⟩:∃ b c,vN = .slice b NL.length c:=own_shape hoN
      have hx11:=(Ext.refl w10).alloc (.cells #[.int .i64 n,.slice bN NL.length cN] 24)
      have hn11:=heap_alloc_new w10 (.cells #[.int .i64 n,.slice bN NL.length cN] 24)
      have hb911:=hb10.trans (hx11.below.mono hb10.size)
      have hb711:=hb9.out.trans (hb911.mono hb9.out.size)
      have hb011:=Lib.hid (hb09.out.trans (hb911.mono hb09.out.size))
      have hob11:=(hb911.block _ (Array.getElem?_eq_some_iff.1 hob9.out).1).trans hob9.out
      have hyb11:=(hb711.block _ (Array.getElem?_eq_some_iff.1 hn7.out).1).trans hn7.out
      replace hsN:=Lib.hid (hsN.ext hx11.below)
      have hsB:=Lib.hid (hsB9.out.ext hb911)
      have hsYY:=Lib.hid (hsY.out.ext hb711)
      replace hb711:=Lib.hid hb711
      replace hn11:=Lib.hid hn11
      replace hob11:=Lib.hid hob11
      replace hyb11:=Lib.hid hyb11
      clear qn hoN hRN hb10 hx11 hb911 hob9 hsB9 hb9 hb09 p0 p1 hsY hn7
      go_upto_region 9 with fail
      obtain ⟨nb,hnb⟩:∃ x,x = w10.heap.size:=⟨_,rfl⟩
      obtain ⟨w11,hw11⟩:∃ x,x = w10.alloc (.cells #[.int .i64 n,.slice bN NL.length cN] 24):=⟨_,rfl⟩
      rw [←hw11] at hb711 hb011 hob11 hyb11 hsN hsB hsYY hn11 ⊢
      rw [←hnb] at hn11 ⊢
      clear hw11 hnb
      have hS:Hid (∀ V,Below w11.heap.size w11 V→(V.cell? ⟨yb,0,none⟩ = some (.int .i64 n)∧V.cell? ⟨yb,1,none⟩ = some (.slice bY YL.length cY))∧(V.cell? ⟨ob,0,none⟩ = some (.int .i64 n)∧V.cell? ⟨ob,1,none⟩ = some (.slice bB ZL.length cB))∧(V.cell? ⟨nb,0,none⟩ = some (.int .i64 n)∧V.cell? ⟨nb,1,none⟩ = some (.slice bN NL.length cN))∧(V.cell? ⟨w.heap.size,0,none⟩ = some (.int .i64 n)∧V.cell? ⟨w.heap.size,1,none⟩ = some (.slice ba nl.length cp))∧(V.cell? ⟨w.heap.size+1+1+1,0,none⟩ = some (.int .u64 (lo a))∧V.cell? ⟨w.heap.size+1+1+1,1,none⟩ = some (.int .u64 (hi a)))):=Lib.hid fun V hV=>by
       have f1:=(hV.block _ (Array.getElem?_eq_some_iff.1 hyb11.out).1).trans hyb11.out
       have f2:=(hV.block _ (Array.getElem?_eq_some_iff.1 hob11.out).1).trans hob11.out
       have f3:=(hV.block _ (Array.getElem?_eq_some_iff.1 hn11.out).1).trans hn11.out
       obtain ⟨h1,-,-,h4⟩:=hS7.out V (hb711.out.trans (hV.mono hb711.out.size))
       exact ⟨⟨by rw [World.cell?,f1];rfl,by rw [World.cell?,f1];rfl⟩,⟨by rw [World.cell?,f2];rfl,by rw [World.cell?,f2];rfl⟩,⟨by rw [World.cell?,f3];rfl,by rw [World.cell?,f3];rfl⟩,h1,h4⟩
      have hE:Hid (Below w11.heap.size w11 w11.drew):=Lib.hid (Below.refl _ _).drew
      (refine wp_region_held_drew (S:=(fun V=>(V.cell? ⟨yb,0,none⟩ = some (.int .i64 n)∧V.cell? ⟨yb,1,none⟩ = some (.slice bY YL.length cY))∧(V.cell? ⟨ob,0,none⟩ = some (.int .i64 n)∧V.cell? ⟨ob,1,none⟩ = some (.slice bB ZL.length cB))∧(V.cell? ⟨nb,0,none⟩ = some (.int .i64 n)∧V.cell? ⟨nb,1,none⟩ = some (.slice bN NL.length cN))∧(V.cell? ⟨w.heap.size,0,none⟩ = some (.int .i64 n)∧V.cell? ⟨w.heap.size,1,none⟩ = some (.slice ba nl.length cp))∧(V.cell? ⟨w.heap.size+1+1+1,0,none⟩ = some (.int .u64 (lo a))∧V.cell? ⟨w.heap.size+1+1+1,1,none⟩ = some (.int .u64 (hi a))))) (by kernel_rfl) ?_ (fun hHeld=>?_))
      ·exact hS.out _ hE.out
      (refine takeL (i:=0) (v:=?_) rfl (by kernel_rfl) (by kernel_rfl) (by kernel_rfl) (fun _ _ _ h=>h) (Or.inl ⟨by rfl,?_⟩) (by assumption) ?_)
      rotate_left
      ·(intro w hSw;(try dsimp only at hSw);go_simp;first | done | with_reducible rfl)
      (try simp only [Act.put,List.setIfInBounds_toArray,List.set_cons_zero,List.set_cons_succ])
      (refine takeL (i:=1) (v:=?_) rfl (by kernel_rfl) (by kernel_rfl) (by kernel_rfl) (fun _ _ _ h=>h) (Or.inl ⟨by rfl,?_⟩) (by assumption) ?_)
      rotate_left
      ·(intro w hSw;(try dsimp only at hSw);go_simp;first | done | with_reducible rfl)
      (try simp only [Act.put,List.setIfInBounds_toArray,List.set_cons_zero,List.set_cons_succ])
      (refine takeL (i:=3) (v:=?_) rfl (by kernel_rfl) (by kernel_rfl) (by kernel_rfl) (fun _ _ _ h=>h) (Or.inl ⟨by rfl,?_⟩) (by assumption) ?_)
      rotate_left
      ·(intro w hSw;(try dsimp only at hSw);go_simp;first | done | with_reducible rfl)
      (try simp only [Act.put,List.setIfInBounds_toArray,List.set_cons_zero,List.set_cons_succ])
      (refine takeL (i:=4) (v:=?_) rfl (by kernel_rfl) (by kernel_rfl) (by kernel_rfl) (fun _ _ _ h=>h) (Or.inl ⟨by rfl,?_⟩) (by assumption) ?_)
      rotate_left
      ·(intro w hSw;(try dsimp only at hSw);go_simp;first | done | with_reducible rfl)
      (try simp only [Act.put,List.setIfInBounds_toArray,List.set_cons_zero,List.set_cons_succ])
      (refine wpAnyH_ready (rs:=[2]) (by kernel_rfl) (by simp) ?_)
      (refine consL rfl (fun K hK=>?_))
      ((rw [if_pos (by rfl)]);go_simp;(go_at_call 19);refine (qE1.out _ _ (hsYY.out.ext hE.out)).mono ?_;rintro e wv ⟨rfl,hbv⟩;replace hE:=Lib.hid (hE.out.trans (hbv.mono hE.out.size));refine hK.out _ _ (hS.out _ hE.out) (fun hHeld=>?_);clear hbv)
      (clear hK K)
      (try simp only [Act.put,List.setIfInBounds_toArray,List.set_cons_zero,List.set_cons_succ])
      (refine wpAnyH_ready (rs:=[5]) (by kernel_rfl) (by simp) ?_)
      (refine consL rfl (fun K hK=>?_))
      ((rw [if_pos (by rfl)]);go_simp;(go_at_call 19);refine (qE2.out _ _ (hsB.out.ext hE.out)).mono ?_;rintro e wv ⟨rfl,hbv⟩;replace hE:=Lib.hid (hE.out.trans (hbv.mono hE.out.size));refine hK.out _ _ (hS.out _ hE.out) (fun hHeld=>?_);clear hbv)
      (clear hK K)
      (try simp only [Act.put,List.setIfInBounds_toArray,List.set_cons_zero,List.set_cons_succ])
      (refine takeL (i:=6) (v:=?_) rfl (by kernel_rfl) (by kernel_rfl) (by kernel_rfl) (fun _ _ _ h=>h) (Or.inl ⟨by rfl,?_⟩) (by assumption) ?_)
      rotate_left
      ·(intro w hSw;(try dsimp only at hSw);go_simp;first | done | with_reducible rfl)
      (try simp only [Act.put,List.setIfInBounds_toArray,List.set_cons_zero,List.set_cons_succ])
      (refine takeL (i:=7) (v:=?_) rfl (by kernel_rfl) (by kernel_rfl) (by kernel_rfl) (fun _ _ _ h=>h) (Or.inl ⟨by rfl,?_⟩) (by assumption) ?_)
      rotate_left
      ·(intro w hSw;(try dsimp only at hSw);go_simp;first | done | with_reducible rfl)
      (try simp only [Act.put,List.setIfInBounds_toArray,List.set_cons_zero,List.set_cons_succ])
      (refine takeL (i:=8) (v:=?_) rfl (by kernel_rfl) (by kernel_rfl) (by kernel_rfl) (fun _ _ _ h=>h) (Or.inl ⟨by rfl,?_⟩) (by assumption) ?_)
      rotate_left
      ·(intro w hSw;(try dsimp only at hSw);go_simp;first | done | with_reducible rfl)
      (try simp only [Act.put,List.setIfInBounds_toArray,List.set_cons_zero,List.set_cons_succ])
      (refine takeL (i:=9) (v:=?_) rfl (by kernel_rfl) (by kernel_rfl) (by kernel_rfl) (fun _ _ _ h=>h) (Or.inl ⟨by rfl,?_⟩) (by assumption) ?_)
      rotate_left
      ·(intro w hSw;(try dsimp only at hSw);go_simp;first | done | with_reducible rfl)
      (try simp only [Act.put,List.setIfInBounds_toArray,List.set_cons_zero,List.set_cons_succ])
      (refine takeL (i:=11) (v:=?_) rfl (by kernel_rfl) (by kernel_rfl) (by kernel_rfl) (fun _ _ _ h=>h) (Or.inl ⟨by rfl,?_⟩) (by assumption) ?_)
      rotate_left
      ·(intro w hSw;(try dsimp only at hSw);go_simp;first | done | with_reducible rfl)
      (try simp only [Act.put,List.setIfInBounds_toArray,List.set_cons_zero,List.set_cons_succ])
      (refine takeL (i:=12) (v:=?_) rfl (by kernel_rfl) (by kernel_rfl) (by kernel_rfl) (fun _ _ _ h=>h) (Or.inl ⟨by rfl,?_⟩) (by assumption) ?_)
      rotate_left
      ·(intro w hSw;(try dsimp only at hSw);go_simp;first | done | with_reducible rfl)
      (try simp only [Act.put,List.setIfInBounds_toArray,List.set_cons_zero,List.set_cons_succ])
      (refine wpAnyH_ready (rs:=[10]) (by kernel_rfl) (by simp) ?_)
      (refine consL rfl (fun K hK=>?_))
      ((rw [if_pos (by rfl)]);go_simp;(go_at_call 19);refine (qE3.out _ _ (hsN.out.ext hE.out)).mono ?_;rintro e wv ⟨rfl,hbv⟩;replace hE:=Lib.hid (hE.out.trans (hbv.mono hE.out.size));refine hK.out _ _ (hS.out _ hE.out) (fun hHeld=>?_);clear hbv)
      (clear hK K)
      (try simp only [Act.put,List.setIfInBounds_toArray,List.set_cons_zero,List.set_cons_succ])
      (refine wpAnyH_ready (rs:=[13]) (by kernel_rfl) (by simp) ?_)
      (refine consL rfl (fun K hK=>?_))
      ((rw [if_pos (by rfl)]);go_simp;(go_at_call 19);refine (qE4.out _ (hb011.out.trans (hE.out.mono hb011.out.size))).mono ?_;rintro e wv ⟨rfl,hbv⟩;replace hE:=Lib.hid (hE.out.trans (hbv.mono hE.out.size));refine hK.out _ _ (hS.out _ hE.out) (fun hHeld=>?_);clear hbv)
      (clear hK K)
      (try simp only [Act.put,List.setIfInBounds_toArray,List.set_cons_zero,List.set_cons_succ])
      (refine takeL (i:=14) (v:=?_) rfl (by kernel_rfl) (by kernel_rfl) (by kernel_rfl) (fun _ _ _ h=>h) (Or.inl ⟨by rfl,?_⟩) (by assumption) ?_)
      rotate_left
      ·(intro w hSw;(try dsimp only at hSw);go_simp;first | done | with_reducible rfl)
      (try simp only [Act.put,List.setIfInBounds_toArray,List.set_cons_zero,List.set_cons_succ])
      (refine takeL (i:=15) (v:=?_) rfl (by kernel_rfl) (by kernel_rfl) (by kernel_rfl) (fun _ _ _ h=>h) (Or.inl ⟨by rfl,?_⟩) (by assumption) ?_)
      rotate_left
      ·(intro w hSw;(try dsimp only at hSw);go_simp;first | done | with_reducible rfl)
      (try simp only [Act.put,List.setIfInBounds_toArray,List.set_cons_zero,List.set_cons_succ])
      (refine takeL (i:=16) (v:=?_) rfl (by kernel_rfl) (by kernel_rfl) (by kernel_rfl) (fun _ _ _ h=>h) (Or.inl ⟨by rfl,?_⟩) (by assumption) ?_)
      rotate_left
      ·(intro w hSw;(try dsimp only at hSw);go_simp;first | done | with_reducible rfl)
      (try simp only [Act.put,List.setIfInBounds_toArray,List.set_cons_zero,List.set_cons_succ])
      (refine wpAnyH_ready (rs:=[17]) (by kernel_rfl) (by simp) ?_)
      (refine consL rfl (fun K hK=>?_))
      ((rw [if_pos (by rfl)]);go_simp;(go_at_call 11);refine (hw.out _ (hb011.out.trans (hE.out.mono hb011.out.size))).mono ?_;rintro e wv ⟨rfl,hbv⟩;replace hE:=Lib.hid (hE.out.trans (hbv.mono hE.out.size));refine hK.out _ _ (hS.out _ hE.out) (fun hHeld=>?_);clear hbv)
      (clear hK K)
      (try simp only [Act.put,List.setIfInBounds_toArray,List.set_cons_zero,List.set_cons_succ])
      (refine takeL (i:=18) (v:=?_) rfl (by kernel_rfl) (by kernel_rfl) (by kernel_rfl) (fun _ _ _ h=>h) (Or.inl ⟨by rfl,?_⟩) (by assumption) ?_)
      rotate_left
      ·(intro w hSw;(try dsimp only at hSw);go_simp;first | done | with_reducible rfl)
      (try simp only [Act.put,List.setIfInBounds_toArray,List.set_cons_zero,List.set_cons_succ])
      (refine takeL (i:=19) (v:=?_) rfl (by kernel_rfl) (by kernel_rfl) (by kernel_rfl) (fun _ _ _ h=>h) (Or.inl ⟨by rfl,?_⟩) (by assumption) ?_)
      rotate_left
      ·(intro w hSw;(try dsimp only at hSw);go_simp;first | done | with_reducible rfl)
      (try simp only [Act.put,List.setIfInBounds_toArray,List.set_cons_zero,List.set_cons_succ])
      (refine wpAnyH_done (by kernel_rfl) ?_ _)
      clear hHeld
      go_wp2_with fail
      go_ret
      exact ⟨rfl,hb011.out.trans (hE.out.mono hb011.out.size)⟩
theorem condall_card {n:Int} {C:List L.Gt} {x0 x1 y0 y1 z0 z1:Int} {u:Value} (w:World) (hP:PowTab w) (hv:SlC w u C∧C.length≤9223372036854775807∧(-9223372036854775808≤n∧n≤9223372036854775807)) (hx:(0≤x0∧x0≤18446744073709551615)∧(0≤x1∧x1≤18446744073709551615)) (hy:(0≤y0∧y0≤18446744073709551615)∧(0≤y1∧y1≤18446744073709551615)) (hz:(0≤z0∧z0≤18446744073709551615)∧(0≤z1∧z1≤18446744073709551615)) :
  Calls Tryz.prog 6 #[.agg #[.int .i64 n,u],.agg #[.int .u64 x0,.int .u64 x1],.agg #[.int .u64 y0,.int .u64 y1],.agg #[.int .u64 z0,.int .u64 z1]] w fun e w'=>e = .returned (.bool true)∧Below w.heap.size w w':=by
 obtain ⟨s,rfl,rfl⟩:=vset_of hx.1 hx.2
 obtain ⟨t,rfl,rfl⟩:=vset_of hy.1 hy.2
 obtain ⟨a,rfl,rfl⟩:=vset_of hz.1 hz.2
 exact condall_any w hP hv.1 hv.2.1
end Go.Proofs.YtckhohpbokojdaaGreatDoor
