import Derived.Test.YtckhohpbokojdaaGreatDoorGN41
import Derived.Test.YtckhohpbokojdaaGreatDoorGN42
import Derived.Test.YtckhohpbokojdaaGreatDoorGCj8
import Derived.Deep.CutRange
set_option linter.unusedSimpArgs false
set_option linter.unusedVariables false
namespace Go.Proofs.YtckhohpbokojdaaGreatDoor
open Go Go.RowKit Go.Shelf
theorem belAllocE {a w:World} (h:Below a.heap.size a w) (o:Obj):∃ x W',x = w.heap.size∧W' = w.alloc o∧Below a.heap.size a W'∧W'.heap[x]? = some o∧a.heap.size≤x∧Below w.heap.size w W':=⟨_,_,rfl,rfl,h.alloc h.size o,heap_alloc_new w o,h.size,(Below.refl _ w).alloc (Nat.le_refl _) o⟩
theorem own_shape {w:World} {base n size:Nat} {e:TypeId} {v:Value} {xs:List Value} (h:w.ownsRow base e size v n xs):∃ b c,v = .slice b n c:=by
 obtain ⟨_,⟨rfl,e⟩ | ⟨g,cap,cur,rfl,_⟩⟩:=h
 ·rw [e];exact ⟨_,_,rfl⟩
 ·exact ⟨_,_,rfl⟩
theorem zbox {W:World} {ob:Nat} (h:W.heap[ob]? = some (.cells #[.int .i64 0,.slice none 0 0] 24)):(W.cell? ⟨ob,0,none⟩ = some (.int .i64 0)∧W.cell? ⟨ob,1,none⟩ = some (.slice none 0 0))∧W.frozen? ⟨ob,0,none⟩ = false∧W.frozen? ⟨ob,1,none⟩ = false:=⟨⟨by rw [World.cell?,h];rfl,by rw [World.cell?,h];rfl⟩,by simp [World.frozen?,h],by simp [World.frozen?,h]⟩
theorem netStore {a W:World} {ob base len:Nat} {v0 v1 z0 z1:Value} {xs us:List Value} {T:List (List Int)} {vB:Value} (hE:Below a.heap.size a W) (hl:a.heap.size≤ob) (h:W.heap[ob]? = some (.cells #[z0,z1] 24)) (ho:W.ownsRow base 40 3 vB len xs) (hR:RowsOf W base us T) :
  ((W.setCell ⟨ob,0,none⟩ v0).setCell ⟨ob,1,none⟩ v1).heap[ob]? = some (.cells #[v0,v1] 24)∧((W.setCell ⟨ob,0,none⟩ v0).setCell ⟨ob,1,none⟩ v1).ownsRow base 40 3 vB len xs∧RowsOf ((W.setCell ⟨ob,0,none⟩ v0).setCell ⟨ob,1,none⟩ v1) base us T∧Below a.heap.size a ((W.setCell ⟨ob,0,none⟩ v0).setCell ⟨ob,1,none⟩ v1):=by
 have kk:∀ {g:Nat} {c:Array Value} {t:TypeId},W.heap[g]? = some (.cells c t (0,0))→t≠24→((W.setCell ⟨ob,0,none⟩ v0).setCell ⟨ob,1,none⟩ v1).heap[g]? = W.heap[g]?:=fun {g c t} e ht=>(Below.heap_setCell _ _ _ _ (ne_type e h ht)).trans (Below.heap_setCell _ _ _ _ (ne_type e h ht))
 exact ⟨heap_set2 h _ _,ownsRow_keep ho fun g c e=>kk e (by decide),hR.keep fun g c e=>kk e (by decide),(hE.setCell (p:=⟨ob,0,none⟩) hl _).setCell (p:=⟨ob,1,none⟩) hl _⟩
set_option maxRecDepth 100000 in
set_option maxHeartbeats 40000000 in
theorem condtwice_any {n:Int} {C:List L.Gt} {x y:List Int} {a:VSet} {v xv yv:Value} (w:World) (hP:PowTab w) (hv:SlC w v C) (hl:C.length≤9223372036854775807) (hx:SlI w xv x) (hy:SlI w yv y) :
  Calls Tryz.prog 5 #[.agg #[.int .i64 n,v],xv,yv,.agg #[.int .u64 (lo a),.int .u64 (hi a)]] w fun e w'=>e = .returned (.bool true)∧Below w.heap.size w w':=by
 have hgP:=hP.lt
 have hw:∀ W,Below w.heap.size w W→Calls Tryz.prog 11 #[] W fun e w''=>e = .returned (.bool true)∧Below W.heap.size W w'':=fun W hx=>works35_any W (hP.below hx) (Nat.lt_of_lt_of_le hgP hx.size)
 have ql:=fun (W:World) (hW:Ext w W)=>light35_any (n:=n) (hv.ext hW.below) hl
 have hvq:=hv
 have hxq:=hx
 have hyq:=hy
 obtain ⟨ba,cp,rfl,-⟩:=hv.shape
 obtain ⟨tx,cx,rfl,-⟩:=id hx
 obtain ⟨ty,cy,rfl,-⟩:=id hy
 obtain ⟨i0,hi0,hz0,hz1,hz2⟩:=info_parts int_info
 have hx2:Ext w ((w.alloc (.cells #[.int .i64 n,.slice ba C.length cp] 24)).alloc (.cells #[.int .u64 (lo a),.int .u64 (hi a)] 37)):=((Ext.refl w).alloc _).alloc _
 obtain ⟨e0,e1⟩:=alloc2h w (.cells #[.int .i64 n,.slice ba C.length cp] 24) (.cells #[.int .u64 (lo a),.int .u64 (hi a)] 37)
 obtain ⟨w2,hw2⟩:∃ x,x = ((w.alloc (.cells #[.int .i64 n,.slice ba C.length cp] 24)).alloc (.cells #[.int .u64 (lo a),.int .u64 (hi a)] 37)):=⟨_,rfl⟩
 rw [←hw2] at hx2 e0 e1
 have hbx:∀ V,Below w2.heap.size w2 V→(V.cell? ⟨w.heap.size,0,none⟩ = some (.int .i64 n)∧V.cell? ⟨w.heap.size,1,none⟩ = some (.slice ba C.length cp))∧(V.cell? ⟨w.heap.size+1,0,none⟩ = some (.int .u64 (lo a))∧V.cell? ⟨w.heap.size+1,1,none⟩ = some (.int .u64 (hi a))):=fun V hV=>by
  have f0:=(hV.block _ (Array.getElem?_eq_some_iff.1 e0).1).trans e0
  have f1:=(hV.block _ (Array.getElem?_eq_some_iff.1 e1).1).trans e1
  exact ⟨⟨by rw [World.cell?,f0];rfl,by rw [World.cell?,f0];rfl⟩,by rw [World.cell?,f1];rfl,by rw [World.cell?,f1];rfl⟩
 obtain ⟨⟨p0,p1⟩,p2,p3⟩:=hbx w2 (Below.refl _ _)
 have q1:=ql w2 hx2
 replace hw:=Lib.hid hw
 replace hvq:=Lib.hid hvq
 replace hxq:=Lib.hid hxq
 replace hyq:=Lib.hid hyq
 replace hbx:=Lib.hid hbx
 replace hx2:=Lib.hid hx2
 replace e0:=Lib.hid e0
 replace e1:=Lib.hid e1
 replace hP:=Lib.hid hP
 clear hv hx hy ql
 rw [hw2] at p0 p1 p2 p3
 cases hL:lightN C with
 | false =>
   rw [hL] at q1
   go_enter Tryz.func5,Tryz.ntmps5
   go_wp2_with fail
   rw [←hw2]
   replace hw2:=Lib.hid hw2
   refine q1.mono ?_
   rintro e w3 ⟨rfl,hx3⟩
   have hb3:=(hx2.out.trans hx3).below
   have hb23:=Lib.hid hx3.below
   clear q1 p0 p1 p2 p3 hx3
   have q:=hw.out _ hb3
   have hbq:=Lib.hid (hb3)
   go_wp2_with fail
   refine q.mono ?_
   rintro e wq ⟨rfl,hbw⟩
   clear q
   go_wp2_with fail
   go_ret
   exact ⟨rfl,hbq.out.trans (hbw.mono hbq.out.size)⟩
 | true =>
   rw [hL] at q1
   obtain ⟨hC80,hC20⟩:=light_parts hL
   replace hC20:=Lib.hid hC20
   by_cases hxl:x.length≤150
   ·have d3:decide ((x.length:Int) > 150) = false:=decide_eq_false (by omega)
    by_cases hyl:y.length≤150
    ·have d4:decide ((y.length:Int) > 150) = false:=decide_eq_false (by omega)
     by_cases hok:L.netChk n C = 0∧L.TermL n x
     ·obtain ⟨hc,hT⟩:=hok
      obtain ⟨nl,rfl,hnlC,hnli⟩:=nodes_of hc
      have hnl80:nl.length≤80:=by omega
      have hnl20:∀ y∈nl,y.inp.length≤20:=fun y hy=>by
       obtain ⟨g,hg,e⟩:=hnli y hy
       have:=hC20.out g hg
       omega
      obtain ⟨r1,r4,r5⟩:=giv_chk (x:=x) hc
      have hag:=giv_again (x:=x) hc
      have htl:=fun (hTT:L.TermL n (x++y))=>twice_law hc hTT (L.asg a)
      have hbc:=giv_chk (x:=x++y) hc
      obtain ⟨RL,hRL⟩:∃ RL,RL = L.reduceL (nl.map (L.givND x)):=⟨_,rfl⟩
      obtain ⟨BL,hBL⟩:∃ BL,BL = L.reduceL (nl.map (L.givND (x++y))):=⟨_,rfl⟩
      have qg:=fun (W:World) (hW:Below w.heap.size w W)=>given_ok (hvq.out.ext hW) hc (by omega) (fun y hy=>by have:=hnl20 y hy;omega) (hxq.out.ext hW) (by omega) hT (hP.out.below hW) (Nat.lt_of_lt_of_le hgP hW.size)
      rw [←hRL] at r1 r4 r5 hag
      simp only [←hRL] at qg htl
      rw [←hBL] at hbc
      simp only [←hBL] at htl
      obtain ⟨HL,hHL⟩:∃ HL,HL = L.reduceL (RL.map (L.givND y)):=⟨_,rfl⟩
      simp only [←hHL] at htl
      have hhc:=giv_chk (x:=y) r1
      rw [←hHL] at hhc
      have qA:=fun (W:World) (vL:Value) (hW:Below w.heap.size w W) (hs:SlC W vL (RL.map L.ofND))=>given_ok hs r1 (by omega) (fun y hy=>by have:=r5 y hy;omega) (hxq.out.ext hW) (by omega) hT (hP.out.below hW) (Nat.lt_of_lt_of_le hgP hW.size)
      simp only [hag] at qA
      have qS:=fun (W:World) (v1 v2:Value) (h1:SlC W v1 (RL.map L.ofND)) (h2:SlC W v2 (RL.map L.ofND))=>same20_any (n:=n) h1 h2 (by rw [List.length_map];omega) (fun g hg=>by
       obtain ⟨y,hy,rfl⟩:=List.mem_map.1 hg
       have:=r5 y hy
       have e:(L.ofND y).inp.length = y.inp.length:=castL_len y.inp
       omega)
      have qH:=fun (hTy:L.TermL n y) (W:World) (vL:Value) (hW:Below w.heap.size w W) (hs:SlC W vL (RL.map L.ofND))=>given_ok hs r1 (by omega) (fun y hy=>by have:=r5 y hy;omega) (hyq.out.ext hW) (by omega) hTy (hP.out.below hW) (Nat.lt_of_lt_of_le hgP hW.size)
      simp only [←hHL] at qH
      have qEB:=fun (W:World) (vL:Value) (hs:SlC W vL (BL.map L.ofND))=>neval_any (a:=a) hs hbc.1 (by omega) (fun y hy=>by have:=hbc.2.2 y hy;omega)
      have qEH:=fun (W:World) (vL:Value) (hs:SlC W vL (HL.map L.ofND))=>neval_any (a:=a) hs hhc.1 (by omega) (fun y hy=>by have:=hhc.2.2 y hy;omega)
      have hcx:=fun (j:Nat) (hj:j < x.length)=>(slI_cell hxq.out hj)
      have hcy:=fun (j:Nat) (hj:j < y.length)=>(slI_cell hyq.out hj)
      simp only [List.length_map] at *
      replace hcx:=Lib.hid hcx
      replace hcy:=Lib.hid hcy
      replace htl:=Lib.hid htl
      replace hRL:=Lib.hid hRL
      replace hBL:=Lib.hid hBL
      replace hHL:=Lib.hid hHL
      replace qg:=Lib.hid qg
      replace qA:=Lib.hid qA
      replace qS:=Lib.hid qS
      replace qH:=Lib.hid qH
      replace qEB:=Lib.hid qEB
      replace qEH:=Lib.hid qEH
      replace hT:=Lib.hid hT
      replace hc:=Lib.hid hc
      replace hnl20:=Lib.hid hnl20
      clear r1 r5 hnli hnlC hl hL hag hbc hhc
      go_enter Tryz.func5,Tryz.ntmps5
      go_wp2_with fail
      rw [←hw2]
      replace hw2:=Lib.hid hw2
      refine q1.mono ?_
      rintro e w3 ⟨rfl,hx3⟩
      have hb3:=(hx2.out.trans hx3).below
      have hb23:=Lib.hid hx3.below
      clear q1 p0 p1 p2 p3 hx3
      have qg3:=qg.out w3 hb3
      obtain ⟨⟨p0,p1⟩,p2,p3⟩:=hbx.out w3 hb23.out
      replace hb3:=Lib.hid hb3
      clear qg
      go_wp2_with fail
      refine qg3.mono ?_
      rintro e w4 ⟨vL,us,rfl,hoL,hRo,hb4⟩
      have hsL:=nodes_slC hoL hRo
      obtain ⟨bL,cL,rfl⟩:∃ b c,vL = .slice b RL.length c:=own_shape hoL
      have hx5:=(Ext.refl w4).alloc (.cells #[.int .i64 n,.slice bL RL.length cL] 24)
      have hn5:=heap_alloc_new w4 (.cells #[.int .i64 n,.slice bL RL.length cL] 24)
      have hb5:=Lib.hid (hb3.out.trans ((hb4.trans (hx5.below.mono hb4.size)).mono hb3.out.size))
      have hx25:=Lib.hid (hb23.out.trans ((hb4.trans (hx5.below.mono hb4.size)).mono hb23.out.size))
      replace hsL:=Lib.hid (hsL.ext hx5.below)
      clear qg3 hoL hRo hb4 hx5 p0 p1 p2 p3 hb3 hb23
      have qa:=qA.out _ _ hb5.out hsL.out
      have g0:(w4.alloc (.cells #[.int .i64 n,.slice bL RL.length cL] 24)).cell? ⟨w4.heap.size,0,none⟩ = some (.int .i64 n):=by rw [World.cell?,hn5];rfl
      have g1:(w4.alloc (.cells #[.int .i64 n,.slice bL RL.length cL] 24)).cell? ⟨w4.heap.size,1,none⟩ = some (.slice bL RL.length cL):=by rw [World.cell?,hn5];rfl
      replace hn5:=Lib.hid hn5
      clear qA
      go_wp2_with fail
      obtain ⟨gb,hgb⟩:∃ x,x = w4.heap.size:=⟨_,rfl⟩
      obtain ⟨w5,hw5⟩:∃ x,x = w4.alloc (.cells #[.int .i64 n,.slice bL RL.length cL] 24):=⟨_,rfl⟩
      rw [←hw5] at hb5 hx25 hsL hn5 qa ⊢
      rw [←hgb] at hn5 ⊢
      clear hw5 hgb g0 g1
      refine qa.mono ?_
      rintro e w6 ⟨vA,ua,rfl,hoA,hRA,hb6⟩
      have hsA:=nodes_slC hoA hRA
      obtain ⟨bA,cA,rfl⟩:∃ b c,vA = .slice b RL.length c:=own_shape hoA
      have hx6:=(Ext.refl w6).alloc (.cells #[.int .i64 n,.slice bA RL.length cA] 24)
      have hn6:=heap_alloc_new w6 (.cells #[.int .i64 n,.slice bA RL.length cA] 24)
      have hb56:=hb6.trans (hx6.below.mono hb6.size)
      replace hsA:=hsA.ext hx6.below
      have hsL6:=hsL.out.ext hb56
      have qs:=qS.out _ _ _ hsA hsL6
      have a0:(w6.alloc (.cells #[.int .i64 n,.slice bA RL.length cA] 24)).cell? ⟨w6.heap.size,0,none⟩ = some (.int .i64 n):=by rw [World.cell?,hn6];rfl
      have a1:(w6.alloc (.cells #[.int .i64 n,.slice bA RL.length cA] 24)).cell? ⟨w6.heap.size,1,none⟩ = some (.slice bA RL.length cA):=by rw [World.cell?,hn6];rfl
      have hn56:=(hb56.block _ (Array.getElem?_eq_some_iff.1 hn5.out).1).trans hn5.out
      have g0:(w6.alloc (.cells #[.int .i64 n,.slice bA RL.length cA] 24)).cell? ⟨gb,0,none⟩ = some (.int .i64 n):=by rw [World.cell?,hn56];rfl
      have g1:(w6.alloc (.cells #[.int .i64 n,.slice bA RL.length cA] 24)).cell? ⟨gb,1,none⟩ = some (.slice bL RL.length cL):=by rw [World.cell?,hn56];rfl
      replace hb56:=Lib.hid hb56
      clear qa hoA hRA hb6 hx6 hn6 hsA hsL6 hn56 qS
      go_wp2_with fail
      refine qs.mono ?_
      rintro e w7 ⟨rfl,hx7⟩
      have hb57:=hb56.out.trans (hx7.below.mono hb56.out.size)
      have hsL7:=Lib.hid (hsL.out.ext hb57)
      have hn57:=(hb57.block _ (Array.getElem?_eq_some_iff.1 hn5.out).1).trans hn5.out
      have hb27:=hx25.out.trans (hb57.mono hx25.out.size)
      have hb07:=Lib.hid (hb5.out.trans (hb57.mono hb5.out.size))
      have hS7:Hid (∀ V,Below w7.heap.size w7 V→(V.cell? ⟨w.heap.size,0,none⟩ = some (.int .i64 n)∧V.cell? ⟨w.heap.size,1,none⟩ = some (.slice ba nl.length cp))∧(V.cell? ⟨gb,0,none⟩ = some (.int .i64 n)∧V.cell? ⟨gb,1,none⟩ = some (.slice bL RL.length cL))∧(V.cell? ⟨w.heap.size+1,0,none⟩ = some (.int .u64 (lo a))∧V.cell? ⟨w.heap.size+1,1,none⟩ = some (.int .u64 (hi a)))):=Lib.hid fun V hV=>by
       have f:=(hV.block _ (Array.getElem?_eq_some_iff.1 hn57).1).trans hn57
       obtain ⟨h1,h2⟩:=hbx.out V (hb27.trans (hV.mono hb27.size))
       exact ⟨h1,⟨by rw [World.cell?,f];rfl,by rw [World.cell?,f];rfl⟩,h2⟩
      have hcx7:Hid (∀ V,Below w7.heap.size w7 V→∀ j (hj:j < x.length),∃ b o,tx = some ⟨b,o,none⟩∧V.cell? ⟨b,o+j,none⟩ = some (.int .i64 x[j])):=Lib.hid fun V hV j hj=>by
       obtain ⟨b,o,h1,h2⟩:=hcx.out j hj
       exact ⟨b,o,h1,((hb07.out.trans (hV.mono hb07.out.size)).cell (World.block_lt_of_cell? w _ h2)).trans h2⟩
      have hcy7:Hid (∀ V,Below w7.heap.size w7 V→∀ j (hj:j < y.length),∃ b o,ty = some ⟨b,o,none⟩∧V.cell? ⟨b,o+j,none⟩ = some (.int .i64 y[j])):=Lib.hid fun V hV j hj=>by
       obtain ⟨b,o,h1,h2⟩:=hcy.out j hj
       exact ⟨b,o,h1,((hb07.out.trans (hV.mono hb07.out.size)).cell (World.block_lt_of_cell? w _ h2)).trans h2⟩
      clear qs a0 a1 g0 g1 hx7 hb57 hn57 hb27 hcx hcy hb56 hb5 hx25 hsL hn5
      have hcx:=hcx7
      have hcy:=hcy7
      clear hcx7 hcy7
      by_cases hTT:L.TermL n (x++y)
      ·have qB:Hid (∀ (W:World) (hW:Below w7.heap.size w7 W) (v:Value),SlI W v (x++y)→Calls Tryz.prog 13 #[.agg #[.int .i64 n,.slice ba nl.length cp],v] W fun e w'=>∃ vL us,e = .returned (.tuple #[.agg #[.int .i64 n,vL],.int .i64 0])∧w'.ownsRow W.heap.size 40 3 vL BL.length (gCells (BL.map L.ofND) us)∧RowsOf w' W.heap.size us (BL.map fun y=>castL y.inp)∧Below W.heap.size W w'):=Lib.hid fun W hW v hs=>by
        have hW0:=hb07.out.trans (hW.mono hb07.out.size)
        rw [hBL.out]
        exact given_ok (hvq.out.ext hW0) hc.out (by omega) (fun y hy=>by have:=hnl20.out y hy;omega) hs (by rw [List.length_append];omega) hTT (hP.out.below hW0) (Nat.lt_of_lt_of_le hgP hW0.size)
       have htw:=htl.out hTT
       obtain ⟨T,hTv⟩:∃ T,T = L.tv BL (L.asg a) (BL.length - 1):=⟨_,rfl⟩
       have qH2:=Lib.hid (qH.out (term_right hTT))
       have qE1:=qEH.out
       have qE2:=qEB.out
       simp only [htw,←hTv] at qE1 qE2
       replace qE1:=Lib.hid qE1
       replace qE2:=Lib.hid qE2
       replace hTT:=Lib.hid hTT
       replace htw:=Lib.hid htw
       replace hTv:=Lib.hid hTv
       have hTe:(T == T) = true:=by simp
       clear qH qEH qEB htl
       go_upto_region 9 with fail
       have hE:Hid (Below w7.heap.size w7 w7.drew):=Lib.hid (Below.refl _ _).drew
       go_cut [10,12] from 51 to 60 (fun s10 s12 wx=>∃ (ob:Nat) (bB:Option Addr) (cB:Nat),s10 = .int .i64 0∧s12 = .pointer (some ⟨ob,0,none⟩)∧Hid (Below w7.heap.size w7 wx∧wx.heap[ob]? = some (.cells #[.int .i64 n,.slice bB BL.length cB] 24)∧SlC wx (.slice bB BL.length cB) (BL.map L.ofND)))
       case first =>
        obtain ⟨⟨p0,p1⟩,-,-⟩:=hS7.out w7 (Below.refl _ _)
        have hS:Hid (∀ V,Below w7.heap.size w7 V→V.cell? ⟨w.heap.size,0,none⟩ = some (.int .i64 n)∧V.cell? ⟨w.heap.size,1,none⟩ = some (.slice ba nl.length cp)):=Lib.hid fun V hV=>(hS7.out V hV).1
        (refine wp_region_held_drew (S:=(fun V=>V.cell? ⟨w.heap.size,0,none⟩ = some (.int .i64 n)∧V.cell? ⟨w.heap.size,1,none⟩ = some (.slice ba nl.length cp))) (by kernel_rfl) ?_ (fun hHeld=>?_))
        ·exact hS.out _ hE.out
        clear p0 p1
        generalize w7.drew = wd at *
        (refine takeL (i:=0) (v:=?_) rfl (by kernel_rfl) (by kernel_rfl) (by kernel_rfl) (fun _ _ _ h=>h) (Or.inl ⟨by rfl,?_⟩) (by assumption) ?_)
        rotate_left
        ·(intro w hSw;(try dsimp only at hSw);go_simp;first | done | with_reducible rfl)
        (try simp only [Act.put,List.setIfInBounds_toArray,List.set_cons_zero,List.set_cons_succ])
        (refine takeL (i:=2) (v:=?_) rfl (by kernel_rfl) (by kernel_rfl) (by kernel_rfl) (fun _ _ _ h=>h) (Or.inl ⟨by rfl,?_⟩) (by assumption) ?_)
        rotate_left
        ·(intro w hSw;(try dsimp only at hSw);go_simp;first | done | with_reducible rfl)
        (try simp only [Act.put,List.setIfInBounds_toArray,List.set_cons_zero,List.set_cons_succ])
        (refine takeL (i:=4) (v:=?_) rfl (by kernel_rfl) (by kernel_rfl) (by kernel_rfl) (fun _ _ _ h=>h) (Or.inl ⟨by rfl,?_⟩) (by assumption) ?_)
        rotate_left
        ·(intro w hSw;(try dsimp only at hSw);go_simp;first | done | with_reducible rfl)
        (try simp only [Act.put,List.setIfInBounds_toArray,List.set_cons_zero,List.set_cons_succ])
        refine wpAnyH_ready (rs:=[1,10]) (by kernel_rfl) (by simp) ?_
        refine consL2 rfl rfl (fun K hK=>?_) (fun K hK=>?_)
        ·(rw [if_pos (by rfl)])
         go_simp
         obtain ⟨xr,wv,hx',hW,hE2,hxn,hxl,hbv⟩:=belAllocE hE.out (.cells #[] 3)
         rw [←hW,←hx']
         have hro:Hid (wv.ownsRow w7.heap.size 3 1 (.slice (some ⟨xr,0,none⟩) 0 0) 0 []):=Lib.hid ⟨rfl,.inr ⟨xr,0,#[],rfl,hxl,hxn,Nat.le_refl _,by unfold maxLen;omega,rfl,rfl⟩⟩
         replace hE:=Lib.hid hE2
         replace hx':=Lib.hid hx'
         replace hW:=Lib.hid hW
         refine hK.out _ _ (hS.out _ hE.out) (fun hHeld=>?_)
         clear hE2 hxn hbv hx' hW hxl
         (clear hK K)
         (try simp only [Act.put,List.setIfInBounds_toArray,List.set_cons_zero,List.set_cons_succ])
         refine wpAnyH_ready (rs:=[3,10]) (by kernel_rfl) (by simp) ?_
         refine consL2 rfl rfl (fun K hK=>?_) (fun K hK=>?_)
         ·(rw [if_pos (by rfl)])
          refine wp_append_ints _ _ rfl w7.heap.size i0 hi0 hz0 hz1 hz2 _ 0 [] rfl hro.out tx cx x rfl (hcx.out _ hE.out) (by omega) hE.out.size (fun v4 w4 ho4 hg4=>?_)
          rw [List.nil_append,Nat.zero_add] at ho4
          replace hE:=Lib.hid (Below.grown hE.out hg4 hE.out.size (fun k e=>own_ge hro.out e))
          obtain ⟨b4,c4,rfl⟩:∃ b c,v4 = .slice b x.length c:=own_shape ho4
          replace hro:=Lib.hid ho4
          refine hK.out _ _ (hS.out _ hE.out) (fun hHeld=>?_)
          clear ho4 hg4
          (clear hK K)
          (try simp only [Act.put,List.setIfInBounds_toArray,List.set_cons_zero,List.set_cons_succ])
          refine wpAnyH_ready (rs:=[5,10]) (by kernel_rfl) (by simp) ?_
          refine consL2 rfl rfl (fun K hK=>?_) (fun K hK=>?_)
          ·(rw [if_pos (by rfl)])
           refine wp_append_ints _ _ rfl w7.heap.size i0 hi0 hz0 hz1 hz2 _ x.length (x.map encZ) rfl hro.out ty cy y rfl (hcy.out _ hE.out) (by omega) hE.out.size (fun v4 w4 ho4 hg4=>?_)
           rw [←List.map_append] at ho4
           replace hE:=Lib.hid (Below.grown hE.out hg4 hE.out.size (fun k e=>own_ge hro.out e))
           obtain ⟨b5,c5,rfl⟩:∃ b c,v4 = .slice b (x.length+y.length) c:=own_shape ho4
           replace hro:=Lib.hid ho4
           refine hK.out _ _ (hS.out _ hE.out) (fun hHeld=>?_)
           clear ho4 hg4
           (clear hK K)
           (try simp only [Act.put,List.setIfInBounds_toArray,List.set_cons_zero,List.set_cons_succ])
           refine wpAnyH_ready (rs:=[6,10]) (by kernel_rfl) (by simp) ?_
           refine consL2 rfl rfl (fun K hK=>?_) (fun K hK=>?_)
           ·(rw [if_pos (by rfl)])
            go_simp
            (go_at_call 13);refine (qB.out _ hE.out _ (owns_slI (l:=x++y) (by rw [List.length_append];exact hro.out))).mono ?_
            rintro e wv ⟨vB,ub,rfl,hoB,hRB,hbv⟩
            replace hoB:=Lib.hid (own_weak hoB hE.out.size)
            replace hRB:=Lib.hid (hRB.weak hE.out.size)
            obtain ⟨bB,cB,rfl⟩:∃ b c,vB = .slice b BL.length c:=own_shape hoB.out
            replace hE:=Lib.hid (hE.out.trans (hbv.mono hE.out.size))
            refine hK.out _ _ (hS.out _ hE.out) (fun hHeld=>?_)
            clear hbv hro
            (clear hK K)
            (try simp only [Act.put,List.setIfInBounds_toArray,List.set_cons_zero,List.set_cons_succ])
            (refine takeL (i:=7) (v:=?_) rfl (by kernel_rfl) (by kernel_rfl) (by kernel_rfl) (fun _ _ _ h=>h) (Or.inl ⟨by rfl,?_⟩) (by assumption) ?_)
            rotate_left
            ·(intro w hSw;(try dsimp only at hSw);go_simp;first | done | with_reducible rfl)
            (try simp only [Act.put,List.setIfInBounds_toArray,List.set_cons_zero,List.set_cons_succ])
            (refine takeL (i:=8) (v:=?_) rfl (by kernel_rfl) (by kernel_rfl) (by kernel_rfl) (fun _ _ _ h=>h) (Or.inl ⟨by rfl,?_⟩) (by assumption) ?_)
            rotate_left
            ·(intro w hSw;(try dsimp only at hSw);go_simp;first | done | with_reducible rfl)
            (try simp only [Act.put,List.setIfInBounds_toArray,List.set_cons_zero,List.set_cons_succ])
            (refine takeL (i:=9) (v:=?_) rfl (by kernel_rfl) (by kernel_rfl) (by kernel_rfl) (fun _ _ _ h=>h) (Or.inl ⟨by rfl,?_⟩) (by assumption) ?_)
            rotate_left
            ·(intro w hSw;(try dsimp only at hSw);go_simp;first | done | with_reducible rfl)
            (try simp only [Act.put,List.setIfInBounds_toArray,List.set_cons_zero,List.set_cons_succ])
            refine wpAnyH_ready (rs:=[10]) (by kernel_rfl) (by simp) ?_
            refine consL rfl (fun K hK=>?_)
            (rw [if_pos (by rfl)])
            go_simp
            obtain ⟨ob,wv,hx',hW,hE2,hob,hobl,hbv⟩:=belAllocE hE.out (.cells #[.int .i64 0,.slice none 0 0] 24)
            replace hoB:=Lib.hid (ownsRow_keep hoB.out fun g c h=>hbv.block g (Array.getElem?_eq_some_iff.1 h).1)
            replace hRB:=Lib.hid (hRB.out.keep fun g c h=>hbv.block g (Array.getElem?_eq_some_iff.1 h).1)
            rw [←hW,←hx']
            replace hob:=Lib.hid hob
            replace hE:=Lib.hid hE2
            replace hx':=Lib.hid hx'
            replace hW:=Lib.hid hW
            refine hK.out _ _ (hS.out _ hE.out) (fun hHeld=>?_)
            clear hE2 hbv hx' hW
            (clear hK K)
            (try simp only [Act.put,List.setIfInBounds_toArray,List.set_cons_zero,List.set_cons_succ])
            obtain ⟨⟨z0,z1⟩,y0,y1⟩:=zbox hob.out
            obtain ⟨hF1,hF2,hF3,hF4⟩:=netStore hE.out hobl hob.out hoB.out hRB.out
            replace hF1:=Lib.hid hF1
            replace hF2:=Lib.hid hF2
            replace hF3:=Lib.hid hF3
            replace hF4:=Lib.hid hF4
            (refine wpAnyH_ready (rs:=[11]) (by kernel_rfl) (by simp) ?_)
            (refine consL rfl (fun K hK=>?_))
            ((rw [if_pos (by rfl)]);go_simp;refine hK.out _ _ (hS.out _ hF4.out) (fun hHeld=>?_))
            (clear hK K)
            (try simp only [Act.put,List.setIfInBounds_toArray,List.set_cons_zero,List.set_cons_succ])
            (refine takeL (i:=12) (v:=?_) rfl (by kernel_rfl) (by kernel_rfl) (by kernel_rfl) (fun _ _ _ h=>h) (Or.inl ⟨by rfl,?_⟩) (by assumption) ?_)
            rotate_left
            ·(intro w hSw;(try dsimp only at hSw);go_simp;first | done | with_reducible rfl)
            (try simp only [Act.put,List.setIfInBounds_toArray,List.set_cons_zero,List.set_cons_succ])
            (refine wpAnyH_done (by kernel_rfl) ?_ _)
            go_wp2_with fail
            go_meet
            exact ⟨ob,bB,cB,rfl,rfl,Lib.hid ⟨hF4.out,hF1.out,nodes_slC hF2.out hF3.out⟩⟩
           ·(rw [if_pos (by rfl)])
            go_simp
            obtain ⟨ob,wv,hx',hW,hE2,hob,hobl,hbv⟩:=belAllocE hE.out (.cells #[.int .i64 0,.slice none 0 0] 24)
            replace hro:=Lib.hid (ownsRow_keep hro.out fun g c h=>hbv.block g (Array.getElem?_eq_some_iff.1 h).1)
            rw [←hW,←hx']
            replace hob:=Lib.hid hob
            replace hE:=Lib.hid hE2
            replace hx':=Lib.hid hx'
            replace hW:=Lib.hid hW
            refine hK.out _ _ (hS.out _ hE.out) (fun hHeld=>?_)
            clear hE2 hbv hx' hW
            (clear hK K)
            (try simp only [Act.put,List.setIfInBounds_toArray,List.set_cons_zero,List.set_cons_succ])
            refine wpAnyH_ready (rs:=[6]) (by kernel_rfl) (by simp) ?_
            refine consL rfl (fun K hK=>?_)
            (rw [if_pos (by rfl)])
            go_simp
            (go_at_call 13);refine (qB.out _ hE.out _ (owns_slI (l:=x++y) (by rw [List.length_append];exact hro.out))).mono ?_
            rintro e wv ⟨vB,ub,rfl,hoB,hRB,hbv⟩
            replace hoB:=Lib.hid (own_weak hoB hE.out.size)
            replace hRB:=Lib.hid (hRB.weak hE.out.size)
            obtain ⟨bB,cB,rfl⟩:∃ b c,vB = .slice b BL.length c:=own_shape hoB.out
            replace hob:=Lib.hid ((hbv.block _ (Array.getElem?_eq_some_iff.1 hob.out).1).trans hob.out)
            replace hE:=Lib.hid (hE.out.trans (hbv.mono hE.out.size))
            refine hK.out _ _ (hS.out _ hE.out) (fun hHeld=>?_)
            clear hbv hro
            (clear hK K)
            (try simp only [Act.put,List.setIfInBounds_toArray,List.set_cons_zero,List.set_cons_succ])
            (refine takeL (i:=7) (v:=?_) rfl (by kernel_rfl) (by kernel_rfl) (by kernel_rfl) (fun _ _ _ h=>h) (Or.inl ⟨by rfl,?_⟩) (by assumption) ?_)
            rotate_left
            ·(intro w hSw;(try dsimp only at hSw);go_simp;first | done | with_reducible rfl)
            (try simp only [Act.put,List.setIfInBounds_toArray,List.set_cons_zero,List.set_cons_succ])
            (refine takeL (i:=8) (v:=?_) rfl (by kernel_rfl) (by kernel_rfl) (by kernel_rfl) (fun _ _ _ h=>h) (Or.inl ⟨by rfl,?_⟩) (by assumption) ?_)
            rotate_left
            ·(intro w hSw;(try dsimp only at hSw);go_simp;first | done | with_reducible rfl)
            (try simp only [Act.put,List.setIfInBounds_toArray,List.set_cons_zero,List.set_cons_succ])
            (refine takeL (i:=9) (v:=?_) rfl (by kernel_rfl) (by kernel_rfl) (by kernel_rfl) (fun _ _ _ h=>h) (Or.inl ⟨by rfl,?_⟩) (by assumption) ?_)
            rotate_left
            ·(intro w hSw;(try dsimp only at hSw);go_simp;first | done | with_reducible rfl)
            (try simp only [Act.put,List.setIfInBounds_toArray,List.set_cons_zero,List.set_cons_succ])
            obtain ⟨⟨z0,z1⟩,y0,y1⟩:=zbox hob.out
            obtain ⟨hF1,hF2,hF3,hF4⟩:=netStore hE.out hobl hob.out hoB.out hRB.out
            replace hF1:=Lib.hid hF1
            replace hF2:=Lib.hid hF2
            replace hF3:=Lib.hid hF3
            replace hF4:=Lib.hid hF4
            (refine wpAnyH_ready (rs:=[11]) (by kernel_rfl) (by simp) ?_)
            (refine consL rfl (fun K hK=>?_))
            ((rw [if_pos (by rfl)]);go_simp;refine hK.out _ _ (hS.out _ hF4.out) (fun hHeld=>?_))
            (clear hK K)
            (try simp only [Act.put,List.setIfInBounds_toArray,List.set_cons_zero,List.set_cons_succ])
            (refine takeL (i:=12) (v:=?_) rfl (by kernel_rfl) (by kernel_rfl) (by kernel_rfl) (fun _ _ _ h=>h) (Or.inl ⟨by rfl,?_⟩) (by assumption) ?_)
            rotate_left
            ·(intro w hSw;(try dsimp only at hSw);go_simp;first | done | with_reducible rfl)
            (try simp only [Act.put,List.setIfInBounds_toArray,List.set_cons_zero,List.set_cons_succ])
            (refine wpAnyH_done (by kernel_rfl) ?_ _)
            go_wp2_with fail
            go_meet
            exact ⟨ob,bB,cB,rfl,rfl,Lib.hid ⟨hF4.out,hF1.out,nodes_slC hF2.out hF3.out⟩⟩
          ·(rw [if_pos (by rfl)])
           go_simp
           obtain ⟨ob,wv,hx',hW,hE2,hob,hobl,hbv⟩:=belAllocE hE.out (.cells #[.int .i64 0,.slice none 0 0] 24)
           replace hro:=Lib.hid (ownsRow_keep hro.out fun g c h=>hbv.block g (Array.getElem?_eq_some_iff.1 h).1)
           rw [←hW,←hx']
           replace hob:=Lib.hid hob
           replace hE:=Lib.hid hE2
           replace hx':=Lib.hid hx'
           replace hW:=Lib.hid hW
           refine hK.out _ _ (hS.out _ hE.out) (fun hHeld=>?_)
           clear hE2 hbv hx' hW
           (clear hK K)
           (try simp only [Act.put,List.setIfInBounds_toArray,List.set_cons_zero,List.set_cons_succ])
           refine wpAnyH_ready (rs:=[5]) (by kernel_rfl) (by simp) ?_
           refine consL rfl (fun K hK=>?_)
           (rw [if_pos (by rfl)])
           refine wp_append_ints _ _ rfl w7.heap.size i0 hi0 hz0 hz1 hz2 _ x.length (x.map encZ) rfl hro.out ty cy y rfl (hcy.out _ hE.out) (by omega) hE.out.size (fun v4 w4 ho4 hg4=>?_)
           rw [←List.map_append] at ho4
           replace hob:=Lib.hid ((grown_other hro.out hg4 hob.out (by decide)).trans hob.out)
           replace hE:=Lib.hid (Below.grown hE.out hg4 hE.out.size (fun k e=>own_ge hro.out e))
           obtain ⟨b5,c5,rfl⟩:∃ b c,v4 = .slice b (x.length+y.length) c:=own_shape ho4
           replace hro:=Lib.hid ho4
           refine hK.out _ _ (hS.out _ hE.out) (fun hHeld=>?_)
           clear ho4 hg4
           (clear hK K)
           (try simp only [Act.put,List.setIfInBounds_toArray,List.set_cons_zero,List.set_cons_succ])
           refine wpAnyH_ready (rs:=[6]) (by kernel_rfl) (by simp) ?_
           refine consL rfl (fun K hK=>?_)
           (rw [if_pos (by rfl)])
           go_simp
           (go_at_call 13);refine (qB.out _ hE.out _ (owns_slI (l:=x++y) (by rw [List.length_append];exact hro.out))).mono ?_
           rintro e wv ⟨vB,ub,rfl,hoB,hRB,hbv⟩
           replace hoB:=Lib.hid (own_weak hoB hE.out.size)
           replace hRB:=Lib.hid (hRB.weak hE.out.size)
           obtain ⟨bB,cB,rfl⟩:∃ b c,vB = .slice b BL.length c:=own_shape hoB.out
           replace hob:=Lib.hid ((hbv.block _ (Array.getElem?_eq_some_iff.1 hob.out).1).trans hob.out)
           replace hE:=Lib.hid (hE.out.trans (hbv.mono hE.out.size))
           refine hK.out _ _ (hS.out _ hE.out) (fun hHeld=>?_)
           clear hbv hro
           (clear hK K)
           (try simp only [Act.put,List.setIfInBounds_toArray,List.set_cons_zero,List.set_cons_succ])
           (refine takeL (i:=7) (v:=?_) rfl (by kernel_rfl) (by kernel_rfl) (by kernel_rfl) (fun _ _ _ h=>h) (Or.inl ⟨by rfl,?_⟩) (by assumption) ?_)
           rotate_left
           ·(intro w hSw;(try dsimp only at hSw);go_simp;first | done | with_reducible rfl)
           (try simp only [Act.put,List.setIfInBounds_toArray,List.set_cons_zero,List.set_cons_succ])
           (refine takeL (i:=8) (v:=?_) rfl (by kernel_rfl) (by kernel_rfl) (by kernel_rfl) (fun _ _ _ h=>h) (Or.inl ⟨by rfl,?_⟩) (by assumption) ?_)
           rotate_left
           ·(intro w hSw;(try dsimp only at hSw);go_simp;first | done | with_reducible rfl)
           (try simp only [Act.put,List.setIfInBounds_toArray,List.set_cons_zero,List.set_cons_succ])
           (refine takeL (i:=9) (v:=?_) rfl (by kernel_rfl) (by kernel_rfl) (by kernel_rfl) (fun _ _ _ h=>h) (Or.inl ⟨by rfl,?_⟩) (by assumption) ?_)
           rotate_left
           ·(intro w hSw;(try dsimp only at hSw);go_simp;first | done | with_reducible rfl)
           (try simp only [Act.put,List.setIfInBounds_toArray,List.set_cons_zero,List.set_cons_succ])
           obtain ⟨⟨z0,z1⟩,y0,y1⟩:=zbox hob.out
           obtain ⟨hF1,hF2,hF3,hF4⟩:=netStore hE.out hobl hob.out hoB.out hRB.out
           replace hF1:=Lib.hid hF1
           replace hF2:=Lib.hid hF2
           replace hF3:=Lib.hid hF3
           replace hF4:=Lib.hid hF4
           (refine wpAnyH_ready (rs:=[11]) (by kernel_rfl) (by simp) ?_)
           (refine consL rfl (fun K hK=>?_))
           ((rw [if_pos (by rfl)]);go_simp;refine hK.out _ _ (hS.out _ hF4.out) (fun hHeld=>?_))
           (clear hK K)
           (try simp only [Act.put,List.setIfInBounds_toArray,List.set_cons_zero,List.set_cons_succ])
           (refine takeL (i:=12) (v:=?_) rfl (by kernel_rfl) (by kernel_rfl) (by kernel_rfl) (fun _ _ _ h=>h) (Or.inl ⟨by rfl,?_⟩) (by assumption) ?_)
           rotate_left
           ·(intro w hSw;(try dsimp only at hSw);go_simp;first | done | with_reducible rfl)
           (try simp only [Act.put,List.setIfInBounds_toArray,List.set_cons_zero,List.set_cons_succ])
           (refine wpAnyH_done (by kernel_rfl) ?_ _)
           go_wp2_with fail
           go_meet
           exact ⟨ob,bB,cB,rfl,rfl,Lib.hid ⟨hF4.out,hF1.out,nodes_slC hF2.out hF3.out⟩⟩
         ·(rw [if_pos (by rfl)])
          go_simp
          obtain ⟨ob,wv,hx',hW,hE2,hob,hobl,hbv⟩:=belAllocE hE.out (.cells #[.int .i64 0,.slice none 0 0] 24)
          replace hro:=Lib.hid (ownsRow_keep hro.out fun g c h=>hbv.block g (Array.getElem?_eq_some_iff.1 h).1)
          rw [←hW,←hx']
          replace hob:=Lib.hid hob
          replace hE:=Lib.hid hE2
          replace hx':=Lib.hid hx'
          replace hW:=Lib.hid hW
          refine hK.out _ _ (hS.out _ hE.out) (fun hHeld=>?_)
          clear hE2 hbv hx' hW
          (clear hK K)
          (try simp only [Act.put,List.setIfInBounds_toArray,List.set_cons_zero,List.set_cons_succ])
          refine wpAnyH_ready (rs:=[3]) (by kernel_rfl) (by simp) ?_
          refine consL rfl (fun K hK=>?_)
          (rw [if_pos (by rfl)])
          refine wp_append_ints _ _ rfl w7.heap.size i0 hi0 hz0 hz1 hz2 _ 0 [] rfl hro.out tx cx x rfl (hcx.out _ hE.out) (by omega) hE.out.size (fun v4 w4 ho4 hg4=>?_)
          rw [List.nil_append,Nat.zero_add] at ho4
          replace hob:=Lib.hid ((grown_other hro.out hg4 hob.out (by decide)).trans hob.out)
          replace hE:=Lib.hid (Below.grown hE.out hg4 hE.out.size (fun k e=>own_ge hro.out e))
          obtain ⟨b4,c4,rfl⟩:∃ b c,v4 = .slice b x.length c:=own_shape ho4
          replace hro:=Lib.hid ho4
          refine hK.out _ _ (hS.out _ hE.out) (fun hHeld=>?_)
          clear ho4 hg4
          (clear hK K)
          (try simp only [Act.put,List.setIfInBounds_toArray,List.set_cons_zero,List.set_cons_succ])
          refine wpAnyH_ready (rs:=[5]) (by kernel_rfl) (by simp) ?_
          refine consL rfl (fun K hK=>?_)
          (rw [if_pos (by rfl)])
          refine wp_append_ints _ _ rfl w7.heap.size i0 hi0 hz0 hz1 hz2 _ x.length (x.map encZ) rfl hro.out ty cy y rfl (hcy.out _ hE.out) (by omega) hE.out.size (fun v4 w4 ho4 hg4=>?_)
          rw [←List.map_append] at ho4
          replace hob:=Lib.hid ((grown_other hro.out hg4 hob.out (by decide)).trans hob.out)
          replace hE:=Lib.hid (Below.grown hE.out hg4 hE.out.size (fun k e=>own_ge hro.out e))
          obtain ⟨b5,c5,rfl⟩:∃ b c,v4 = .slice b (x.length+y.length) c:=own_shape ho4
          replace hro:=Lib.hid ho4
          refine hK.out _ _ (hS.out _ hE.out) (fun hHeld=>?_)
          clear ho4 hg4
          (clear hK K)
          (try simp only [Act.put,List.setIfInBounds_toArray,List.set_cons_zero,List.set_cons_succ])
          refine wpAnyH_ready (rs:=[6]) (by kernel_rfl) (by simp) ?_
          refine consL rfl (fun K hK=>?_)
          (rw [if_pos (by rfl)])
          go_simp
          (go_at_call 13);refine (qB.out _ hE.out _ (owns_slI (l:=x++y) (by rw [List.length_append];exact hro.out))).mono ?_
          rintro e wv ⟨vB,ub,rfl,hoB,hRB,hbv⟩
          replace hoB:=Lib.hid (own_weak hoB hE.out.size)
          replace hRB:=Lib.hid (hRB.weak hE.out.size)
          obtain ⟨bB,cB,rfl⟩:∃ b c,vB = .slice b BL.length c:=own_shape hoB.out
          replace hob:=Lib.hid ((hbv.block _ (Array.getElem?_eq_some_iff.1 hob.out).1).trans hob.out)
          replace hE:=Lib.hid (hE.out.trans (hbv.mono hE.out.size))
          refine hK.out _ _ (hS.out _ hE.out) (fun hHeld=>?_)
          clear hbv hro
          (clear hK K)
          (try simp only [Act.put,List.setIfInBounds_toArray,List.set_cons_zero,List.set_cons_succ])
          (refine takeL (i:=7) (v:=?_) rfl (by kernel_rfl) (by kernel_rfl) (by kernel_rfl) (fun _ _ _ h=>h) (Or.inl ⟨by rfl,?_⟩) (by assumption) ?_)
          rotate_left
          ·(intro w hSw;(try dsimp only at hSw);go_simp;first | done | with_reducible rfl)
          (try simp only [Act.put,List.setIfInBounds_toArray,List.set_cons_zero,List.set_cons_succ])
          (refine takeL (i:=8) (v:=?_) rfl (by kernel_rfl) (by kernel_rfl) (by kernel_rfl) (fun _ _ _ h=>h) (Or.inl ⟨by rfl,?_⟩) (by assumption) ?_)
          rotate_left
          ·(intro w hSw;(try dsimp only at hSw);go_simp;first | done | with_reducible rfl)
          (try simp only [Act.put,List.setIfInBounds_toArray,List.set_cons_zero,List.set_cons_succ])
          (refine takeL (i:=9) (v:=?_) rfl (by kernel_rfl) (by kernel_rfl) (by kernel_rfl) (fun _ _ _ h=>h) (Or.inl ⟨by rfl,?_⟩) (by assumption) ?_)
          rotate_left
          ·(intro w hSw;(try dsimp only at hSw);go_simp;first | done | with_reducible rfl)
          (try simp only [Act.put,List.setIfInBounds_toArray,List.set_cons_zero,List.set_cons_succ])
          obtain ⟨⟨z0,z1⟩,y0,y1⟩:=zbox hob.out
          obtain ⟨hF1,hF2,hF3,hF4⟩:=netStore hE.out hobl hob.out hoB.out hRB.out
          replace hF1:=Lib.hid hF1
          replace hF2:=Lib.hid hF2
          replace hF3:=Lib.hid hF3
          replace hF4:=Lib.hid hF4
          (refine wpAnyH_ready (rs:=[11]) (by kernel_rfl) (by simp) ?_)
          (refine consL rfl (fun K hK=>?_))
          ((rw [if_pos (by rfl)]);go_simp;refine hK.out _ _ (hS.out _ hF4.out) (fun hHeld=>?_))
          (clear hK K)
          (try simp only [Act.put,List.setIfInBounds_toArray,List.set_cons_zero,List.set_cons_succ])
          (refine takeL (i:=12) (v:=?_) rfl (by kernel_rfl) (by kernel_rfl) (by kernel_rfl) (fun _ _ _ h=>h) (Or.inl ⟨by rfl,?_⟩) (by assumption) ?_)
          rotate_left
          ·(intro w hSw;(try dsimp only at hSw);go_simp;first | done | with_reducible rfl)
          (try simp only [Act.put,List.setIfInBounds_toArray,List.set_cons_zero,List.set_cons_succ])
          (refine wpAnyH_done (by kernel_rfl) ?_ _)
          go_wp2_with fail
          go_meet
          exact ⟨ob,bB,cB,rfl,rfl,Lib.hid ⟨hF4.out,hF1.out,nodes_slC hF2.out hF3.out⟩⟩
        ·(rw [if_pos (by rfl)])
         go_simp
         obtain ⟨ob,wv,hx',hW,hE2,hob,hobl,hbv⟩:=belAllocE hE.out (.cells #[.int .i64 0,.slice none 0 0] 24)
         rw [←hW,←hx']
         replace hob:=Lib.hid hob
         replace hE:=Lib.hid hE2
         replace hx':=Lib.hid hx'
         replace hW:=Lib.hid hW
         refine hK.out _ _ (hS.out _ hE.out) (fun hHeld=>?_)
         clear hE2 hbv hx' hW
         (clear hK K)
         (try simp only [Act.put,List.setIfInBounds_toArray,List.set_cons_zero,List.set_cons_succ])
         refine wpAnyH_ready (rs:=[1]) (by kernel_rfl) (by simp) ?_
         refine consL rfl (fun K hK=>?_)
         (rw [if_pos (by rfl)])
         go_simp
         obtain ⟨xr,wv,hx',hW,hE2,hxn,hxl,hbv⟩:=belAllocE hE.out (.cells #[] 3)
         replace hob:=Lib.hid ((hbv.block _ (Array.getElem?_eq_some_iff.1 hob.out).1).trans hob.out)
         rw [←hW,←hx']
         have hro:Hid (wv.ownsRow w7.heap.size 3 1 (.slice (some ⟨xr,0,none⟩) 0 0) 0 []):=Lib.hid ⟨rfl,.inr ⟨xr,0,#[],rfl,hxl,hxn,Nat.le_refl _,by unfold maxLen;omega,rfl,rfl⟩⟩
         replace hE:=Lib.hid hE2
         replace hx':=Lib.hid hx'
         replace hW:=Lib.hid hW
         refine hK.out _ _ (hS.out _ hE.out) (fun hHeld=>?_)
         clear hE2 hxn hbv hx' hW hxl
         (clear hK K)
         (try simp only [Act.put,List.setIfInBounds_toArray,List.set_cons_zero,List.set_cons_succ])
         refine wpAnyH_ready (rs:=[3]) (by kernel_rfl) (by simp) ?_
         refine consL rfl (fun K hK=>?_)
         (rw [if_pos (by rfl)])
         refine wp_append_ints _ _ rfl w7.heap.size i0 hi0 hz0 hz1 hz2 _ 0 [] rfl hro.out tx cx x rfl (hcx.out _ hE.out) (by omega) hE.out.size (fun v4 w4 ho4 hg4=>?_)
         rw [List.nil_append,Nat.zero_add] at ho4
         replace hob:=Lib.hid ((grown_other hro.out hg4 hob.out (by decide)).trans hob.out)
         replace hE:=Lib.hid (Below.grown hE.out hg4 hE.out.size (fun k e=>own_ge hro.out e))
         obtain ⟨b4,c4,rfl⟩:∃ b c,v4 = .slice b x.length c:=own_shape ho4
         replace hro:=Lib.hid ho4
         refine hK.out _ _ (hS.out _ hE.out) (fun hHeld=>?_)
         clear ho4 hg4
         (clear hK K)
         (try simp only [Act.put,List.setIfInBounds_toArray,List.set_cons_zero,List.set_cons_succ])
         refine wpAnyH_ready (rs:=[5]) (by kernel_rfl) (by simp) ?_
         refine consL rfl (fun K hK=>?_)
         (rw [if_pos (by rfl)])
         refine wp_append_ints _ _ rfl w7.heap.size i0 hi0 hz0 hz1 hz2 _ x.length (x.map encZ) rfl hro.out ty cy y rfl (hcy.out _ hE.out) (by omega) hE.out.size (fun v4 w4 ho4 hg4=>?_)
         rw [←List.map_append] at ho4
         replace hob:=Lib.hid ((grown_other hro.out hg4 hob.out (by decide)).trans hob.out)
         replace hE:=Lib.hid (Below.grown hE.out hg4 hE.out.size (fun k e=>own_ge hro.out e))
         obtain ⟨b5,c5,rfl⟩:∃ b c,v4 = .slice b (x.length+y.length) c:=own_shape ho4
         replace hro:=Lib.hid ho4
         refine hK.out _ _ (hS.out _ hE.out) (fun hHeld=>?_)
         clear ho4 hg4
         (clear hK K)
         (try simp only [Act.put,List.setIfInBounds_toArray,List.set_cons_zero,List.set_cons_succ])
         refine wpAnyH_ready (rs:=[6]) (by kernel_rfl) (by simp) ?_
         refine consL rfl (fun K hK=>?_)
         (rw [if_pos (by rfl)])
         go_simp
         (go_at_call 13);refine (qB.out _ hE.out _ (owns_slI (l:=x++y) (by rw [List.length_append];exact hro.out))).mono ?_
         rintro e wv ⟨vB,ub,rfl,hoB,hRB,hbv⟩
         replace hoB:=Lib.hid (own_weak hoB hE.out.size)
         replace hRB:=Lib.hid (hRB.weak hE.out.size)
         obtain ⟨bB,cB,rfl⟩:∃ b c,vB = .slice b BL.length c:=own_shape hoB.out
         replace hob:=Lib.hid ((hbv.block _ (Array.getElem?_eq_some_iff.1 hob.out).1).trans hob.out)
         replace hE:=Lib.hid (hE.out.trans (hbv.mono hE.out.size))
         refine hK.out _ _ (hS.out _ hE.out) (fun hHeld=>?_)
         clear hbv hro
         (clear hK K)
         (try simp only [Act.put,List.setIfInBounds_toArray,List.set_cons_zero,List.set_cons_succ])
         (refine takeL (i:=7) (v:=?_) rfl (by kernel_rfl) (by kernel_rfl) (by kernel_rfl) (fun _ _ _ h=>h) (Or.inl ⟨by rfl,?_⟩) (by assumption) ?_)
         rotate_left
         ·(intro w hSw;(try dsimp only at hSw);go_simp;first | done | with_reducible rfl)
         (try simp only [Act.put,List.setIfInBounds_toArray,List.set_cons_zero,List.set_cons_succ])
         (refine takeL (i:=8) (v:=?_) rfl (by kernel_rfl) (by kernel_rfl) (by kernel_rfl) (fun _ _ _ h=>h) (Or.inl ⟨by rfl,?_⟩) (by assumption) ?_)
         rotate_left
         ·(intro w hSw;(try dsimp only at hSw);go_simp;first | done | with_reducible rfl)
         (try simp only [Act.put,List.setIfInBounds_toArray,List.set_cons_zero,List.set_cons_succ])
         (refine takeL (i:=9) (v:=?_) rfl (by kernel_rfl) (by kernel_rfl) (by kernel_rfl) (fun _ _ _ h=>h) (Or.inl ⟨by rfl,?_⟩) (by assumption) ?_)
         rotate_left
         ·(intro w hSw;(try dsimp only at hSw);go_simp;first | done | with_reducible rfl)
         (try simp only [Act.put,List.setIfInBounds_toArray,List.set_cons_zero,List.set_cons_succ])
         obtain ⟨⟨z0,z1⟩,y0,y1⟩:=zbox hob.out
         obtain ⟨hF1,hF2,hF3,hF4⟩:=netStore hE.out hobl hob.out hoB.out hRB.out
         replace hF1:=Lib.hid hF1
         replace hF2:=Lib.hid hF2
         replace hF3:=Lib.hid hF3
         replace hF4:=Lib.hid hF4
         (refine wpAnyH_ready (rs:=[11]) (by kernel_rfl) (by simp) ?_)
         (refine consL rfl (fun K hK=>?_))
         ((rw [if_pos (by rfl)]);go_simp;refine hK.out _ _ (hS.out _ hF4.out) (fun hHeld=>?_))
         (clear hK K)
         (try simp only [Act.put,List.setIfInBounds_toArray,List.set_cons_zero,List.set_cons_succ])
         (refine takeL (i:=12) (v:=?_) rfl (by kernel_rfl) (by kernel_rfl) (by kernel_rfl) (fun _ _ _ h=>h) (Or.inl ⟨by rfl,?_⟩) (by assumption) ?_)
         rotate_left
         ·(intro w hSw;(try dsimp only at hSw);go_simp;first | done | with_reducible rfl)
         (try simp only [Act.put,List.setIfInBounds_toArray,List.set_cons_zero,List.set_cons_succ])
         (refine wpAnyH_done (by kernel_rfl) ?_ _)
         go_wp2_with fail
         go_meet
         exact ⟨ob,bB,cB,rfl,rfl,Lib.hid ⟨hF4.out,hF1.out,nodes_slC hF2.out hF3.out⟩⟩
       case rest =>
        obtain ⟨ob,bB,cB,rfl,rfl,hR9⟩:=hcut
        obtain ⟨hb9,hob9,hsB9⟩:=hR9.out
        obtain ⟨-,⟨g0,g1⟩,-⟩:=hS7.out _ hb9
        have hb09:=hb07.out.trans (hb9.mono hb07.out.size)
        have qh:=qH2.out _ _ hb09 (hsL7.out.ext hb9)
        replace hb9:=Lib.hid hb9
        replace hob9:=Lib.hid hob9
        replace hsB9:=Lib.hid hsB9
        replace hb09:=Lib.hid hb09
        clear hR9 qH2 qB
        go_wp2_with fail
        refine qh.mono ?_
        rintro e w10 ⟨vH,uh,rfl,hoH,hRH,hb10⟩
        have hsH:=nodes_slC hoH hRH
        obtain ⟨bH,cH,rfl⟩:∃ b c,vH = .slice b HL.length c:=own_shape hoH
        have hx11:=(Ext.refl w10).alloc (.cells #[.int .i64 n,.slice bH HL.length cH] 24)
        have hn11:=heap_alloc_new w10 (.cells #[.int .i64 n,.slice bH HL.length cH] 24)
        have hb911:=hb10.trans (hx11.below.mono hb10.size)
        have hb711:=hb9.out.trans (hb911.mono hb9.out.size)
        have hb011:=Lib.hid (hb09.out.trans (hb911.mono hb09.out.size))
        have hob11:=(hb911.block _ (Array.getElem?_eq_some_iff.1 hob9.out).1).trans hob9.out
        replace hsH:=Lib.hid (hsH.ext hx11.below)
        have hsB:=Lib.hid (hsB9.out.ext hb911)
        replace hb711:=Lib.hid hb711
        replace hn11:=Lib.hid hn11
        replace hob11:=Lib.hid hob11
        clear qh hoH hRH hb10 hx11 hb911 hob9 hsB9 hb9 hb09 g0 g1
        go_wp2_with fail
        obtain ⟨hbb,hhb⟩:∃ x,x = w10.heap.size:=⟨_,rfl⟩
        obtain ⟨w11,hw11⟩:∃ x,x = w10.alloc (.cells #[.int .i64 n,.slice bH HL.length cH] 24):=⟨_,rfl⟩
        rw [←hw11] at hb711 hb011 hob11 hsH hsB hn11 ⊢
        rw [←hhb] at hn11 ⊢
        clear hw11 hhb
        have hS:Hid (∀ V,Below w11.heap.size w11 V→((V.cell? ⟨hbb,0,none⟩ = some (.int .i64 n)∧V.cell? ⟨hbb,1,none⟩ = some (.slice bH HL.length cH))∧(V.cell? ⟨ob,0,none⟩ = some (.int .i64 n)∧V.cell? ⟨ob,1,none⟩ = some (.slice bB BL.length cB))∧V.cell? ⟨w.heap.size+1,0,none⟩ = some (.int .u64 (lo a))∧V.cell? ⟨w.heap.size+1,1,none⟩ = some (.int .u64 (hi a)))):=Lib.hid fun V hV=>by
         have f1:=(hV.block _ (Array.getElem?_eq_some_iff.1 hn11.out).1).trans hn11.out
         have f2:=(hV.block _ (Array.getElem?_eq_some_iff.1 hob11.out).1).trans hob11.out
         obtain ⟨-,-,h3⟩:=hS7.out V (hb711.out.trans (hV.mono hb711.out.size))
         exact ⟨⟨by rw [World.cell?,f1];rfl,by rw [World.cell?,f1];rfl⟩,⟨by rw [World.cell?,f2];rfl,by rw [World.cell?,f2];rfl⟩,h3⟩
        have hE:Hid (Below w11.heap.size w11 w11.drew):=Lib.hid (Below.refl _ _).drew
        obtain ⟨⟨p0,p1⟩,⟨p2,p3⟩,p4,p5⟩:=hS.out _ (Below.refl _ _)
        (refine wp_region_held_drew (S:=(fun V=>(V.cell? ⟨hbb,0,none⟩ = some (.int .i64 n)∧V.cell? ⟨hbb,1,none⟩ = some (.slice bH HL.length cH))∧(V.cell? ⟨ob,0,none⟩ = some (.int .i64 n)∧V.cell? ⟨ob,1,none⟩ = some (.slice bB BL.length cB))∧V.cell? ⟨w.heap.size+1,0,none⟩ = some (.int .u64 (lo a))∧V.cell? ⟨w.heap.size+1,1,none⟩ = some (.int .u64 (hi a)))) (by kernel_rfl) ?_ (fun hHeld=>?_))
        ·exact hS.out _ hE.out
        clear p0 p1 p2 p3 p4 p5
        (refine takeL (i:=0) (v:=?_) rfl (by kernel_rfl) (by kernel_rfl) (by kernel_rfl) (fun _ _ _ h=>h) (Or.inl ⟨by rfl,?_⟩) (by assumption) ?_)
        rotate_left
        ·(intro w hSw;(try dsimp only at hSw);go_simp;first | done | with_reducible rfl)
        (try simp only [Act.put,List.setIfInBounds_toArray,List.set_cons_zero,List.set_cons_succ])
        (refine takeL (i:=1) (v:=?_) rfl (by kernel_rfl) (by kernel_rfl) (by kernel_rfl) (fun _ _ _ h=>h) (Or.inl ⟨by rfl,?_⟩) (by assumption) ?_)
        rotate_left
        ·(intro w hSw;(try dsimp only at hSw);go_simp;first | done | with_reducible rfl)
        (try simp only [Act.put,List.setIfInBounds_toArray,List.set_cons_zero,List.set_cons_succ])
        (refine takeL (i:=2) (v:=?_) rfl (by kernel_rfl) (by kernel_rfl) (by kernel_rfl) (fun _ _ _ h=>h) (Or.inl ⟨by rfl,?_⟩) (by assumption) ?_)
        rotate_left
        ·(intro w hSw;(try dsimp only at hSw);go_simp;first | done | with_reducible rfl)
        (try simp only [Act.put,List.setIfInBounds_toArray,List.set_cons_zero,List.set_cons_succ])
        (refine takeL (i:=3) (v:=?_) rfl (by kernel_rfl) (by kernel_rfl) (by kernel_rfl) (fun _ _ _ h=>h) (Or.inl ⟨by rfl,?_⟩) (by assumption) ?_)
        rotate_left
        ·(intro w hSw;(try dsimp only at hSw);go_simp;first | done | with_reducible rfl)
        (try simp only [Act.put,List.setIfInBounds_toArray,List.set_cons_zero,List.set_cons_succ])
        (refine takeL (i:=4) (v:=?_) rfl (by kernel_rfl) (by kernel_rfl) (by kernel_rfl) (fun _ _ _ h=>h) (Or.inl ⟨by rfl,?_⟩) (by assumption) ?_)
        rotate_left
        ·(intro w hSw;(try dsimp only at hSw);go_simp;first | done | with_reducible rfl)
        (try simp only [Act.put,List.setIfInBounds_toArray,List.set_cons_zero,List.set_cons_succ])
        (refine takeL (i:=6) (v:=?_) rfl (by kernel_rfl) (by kernel_rfl) (by kernel_rfl) (fun _ _ _ h=>h) (Or.inl ⟨by rfl,?_⟩) (by assumption) ?_)
        rotate_left
        ·(intro w hSw;(try dsimp only at hSw);go_simp;first | done | with_reducible rfl)
        (try simp only [Act.put,List.setIfInBounds_toArray,List.set_cons_zero,List.set_cons_succ])
        (refine takeL (i:=7) (v:=?_) rfl (by kernel_rfl) (by kernel_rfl) (by kernel_rfl) (fun _ _ _ h=>h) (Or.inl ⟨by rfl,?_⟩) (by assumption) ?_)
        rotate_left
        ·(intro w hSw;(try dsimp only at hSw);go_simp;first | done | with_reducible rfl)
        (try simp only [Act.put,List.setIfInBounds_toArray,List.set_cons_zero,List.set_cons_succ])
        (refine wpAnyH_ready (rs:=[5]) (by kernel_rfl) (by simp) ?_)
        (refine consL rfl (fun K hK=>?_))
        ((rw [if_pos (by rfl)]);go_simp;(go_at_call 19);refine (qE1.out _ _ (hsH.out.ext hE.out)).mono ?_;rintro e wv ⟨rfl,hbv⟩;replace hE:=Lib.hid (hE.out.trans (hbv.mono hE.out.size));refine hK.out _ _ (hS.out _ hE.out) (fun hHeld=>?_);clear hbv)
        (clear hK K)
        (try simp only [Act.put,List.setIfInBounds_toArray,List.set_cons_zero,List.set_cons_succ])
        (refine wpAnyH_ready (rs:=[8]) (by kernel_rfl) (by simp) ?_)
        (refine consL rfl (fun K hK=>?_))
        ((rw [if_pos (by rfl)]);go_simp;(go_at_call 19);refine (qE2.out _ _ (hsB.out.ext hE.out)).mono ?_;rintro e wv ⟨rfl,hbv⟩;replace hE:=Lib.hid (hE.out.trans (hbv.mono hE.out.size));refine hK.out _ _ (hS.out _ hE.out) (fun hHeld=>?_);clear hbv)
        (clear hK K)
        (try simp only [Act.put,List.setIfInBounds_toArray,List.set_cons_zero,List.set_cons_succ])
        (refine takeL (i:=9) (v:=?_) rfl (by kernel_rfl) (by kernel_rfl) (by kernel_rfl) (fun _ _ _ h=>h) (Or.inl ⟨by rfl,?_⟩) (by assumption) ?_)
        rotate_left
        ·(intro w hSw;(try dsimp only at hSw);go_simp;first | done | with_reducible rfl)
        (try simp only [Act.put,List.setIfInBounds_toArray,List.set_cons_zero,List.set_cons_succ])
        (refine takeL (i:=10) (v:=?_) rfl (by kernel_rfl) (by kernel_rfl) (by kernel_rfl) (fun _ _ _ h=>h) (Or.inl ⟨by rfl,?_⟩) (by assumption) ?_)
        rotate_left
        ·(intro w hSw;(try dsimp only at hSw);go_simp;first | done | with_reducible rfl)
        (try simp only [Act.put,List.setIfInBounds_toArray,List.set_cons_zero,List.set_cons_succ])
        (refine takeL (i:=11) (v:=?_) rfl (by kernel_rfl) (by kernel_rfl) (by kernel_rfl) (fun _ _ _ h=>h) (Or.inl ⟨by rfl,?_⟩) (by assumption) ?_)
        rotate_left
        ·(intro w hSw;(try dsimp only at hSw);go_simp;first | done | with_reducible rfl)
        (try simp only [Act.put,List.setIfInBounds_toArray,List.set_cons_zero,List.set_cons_succ])
        (refine wpAnyH_ready (rs:=[12]) (by kernel_rfl) (by simp) ?_)
        (refine consL rfl (fun K hK=>?_))
        ((rw [if_pos (by rfl)]);go_simp;(go_at_call 11);refine (hw.out _ (hb011.out.trans (hE.out.mono hb011.out.size))).mono ?_;rintro e wv ⟨rfl,hbv⟩;replace hE:=Lib.hid (hE.out.trans (hbv.mono hE.out.size));refine hK.out _ _ (hS.out _ hE.out) (fun hHeld=>?_);clear hbv)
        (clear hK K)
        (try simp only [Act.put,List.setIfInBounds_toArray,List.set_cons_zero,List.set_cons_succ])
        (refine takeL (i:=13) (v:=?_) rfl (by kernel_rfl) (by kernel_rfl) (by kernel_rfl) (fun _ _ _ h=>h) (Or.inl ⟨by rfl,?_⟩) (by assumption) ?_)
        rotate_left
        ·(intro w hSw;(try dsimp only at hSw);go_simp;first | done | with_reducible rfl)
        (try simp only [Act.put,List.setIfInBounds_toArray,List.set_cons_zero,List.set_cons_succ])
        (refine takeL (i:=14) (v:=?_) rfl (by kernel_rfl) (by kernel_rfl) (by kernel_rfl) (fun _ _ _ h=>h) (Or.inl ⟨by rfl,?_⟩) (by assumption) ?_)
        rotate_left
        ·(intro w hSw;(try dsimp only at hSw);go_simp;first | done | with_reducible rfl)
        (try simp only [Act.put,List.setIfInBounds_toArray,List.set_cons_zero,List.set_cons_succ])
        (refine wpAnyH_done (by kernel_rfl) ?_ _)
        clear hHeld
        go_wp2_with fail
        go_ret
        exact ⟨rfl,hb011.out.trans (hE.out.mono hb011.out.size)⟩
      ·have qB:Hid (∀ (W:World) (hW:Below w7.heap.size w7 W) (v:Value),SlI W v (x++y)→Calls Tryz.prog 13 #[.agg #[.int .i64 n,.slice ba nl.length cp],v] W fun e w'=>e = .returned (.tuple #[.agg #[.int .i64 0,.slice none 0 0],.int .i64 1])∧Below W.heap.size W w'):=Lib.hid fun W hW v hs=>by
        have hW0:=hb07.out.trans (hW.mono hb07.out.size)
        have:=given_err (t:=x++y) (hvq.out.ext hW0) (by rw [List.length_map];omega) hC20.out hs (by rw [List.length_append];omega) (fun h=>hTT h.2)
        exact this
       replace hTT:=Lib.hid hTT
       clear qH qEH qEB htl
       go_upto_region 9 with fail
       have hE:Hid (Below w7.heap.size w7 w7.drew):=Lib.hid (Below.refl _ _).drew
       go_cut [10,12] from 51 to 60 (fun s10 s12 wx=>∃ (ob:Nat),s10 = .int .i64 1∧s12 = .pointer (some ⟨ob,0,none⟩)∧Hid (Below w7.heap.size w7 wx))
       case first =>
        obtain ⟨⟨p0,p1⟩,-,-⟩:=hS7.out w7 (Below.refl _ _)
        have hS:Hid (∀ V,Below w7.heap.size w7 V→V.cell? ⟨w.heap.size,0,none⟩ = some (.int .i64 n)∧V.cell? ⟨w.heap.size,1,none⟩ = some (.slice ba nl.length cp)):=Lib.hid fun V hV=>(hS7.out V hV).1
        (refine wp_region_held_drew (S:=(fun V=>V.cell? ⟨w.heap.size,0,none⟩ = some (.int .i64 n)∧V.cell? ⟨w.heap.size,1,none⟩ = some (.slice ba nl.length cp))) (by kernel_rfl) ?_ (fun hHeld=>?_))
        ·exact hS.out _ hE.out
        clear p0 p1
        generalize w7.drew = wd at *
        (refine takeL (i:=0) (v:=?_) rfl (by kernel_rfl) (by kernel_rfl) (by kernel_rfl) (fun _ _ _ h=>h) (Or.inl ⟨by rfl,?_⟩) (by assumption) ?_)
        rotate_left
        ·(intro w hSw;(try dsimp only at hSw);go_simp;first | done | with_reducible rfl)
        (try simp only [Act.put,List.setIfInBounds_toArray,List.set_cons_zero,List.set_cons_succ])
        (refine takeL (i:=2) (v:=?_) rfl (by kernel_rfl) (by kernel_rfl) (by kernel_rfl) (fun _ _ _ h=>h) (Or.inl ⟨by rfl,?_⟩) (by assumption) ?_)
        rotate_left
        ·(intro w hSw;(try dsimp only at hSw);go_simp;first | done | with_reducible rfl)
        (try simp only [Act.put,List.setIfInBounds_toArray,List.set_cons_zero,List.set_cons_succ])
        (refine takeL (i:=4) (v:=?_) rfl (by kernel_rfl) (by kernel_rfl) (by kernel_rfl) (fun _ _ _ h=>h) (Or.inl ⟨by rfl,?_⟩) (by assumption) ?_)
        rotate_left
        ·(intro w hSw;(try dsimp only at hSw);go_simp;first | done | with_reducible rfl)
        (try simp only [Act.put,List.setIfInBounds_toArray,List.set_cons_zero,List.set_cons_succ])
        refine wpAnyH_ready (rs:=[1,10]) (by kernel_rfl) (by simp) ?_
        refine consL2 rfl rfl (fun K hK=>?_) (fun K hK=>?_)
        ·(rw [if_pos (by rfl)])
         go_simp
         obtain ⟨xr,wv,hx',hW,hE2,hxn,hxl,hbv⟩:=belAllocE hE.out (.cells #[] 3)
         rw [←hW,←hx']
         have hro:Hid (wv.ownsRow w7.heap.size 3 1 (.slice (some ⟨xr,0,none⟩) 0 0) 0 []):=Lib.hid ⟨rfl,.inr ⟨xr,0,#[],rfl,hxl,hxn,Nat.le_refl _,by unfold maxLen;omega,rfl,rfl⟩⟩
         replace hE:=Lib.hid hE2
         replace hx':=Lib.hid hx'
         replace hW:=Lib.hid hW
         refine hK.out _ _ (hS.out _ hE.out) (fun hHeld=>?_)
         clear hE2 hxn hbv hx' hW hxl
         (clear hK K)
         (try simp only [Act.put,List.setIfInBounds_toArray,List.set_cons_zero,List.set_cons_succ])
         refine wpAnyH_ready (rs:=[3,10]) (by kernel_rfl) (by simp) ?_
         refine consL2 rfl rfl (fun K hK=>?_) (fun K hK=>?_)
         ·(rw [if_pos (by rfl)])
          refine wp_append_ints _ _ rfl w7.heap.size i0 hi0 hz0 hz1 hz2 _ 0 [] rfl hro.out tx cx x rfl (hcx.out _ hE.out) (by omega) hE.out.size (fun v4 w4 ho4 hg4=>?_)
          rw [List.nil_append,Nat.zero_add] at ho4
          replace hE:=Lib.hid (Below.grown hE.out hg4 hE.out.size (fun k e=>own_ge hro.out e))
          obtain ⟨b4,c4,rfl⟩:∃ b c,v4 = .slice b x.length c:=own_shape ho4
          replace hro:=Lib.hid ho4
          refine hK.out _ _ (hS.out _ hE.out) (fun hHeld=>?_)
          clear ho4 hg4
          (clear hK K)
          (try simp only [Act.put,List.setIfInBounds_toArray,List.set_cons_zero,List.set_cons_succ])
          refine wpAnyH_ready (rs:=[5,10]) (by kernel_rfl) (by simp) ?_
          refine consL2 rfl rfl (fun K hK=>?_) (fun K hK=>?_)
          ·(rw [if_pos (by rfl)])
           refine wp_append_ints _ _ rfl w7.heap.size i0 hi0 hz0 hz1 hz2 _ x.length (x.map encZ) rfl hro.out ty cy y rfl (hcy.out _ hE.out) (by omega) hE.out.size (fun v4 w4 ho4 hg4=>?_)
           rw [←List.map_append] at ho4
           replace hE:=Lib.hid (Below.grown hE.out hg4 hE.out.size (fun k e=>own_ge hro.out e))
           obtain ⟨b5,c5,rfl⟩:∃ b c,v4 = .slice b (x.length+y.length) c:=own_shape ho4
           replace hro:=Lib.hid ho4
           refine hK.out _ _ (hS.out _ hE.out) (fun hHeld=>?_)
           clear ho4 hg4
           (clear hK K)
           (try simp only [Act.put,List.setIfInBounds_toArray,List.set_cons_zero,List.set_cons_succ])
           refine wpAnyH_ready (rs:=[6,10]) (by kernel_rfl) (by simp) ?_
           refine consL2 rfl rfl (fun K hK=>?_) (fun K hK=>?_)
           ·(rw [if_pos (by rfl)])
            go_simp
            (go_at_call 13);refine (qB.out _ hE.out _ (owns_slI (l:=x++y) (by rw [List.length_append];exact hro.out))).mono ?_
            rintro e wv ⟨rfl,hbv⟩
            replace hE:=Lib.hid (hE.out.trans (hbv.mono hE.out.size))
            refine hK.out _ _ (hS.out _ hE.out) (fun hHeld=>?_)
            clear hbv hro
            (clear hK K)
            (try simp only [Act.put,List.setIfInBounds_toArray,List.set_cons_zero,List.set_cons_succ])
            (refine takeL (i:=7) (v:=?_) rfl (by kernel_rfl) (by kernel_rfl) (by kernel_rfl) (fun _ _ _ h=>h) (Or.inl ⟨by rfl,?_⟩) (by assumption) ?_)
            rotate_left
            ·(intro w hSw;(try dsimp only at hSw);go_simp;first | done | with_reducible rfl)
            (try simp only [Act.put,List.setIfInBounds_toArray,List.set_cons_zero,List.set_cons_succ])
            (refine takeL (i:=8) (v:=?_) rfl (by kernel_rfl) (by kernel_rfl) (by kernel_rfl) (fun _ _ _ h=>h) (Or.inl ⟨by rfl,?_⟩) (by assumption) ?_)
            rotate_left
            ·(intro w hSw;(try dsimp only at hSw);go_simp;first | done | with_reducible rfl)
            (try simp only [Act.put,List.setIfInBounds_toArray,List.set_cons_zero,List.set_cons_succ])
            (refine takeL (i:=9) (v:=?_) rfl (by kernel_rfl) (by kernel_rfl) (by kernel_rfl) (fun _ _ _ h=>h) (Or.inl ⟨by rfl,?_⟩) (by assumption) ?_)
            rotate_left
            ·(intro w hSw;(try dsimp only at hSw);go_simp;first | done | with_reducible rfl)
            (try simp only [Act.put,List.setIfInBounds_toArray,List.set_cons_zero,List.set_cons_succ])
            refine wpAnyH_ready (rs:=[10]) (by kernel_rfl) (by simp) ?_
            refine consL rfl (fun K hK=>?_)
            (rw [if_pos (by rfl)])
            go_simp
            obtain ⟨ob,wv,hx',hW,hE2,hob,hobl,hbv⟩:=belAllocE hE.out (.cells #[.int .i64 0,.slice none 0 0] 24)
            rw [←hW,←hx']
            replace hob:=Lib.hid hob
            replace hE:=Lib.hid hE2
            replace hx':=Lib.hid hx'
            replace hW:=Lib.hid hW
            refine hK.out _ _ (hS.out _ hE.out) (fun hHeld=>?_)
            clear hE2 hbv hx' hW
            (clear hK K)
            (try simp only [Act.put,List.setIfInBounds_toArray,List.set_cons_zero,List.set_cons_succ])
            obtain ⟨⟨z0,z1⟩,y0,y1⟩:=zbox hob.out
            have hF4:=Lib.hid ((hE.out.setCell (p:=⟨ob,0,none⟩) hobl (.int .i64 0)).setCell (p:=⟨ob,1,none⟩) hobl (.slice none 0 0))
            (refine wpAnyH_ready (rs:=[11]) (by kernel_rfl) (by simp) ?_)
            (refine consL rfl (fun K hK=>?_))
            ((rw [if_pos (by rfl)]);go_simp;refine hK.out _ _ (hS.out _ hF4.out) (fun hHeld=>?_))
            (clear hK K)
            (try simp only [Act.put,List.setIfInBounds_toArray,List.set_cons_zero,List.set_cons_succ])
            (refine takeL (i:=12) (v:=?_) rfl (by kernel_rfl) (by kernel_rfl) (by kernel_rfl) (fun _ _ _ h=>h) (Or.inl ⟨by rfl,?_⟩) (by assumption) ?_)
            rotate_left
            ·(intro w hSw;(try dsimp only at hSw);go_simp;first | done | with_reducible rfl)
            (try simp only [Act.put,List.setIfInBounds_toArray,List.set_cons_zero,List.set_cons_succ])
            (refine wpAnyH_done (by kernel_rfl) ?_ _)
            go_wp2_with fail
            go_meet
            exact ⟨ob,rfl,rfl,hF4⟩
           ·(rw [if_pos (by rfl)])
            go_simp
            obtain ⟨ob,wv,hx',hW,hE2,hob,hobl,hbv⟩:=belAllocE hE.out (.cells #[.int .i64 0,.slice none 0 0] 24)
            replace hro:=Lib.hid (ownsRow_keep hro.out fun g c h=>hbv.block g (Array.getElem?_eq_some_iff.1 h).1)
            rw [←hW,←hx']
            replace hob:=Lib.hid hob
            replace hE:=Lib.hid hE2
            replace hx':=Lib.hid hx'
            replace hW:=Lib.hid hW
            refine hK.out _ _ (hS.out _ hE.out) (fun hHeld=>?_)
            clear hE2 hbv hx' hW
            (clear hK K)
            (try simp only [Act.put,List.setIfInBounds_toArray,List.set_cons_zero,List.set_cons_succ])
            refine wpAnyH_ready (rs:=[6]) (by kernel_rfl) (by simp) ?_
            refine consL rfl (fun K hK=>?_)
            (rw [if_pos (by rfl)])
            go_simp
            (go_at_call 13);refine (qB.out _ hE.out _ (owns_slI (l:=x++y) (by rw [List.length_append];exact hro.out))).mono ?_
            rintro e wv ⟨rfl,hbv⟩
            replace hob:=Lib.hid ((hbv.block _ (Array.getElem?_eq_some_iff.1 hob.out).1).trans hob.out)
            replace hE:=Lib.hid (hE.out.trans (hbv.mono hE.out.size))
            refine hK.out _ _ (hS.out _ hE.out) (fun hHeld=>?_)
            clear hbv hro
            (clear hK K)
            (try simp only [Act.put,List.setIfInBounds_toArray,List.set_cons_zero,List.set_cons_succ])
            (refine takeL (i:=7) (v:=?_) rfl (by kernel_rfl) (by kernel_rfl) (by kernel_rfl) (fun _ _ _ h=>h) (Or.inl ⟨by rfl,?_⟩) (by assumption) ?_)
            rotate_left
            ·(intro w hSw;(try dsimp only at hSw);go_simp;first | done | with_reducible rfl)
            (try simp only [Act.put,List.setIfInBounds_toArray,List.set_cons_zero,List.set_cons_succ])
            (refine takeL (i:=8) (v:=?_) rfl (by kernel_rfl) (by kernel_rfl) (by kernel_rfl) (fun _ _ _ h=>h) (Or.inl ⟨by rfl,?_⟩) (by assumption) ?_)
            rotate_left
            ·(intro w hSw;(try dsimp only at hSw);go_simp;first | done | with_reducible rfl)
            (try simp only [Act.put,List.setIfInBounds_toArray,List.set_cons_zero,List.set_cons_succ])
            (refine takeL (i:=9) (v:=?_) rfl (by kernel_rfl) (by kernel_rfl) (by kernel_rfl) (fun _ _ _ h=>h) (Or.inl ⟨by rfl,?_⟩) (by assumption) ?_)
            rotate_left
            ·(intro w hSw;(try dsimp only at hSw);go_simp;first | done | with_reducible rfl)
            (try simp only [Act.put,List.setIfInBounds_toArray,List.set_cons_zero,List.set_cons_succ])
            obtain ⟨⟨z0,z1⟩,y0,y1⟩:=zbox hob.out
            have hF4:=Lib.hid ((hE.out.setCell (p:=⟨ob,0,none⟩) hobl (.int .i64 0)).setCell (p:=⟨ob,1,none⟩) hobl (.slice none 0 0))
            (refine wpAnyH_ready (rs:=[11]) (by kernel_rfl) (by simp) ?_)
            (refine consL rfl (fun K hK=>?_))
            ((rw [if_pos (by rfl)]);go_simp;refine hK.out _ _ (hS.out _ hF4.out) (fun hHeld=>?_))
            (clear hK K)
            (try simp only [Act.put,List.setIfInBounds_toArray,List.set_cons_zero,List.set_cons_succ])
            (refine takeL (i:=12) (v:=?_) rfl (by kernel_rfl) (by kernel_rfl) (by kernel_rfl) (fun _ _ _ h=>h) (Or.inl ⟨by rfl,?_⟩) (by assumption) ?_)
            rotate_left
            ·(intro w hSw;(try dsimp only at hSw);go_simp;first | done | with_reducible rfl)
            (try simp only [Act.put,List.setIfInBounds_toArray,List.set_cons_zero,List.set_cons_succ])
            (refine wpAnyH_done (by kernel_rfl) ?_ _)
            go_wp2_with fail
            go_meet
            exact ⟨ob,rfl,rfl,hF4⟩
          ·(rw [if_pos (by rfl)])
           go_simp
           obtain ⟨ob,wv,hx',hW,hE2,hob,hobl,hbv⟩:=belAllocE hE.out (.cells #[.int .i64 0,.slice none 0 0] 24)
           replace hro:=Lib.hid (ownsRow_keep hro.out fun g c h=>hbv.block g (Array.getElem?_eq_some_iff.1 h).1)
           rw [←hW,←hx']
           replace hob:=Lib.hid hob
           replace hE:=Lib.hid hE2
           replace hx':=Lib.hid hx'
           replace hW:=Lib.hid hW
           refine hK.out _ _ (hS.out _ hE.out) (fun hHeld=>?_)
           clear hE2 hbv hx' hW
           (clear hK K)
           (try simp only [Act.put,List.setIfInBounds_toArray,List.set_cons_zero,List.set_cons_succ])
           refine wpAnyH_ready (rs:=[5]) (by kernel_rfl) (by simp) ?_
           refine consL rfl (fun K hK=>?_)
           (rw [if_pos (by rfl)])
           refine wp_append_ints _ _ rfl w7.heap.size i0 hi0 hz0 hz1 hz2 _ x.length (x.map encZ) rfl hro.out ty cy y rfl (hcy.out _ hE.out) (by omega) hE.out.size (fun v4 w4 ho4 hg4=>?_)
           rw [←List.map_append] at ho4
           replace hob:=Lib.hid ((grown_other hro.out hg4 hob.out (by decide)).trans hob.out)
           replace hE:=Lib.hid (Below.grown hE.out hg4 hE.out.size (fun k e=>own_ge hro.out e))
           obtain ⟨b5,c5,rfl⟩:∃ b c,v4 = .slice b (x.length+y.length) c:=own_shape ho4
           replace hro:=Lib.hid ho4
           refine hK.out _ _ (hS.out _ hE.out) (fun hHeld=>?_)
           clear ho4 hg4
           (clear hK K)
           (try simp only [Act.put,List.setIfInBounds_toArray,List.set_cons_zero,List.set_cons_succ])
           refine wpAnyH_ready (rs:=[6]) (by kernel_rfl) (by simp) ?_
           refine consL rfl (fun K hK=>?_)
           (rw [if_pos (by rfl)])
           go_simp
           (go_at_call 13);refine (qB.out _ hE.out _ (owns_slI (l:=x++y) (by rw [List.length_append];exact hro.out))).mono ?_
           rintro e wv ⟨rfl,hbv⟩
           replace hob:=Lib.hid ((hbv.block _ (Array.getElem?_eq_some_iff.1 hob.out).1).trans hob.out)
           replace hE:=Lib.hid (hE.out.trans (hbv.mono hE.out.size))
           refine hK.out _ _ (hS.out _ hE.out) (fun hHeld=>?_)
           clear hbv hro
           (clear hK K)
           (try simp only [Act.put,List.setIfInBounds_toArray,List.set_cons_zero,List.set_cons_succ])
           (refine takeL (i:=7) (v:=?_) rfl (by kernel_rfl) (by kernel_rfl) (by kernel_rfl) (fun _ _ _ h=>h) (Or.inl ⟨by rfl,?_⟩) (by assumption) ?_)
           rotate_left
           ·(intro w hSw;(try dsimp only at hSw);go_simp;first | done | with_reducible rfl)
           (try simp only [Act.put,List.setIfInBounds_toArray,List.set_cons_zero,List.set_cons_succ])
           (refine takeL (i:=8) (v:=?_) rfl (by kernel_rfl) (by kernel_rfl) (by kernel_rfl) (fun _ _ _ h=>h) (Or.inl ⟨by rfl,?_⟩) (by assumption) ?_)
           rotate_left
           ·(intro w hSw;(try dsimp only at hSw);go_simp;first | done | with_reducible rfl)
           (try simp only [Act.put,List.setIfInBounds_toArray,List.set_cons_zero,List.set_cons_succ])
           (refine takeL (i:=9) (v:=?_) rfl (by kernel_rfl) (by kernel_rfl) (by kernel_rfl) (fun _ _ _ h=>h) (Or.inl ⟨by rfl,?_⟩) (by assumption) ?_)
           rotate_left
           ·(intro w hSw;(try dsimp only at hSw);go_simp;first | done | with_reducible rfl)
           (try simp only [Act.put,List.setIfInBounds_toArray,List.set_cons_zero,List.set_cons_succ])
           obtain ⟨⟨z0,z1⟩,y0,y1⟩:=zbox hob.out
           have hF4:=Lib.hid ((hE.out.setCell (p:=⟨ob,0,none⟩) hobl (.int .i64 0)).setCell (p:=⟨ob,1,none⟩) hobl (.slice none 0 0))
           (refine wpAnyH_ready (rs:=[11]) (by kernel_rfl) (by simp) ?_)
           (refine consL rfl (fun K hK=>?_))
           ((rw [if_pos (by rfl)]);go_simp;refine hK.out _ _ (hS.out _ hF4.out) (fun hHeld=>?_))
           (clear hK K)
           (try simp only [Act.put,List.setIfInBounds_toArray,List.set_cons_zero,List.set_cons_succ])
           (refine takeL (i:=12) (v:=?_) rfl (by kernel_rfl) (by kernel_rfl) (by kernel_rfl) (fun _ _ _ h=>h) (Or.inl ⟨by rfl,?_⟩) (by assumption) ?_)
           rotate_left
           ·(intro w hSw;(try dsimp only at hSw);go_simp;first | done | with_reducible rfl)
           (try simp only [Act.put,List.setIfInBounds_toArray,List.set_cons_zero,List.set_cons_succ])
           (refine wpAnyH_done (by kernel_rfl) ?_ _)
           go_wp2_with fail
           go_meet
           exact ⟨ob,rfl,rfl,hF4⟩
         ·(rw [if_pos (by rfl)])
          go_simp
          obtain ⟨ob,wv,hx',hW,hE2,hob,hobl,hbv⟩:=belAllocE hE.out (.cells #[.int .i64 0,.slice none 0 0] 24)
          replace hro:=Lib.hid (ownsRow_keep hro.out fun g c h=>hbv.block g (Array.getElem?_eq_some_iff.1 h).1)
          rw [←hW,←hx']
          replace hob:=Lib.hid hob
          replace hE:=Lib.hid hE2
          replace hx':=Lib.hid hx'
          replace hW:=Lib.hid hW
          refine hK.out _ _ (hS.out _ hE.out) (fun hHeld=>?_)
          clear hE2 hbv hx' hW
          (clear hK K)
          (try simp only [Act.put,List.setIfInBounds_toArray,List.set_cons_zero,List.set_cons_succ])
          refine wpAnyH_ready (rs:=[3]) (by kernel_rfl) (by simp) ?_
          refine consL rfl (fun K hK=>?_)
          (rw [if_pos (by rfl)])
          refine wp_append_ints _ _ rfl w7.heap.size i0 hi0 hz0 hz1 hz2 _ 0 [] rfl hro.out tx cx x rfl (hcx.out _ hE.out) (by omega) hE.out.size (fun v4 w4 ho4 hg4=>?_)
          rw [List.nil_append,Nat.zero_add] at ho4
          replace hob:=Lib.hid ((grown_other hro.out hg4 hob.out (by decide)).trans hob.out)
          replace hE:=Lib.hid (Below.grown hE.out hg4 hE.out.size (fun k e=>own_ge hro.out e))
          obtain ⟨b4,c4,rfl⟩:∃ b c,v4 = .slice b x.length c:=own_shape ho4
          replace hro:=Lib.hid ho4
          refine hK.out _ _ (hS.out _ hE.out) (fun hHeld=>?_)
          clear ho4 hg4
          (clear hK K)
          (try simp only [Act.put,List.setIfInBounds_toArray,List.set_cons_zero,List.set_cons_succ])
          refine wpAnyH_ready (rs:=[5]) (by kernel_rfl) (by simp) ?_
          refine consL rfl (fun K hK=>?_)
          (rw [if_pos (by rfl)])
          refine wp_append_ints _ _ rfl w7.heap.size i0 hi0 hz0 hz1 hz2 _ x.length (x.map encZ) rfl hro.out ty cy y rfl (hcy.out _ hE.out) (by omega) hE.out.size (fun v4 w4 ho4 hg4=>?_)
          rw [←List.map_append] at ho4
          replace hob:=Lib.hid ((grown_other hro.out hg4 hob.out (by decide)).trans hob.out)
          replace hE:=Lib.hid (Below.grown hE.out hg4 hE.out.size (fun k e=>own_ge hro.out e))
          obtain ⟨b5,c5,rfl⟩:∃ b c,v4 = .slice b (x.length+y.length) c:=own_shape ho4
          replace hro:=Lib.hid ho4
          refine hK.out _ _ (hS.out _ hE.out) (fun hHeld=>?_)
          clear ho4 hg4
          (clear hK K)
          (try simp only [Act.put,List.setIfInBounds_toArray,List.set_cons_zero,List.set_cons_succ])
          refine wpAnyH_ready (rs:=[6]) (by kernel_rfl) (by simp) ?_
          refine consL rfl (fun K hK=>?_)
          (rw [if_pos (by rfl)])
          go_simp
          (go_at_call 13);refine (qB.out _ hE.out _ (owns_slI (l:=x++y) (by rw [List.length_append];exact hro.out))).mono ?_
          rintro e wv ⟨rfl,hbv⟩
          replace hob:=Lib.hid ((hbv.block _ (Array.getElem?_eq_some_iff.1 hob.out).1).trans hob.out)
          replace hE:=Lib.hid (hE.out.trans (hbv.mono hE.out.size))
          refine hK.out _ _ (hS.out _ hE.out) (fun hHeld=>?_)
          clear hbv hro
          (clear hK K)
          (try simp only [Act.put,List.setIfInBounds_toArray,List.set_cons_zero,List.set_cons_succ])
          (refine takeL (i:=7) (v:=?_) rfl (by kernel_rfl) (by kernel_rfl) (by kernel_rfl) (fun _ _ _ h=>h) (Or.inl ⟨by rfl,?_⟩) (by assumption) ?_)
          rotate_left
          ·(intro w hSw;(try dsimp only at hSw);go_simp;first | done | with_reducible rfl)
          (try simp only [Act.put,List.setIfInBounds_toArray,List.set_cons_zero,List.set_cons_succ])
          (refine takeL (i:=8) (v:=?_) rfl (by kernel_rfl) (by kernel_rfl) (by kernel_rfl) (fun _ _ _ h=>h) (Or.inl ⟨by rfl,?_⟩) (by assumption) ?_)
          rotate_left
          ·(intro w hSw;(try dsimp only at hSw);go_simp;first | done | with_reducible rfl)
          (try simp only [Act.put,List.setIfInBounds_toArray,List.set_cons_zero,List.set_cons_succ])
          (refine takeL (i:=9) (v:=?_) rfl (by kernel_rfl) (by kernel_rfl) (by kernel_rfl) (fun _ _ _ h=>h) (Or.inl ⟨by rfl,?_⟩) (by assumption) ?_)
          rotate_left
          ·(intro w hSw;(try dsimp only at hSw);go_simp;first | done | with_reducible rfl)
          (try simp only [Act.put,List.setIfInBounds_toArray,List.set_cons_zero,List.set_cons_succ])
          obtain ⟨⟨z0,z1⟩,y0,y1⟩:=zbox hob.out
          have hF4:=Lib.hid ((hE.out.setCell (p:=⟨ob,0,none⟩) hobl (.int .i64 0)).setCell (p:=⟨ob,1,none⟩) hobl (.slice none 0 0))
          (refine wpAnyH_ready (rs:=[11]) (by kernel_rfl) (by simp) ?_)
          (refine consL rfl (fun K hK=>?_))
          ((rw [if_pos (by rfl)]);go_simp;refine hK.out _ _ (hS.out _ hF4.out) (fun hHeld=>?_))
          (clear hK K)
          (try simp only [Act.put,List.setIfInBounds_toArray,List.set_cons_zero,List.set_cons_succ])
          (refine takeL (i:=12) (v:=?_) rfl (by kernel_rfl) (by kernel_rfl) (by kernel_rfl) (fun _ _ _ h=>h) (Or.inl ⟨by rfl,?_⟩) (by assumption) ?_)
          rotate_left
          ·(intro w hSw;(try dsimp only at hSw);go_simp;first | done | with_reducible rfl)
          (try simp only [Act.put,List.setIfInBounds_toArray,List.set_cons_zero,List.set_cons_succ])
          (refine wpAnyH_done (by kernel_rfl) ?_ _)
          go_wp2_with fail
          go_meet
          exact ⟨ob,rfl,rfl,hF4⟩
        ·(rw [if_pos (by rfl)])
         go_simp
         obtain ⟨ob,wv,hx',hW,hE2,hob,hobl,hbv⟩:=belAllocE hE.out (.cells #[.int .i64 0,.slice none 0 0] 24)
         rw [←hW,←hx']
         replace hob:=Lib.hid hob
         replace hE:=Lib.hid hE2
         replace hx':=Lib.hid hx'
         replace hW:=Lib.hid hW
         refine hK.out _ _ (hS.out _ hE.out) (fun hHeld=>?_)
         clear hE2 hbv hx' hW
         (clear hK K)
         (try simp only [Act.put,List.setIfInBounds_toArray,List.set_cons_zero,List.set_cons_succ])
         refine wpAnyH_ready (rs:=[1]) (by kernel_rfl) (by simp) ?_
         refine consL rfl (fun K hK=>?_)
         (rw [if_pos (by rfl)])
         go_simp
         obtain ⟨xr,wv,hx',hW,hE2,hxn,hxl,hbv⟩:=belAllocE hE.out (.cells #[] 3)
         replace hob:=Lib.hid ((hbv.block _ (Array.getElem?_eq_some_iff.1 hob.out).1).trans hob.out)
         rw [←hW,←hx']
         have hro:Hid (wv.ownsRow w7.heap.size 3 1 (.slice (some ⟨xr,0,none⟩) 0 0) 0 []):=Lib.hid ⟨rfl,.inr ⟨xr,0,#[],rfl,hxl,hxn,Nat.le_refl _,by unfold maxLen;omega,rfl,rfl⟩⟩
         replace hE:=Lib.hid hE2
         replace hx':=Lib.hid hx'
         replace hW:=Lib.hid hW
         refine hK.out _ _ (hS.out _ hE.out) (fun hHeld=>?_)
         clear hE2 hxn hbv hx' hW hxl
         (clear hK K)
         (try simp only [Act.put,List.setIfInBounds_toArray,List.set_cons_zero,List.set_cons_succ])
         refine wpAnyH_ready (rs:=[3]) (by kernel_rfl) (by simp) ?_
         refine consL rfl (fun K hK=>?_)
         (rw [if_pos (by rfl)])
         refine wp_append_ints _ _ rfl w7.heap.size i0 hi0 hz0 hz1 hz2 _ 0 [] rfl hro.out tx cx x rfl (hcx.out _ hE.out) (by omega) hE.out.size (fun v4 w4 ho4 hg4=>?_)
         rw [List.nil_append,Nat.zero_add] at ho4
         replace hob:=Lib.hid ((grown_other hro.out hg4 hob.out (by decide)).trans hob.out)
         replace hE:=Lib.hid (Below.grown hE.out hg4 hE.out.size (fun k e=>own_ge hro.out e))
         obtain ⟨b4,c4,rfl⟩:∃ b c,v4 = .slice b x.length c:=own_shape ho4
         replace hro:=Lib.hid ho4
         refine hK.out _ _ (hS.out _ hE.out) (fun hHeld=>?_)
         clear ho4 hg4
         (clear hK K)
         (try simp only [Act.put,List.setIfInBounds_toArray,List.set_cons_zero,List.set_cons_succ])
         refine wpAnyH_ready (rs:=[5]) (by kernel_rfl) (by simp) ?_
         refine consL rfl (fun K hK=>?_)
         (rw [if_pos (by rfl)])
         refine wp_append_ints _ _ rfl w7.heap.size i0 hi0 hz0 hz1 hz2 _ x.length (x.map encZ) rfl hro.out ty cy y rfl (hcy.out _ hE.out) (by omega) hE.out.size (fun v4 w4 ho4 hg4=>?_)
         rw [←List.map_append] at ho4
         replace hob:=Lib.hid ((grown_other hro.out hg4 hob.out (by decide)).trans hob.out)
         replace hE:=Lib.hid (Below.grown hE.out hg4 hE.out.size (fun k e=>own_ge hro.out e))
         obtain ⟨b5,c5,rfl⟩:∃ b c,v4 = .slice b (x.length+y.length) c:=own_shape ho4
         replace hro:=Lib.hid ho4
         refine hK.out _ _ (hS.out _ hE.out) (fun hHeld=>?_)
         clear ho4 hg4
         (clear hK K)
         (try simp only [Act.put,List.setIfInBounds_toArray,List.set_cons_zero,List.set_cons_succ])
         refine wpAnyH_ready (rs:=[6]) (by kernel_rfl) (by simp) ?_
         refine consL rfl (fun K hK=>?_)
         (rw [if_pos (by rfl)])
         go_simp
         (go_at_call 13);refine (qB.out _ hE.out _ (owns_slI (l:=x++y) (by rw [List.length_append];exact hro.out))).mono ?_
         rintro e wv ⟨rfl,hbv⟩
         replace hob:=Lib.hid ((hbv.block _ (Array.getElem?_eq_some_iff.1 hob.out).1).trans hob.out)
         replace hE:=Lib.hid (hE.out.trans (hbv.mono hE.out.size))
         refine hK.out _ _ (hS.out _ hE.out) (fun hHeld=>?_)
         clear hbv hro
         (clear hK K)
         (try simp only [Act.put,List.setIfInBounds_toArray,List.set_cons_zero,List.set_cons_succ])
         (refine takeL (i:=7) (v:=?_) rfl (by kernel_rfl) (by kernel_rfl) (by kernel_rfl) (fun _ _ _ h=>h) (Or.inl ⟨by rfl,?_⟩) (by assumption) ?_)
         rotate_left
         ·(intro w hSw;(try dsimp only at hSw);go_simp;first | done | with_reducible rfl)
         (try simp only [Act.put,List.setIfInBounds_toArray,List.set_cons_zero,List.set_cons_succ])
         (refine takeL (i:=8) (v:=?_) rfl (by kernel_rfl) (by kernel_rfl) (by kernel_rfl) (fun _ _ _ h=>h) (Or.inl ⟨by rfl,?_⟩) (by assumption) ?_)
         rotate_left
         ·(intro w hSw;(try dsimp only at hSw);go_simp;first | done | with_reducible rfl)
         (try simp only [Act.put,List.setIfInBounds_toArray,List.set_cons_zero,List.set_cons_succ])
         (refine takeL (i:=9) (v:=?_) rfl (by kernel_rfl) (by kernel_rfl) (by kernel_rfl) (fun _ _ _ h=>h) (Or.inl ⟨by rfl,?_⟩) (by assumption) ?_)
         rotate_left
         ·(intro w hSw;(try dsimp only at hSw);go_simp;first | done | with_reducible rfl)
         (try simp only [Act.put,List.setIfInBounds_toArray,List.set_cons_zero,List.set_cons_succ])
         obtain ⟨⟨z0,z1⟩,y0,y1⟩:=zbox hob.out
         have hF4:=Lib.hid ((hE.out.setCell (p:=⟨ob,0,none⟩) hobl (.int .i64 0)).setCell (p:=⟨ob,1,none⟩) hobl (.slice none 0 0))
         (refine wpAnyH_ready (rs:=[11]) (by kernel_rfl) (by simp) ?_)
         (refine consL rfl (fun K hK=>?_))
         ((rw [if_pos (by rfl)]);go_simp;refine hK.out _ _ (hS.out _ hF4.out) (fun hHeld=>?_))
         (clear hK K)
         (try simp only [Act.put,List.setIfInBounds_toArray,List.set_cons_zero,List.set_cons_succ])
         (refine takeL (i:=12) (v:=?_) rfl (by kernel_rfl) (by kernel_rfl) (by kernel_rfl) (fun _ _ _ h=>h) (Or.inl ⟨by rfl,?_⟩) (by assumption) ?_)
         rotate_left
         ·(intro w hSw;(try dsimp only at hSw);go_simp;first | done | with_reducible rfl)
         (try simp only [Act.put,List.setIfInBounds_toArray,List.set_cons_zero,List.set_cons_succ])
         (refine wpAnyH_done (by kernel_rfl) ?_ _)
         go_wp2_with fail
         go_meet
         exact ⟨ob,rfl,rfl,hF4⟩
       case rest =>
        obtain ⟨ob,rfl,rfl,hb9⟩:=hcut
        have hb09:=hb07.out.trans (hb9.out.mono hb07.out.size)
        have q:=hw.out _ hb09
        have hbq:=Lib.hid (hb09)
        go_wp2_with fail
        refine q.mono ?_
        rintro e wq ⟨rfl,hbw⟩
        clear q
        go_wp2_with fail
        go_ret
        exact ⟨rfl,hbq.out.trans (hbw.mono hbq.out.size)⟩
     ·have qg:=fun (W:World) (hW:Below w.heap.size w W)=>given_err (hvq.out.ext hW) hC80 hC20.out (hxq.out.ext hW) (by omega) hok
      replace qg:=Lib.hid qg
      replace hok:=Lib.hid hok
      clear hL hl
      go_enter Tryz.func5,Tryz.ntmps5
      go_wp2_with fail
      rw [←hw2]
      replace hw2:=Lib.hid hw2
      refine q1.mono ?_
      rintro e w3 ⟨rfl,hx3⟩
      have hb3:=(hx2.out.trans hx3).below
      have hb23:=Lib.hid hx3.below
      clear q1 p0 p1 p2 p3 hx3
      have qg3:=qg.out w3 hb3
      obtain ⟨⟨p0,p1⟩,p2,p3⟩:=hbx.out w3 hb23.out
      replace hb3:=Lib.hid hb3
      clear qg
      go_wp2_with fail
      refine qg3.mono ?_
      rintro e w4 ⟨rfl,hb4⟩
      have hx5:=(Ext.refl w4).alloc (.cells #[.int .i64 0,.slice none 0 0] 24)
      have hb5:=hb3.out.trans ((hb4.trans (hx5.below.mono hb4.size)).mono hb3.out.size)
      clear qg3 p0 p1 p2 p3 hb4 hx5 hb3
      have q:=hw.out _ hb5
      have hbq:=Lib.hid (hb5)
      go_wp2_with fail
      refine q.mono ?_
      rintro e wq ⟨rfl,hbw⟩
      clear q
      go_wp2_with fail
      go_ret
      exact ⟨rfl,hbq.out.trans (hbw.mono hbq.out.size)⟩
    ·have d4:decide ((y.length:Int) > 150) = true:=decide_eq_true (by omega)
     go_enter Tryz.func5,Tryz.ntmps5
     go_wp2_with fail
     rw [←hw2]
     replace hw2:=Lib.hid hw2
     refine q1.mono ?_
     rintro e w3 ⟨rfl,hx3⟩
     have hb3:=(hx2.out.trans hx3).below
     have hb23:=Lib.hid hx3.below
     clear q1 p0 p1 p2 p3 hx3
     have q:=hw.out _ hb3
     have hbq:=Lib.hid (hb3)
     go_wp2_with fail
     refine q.mono ?_
     rintro e wq ⟨rfl,hbw⟩
     clear q
     go_wp2_with fail
     go_ret
     exact ⟨rfl,hbq.out.trans (hbw.mono hbq.out.size)⟩
   ·have d3:decide ((x.length:Int) > 150) = true:=decide_eq_true (by omega)
    go_enter Tryz.func5,Tryz.ntmps5
    go_wp2_with fail
    rw [←hw2]
    replace hw2:=Lib.hid hw2
    refine q1.mono ?_
    rintro e w3 ⟨rfl,hx3⟩
    have hb3:=(hx2.out.trans hx3).below
    have hb23:=Lib.hid hx3.below
    clear q1 p0 p1 p2 p3 hx3
    have q:=hw.out _ hb3
    have hbq:=Lib.hid (hb3)
    go_wp2_with fail
    refine q.mono ?_
    rintro e wq ⟨rfl,hbw⟩
    clear q
    go_wp2_with fail
    go_ret
    exact ⟨rfl,hbq.out.trans (hbw.mono hbq.out.size)⟩
theorem condtwice_card {n:Int} {C:List L.Gt} {x y:List Int} {x0 x1:Int} {u xv yv:Value} (w:World) (hP:PowTab w) (hv:SlC w u C∧C.length≤9223372036854775807∧(-9223372036854775808≤n∧n≤9223372036854775807)) (hx:SlI w xv x) (hy:SlI w yv y) (hz:(0≤x0∧x0≤18446744073709551615)∧(0≤x1∧x1≤18446744073709551615)) :
  Calls Tryz.prog 5 #[.agg #[.int .i64 n,u],xv,yv,.agg #[.int .u64 x0,.int .u64 x1]] w fun e w'=>e = .returned (.bool true)∧Below w.heap.size w w':=by
 obtain ⟨a,rfl,rfl⟩:=vset_of hz.1 hz.2
 exact condtwice_any w hP hv.1 hv.2.1 hx hy
end Go.Proofs.YtckhohpbokojdaaGreatDoor
