import Derived.Test.YtckhohpbokojdaaGreatDoorHN46
import Derived.Test.YtckhohpbokojdaaGreatDoorHShelf7
import Derived.Test.YtckhohpbokojdaaGreatDoorHRef3
import Derived.Test.YtckhohpbokojdaaGreatDoorHCi1
import Derived.Test.YtckhohpbokojdaaGreatDoorHLst
import Derived.Test.YtckhohpbokojdaaGreatDoorHRegz
import Derived.Test.YtckhohpbokojdaaGreatDoorHReg
set_option linter.unusedSimpArgs false
set_option linter.unusedVariables false
namespace Go.Proofs.YtckhohpbokojdaaGreatDoor
open Go Go.RowKit Go.Shelf
theorem exS_bit (a:VSet) (l:List Int) (k j:Nat) (hj:j < l.length):exS a l k (j+1) = if k.testBit j = true then withS (withoutS (exS a l k j) l[j]) l[j] else withoutS (exS a l k j) l[j]:=by
 have e:l.getD j 0 = l[j]:=by rw [List.getD_eq_getElem?_getD,List.getElem?_eq_getElem hj];rfl
 rw [show exS a l k (j+1) = if k / 2 ^ j % 2 = 1 then withS (withoutS (exS a l k j) (l.getD j 0)) (l.getD j 0) else withoutS (exS a l k j) (l.getD j 0) from rfl,e,Nat.testBit_eq_decide_div_mod_eq]
 by_cases h:k / 2 ^ j % 2 = 1
 ·rw [if_pos h,decide_eq_true h,if_pos rfl]
 ·rw [if_neg h,decide_eq_false h,if_neg (by decide)]
theorem bits_and64 (y:Nat) (hy:y < 9223372036854775808):bits BinOp.and IntKind.i64 (y:Int) 1 = ((y &&& 1:Nat):Int):=by
 have hlt:y &&& 1 < 9223372036854775808:=Nat.lt_of_le_of_lt Nat.and_le_left hy
 show IntKind.i64.wrap (((BitVec.ofInt 64 (y:Int) &&& BitVec.ofInt 64 ((1:Nat):Int):BitVec 64).toNat:Nat):Int) = _
 rw [show ((BitVec.ofInt 64 (y:Int) &&& BitVec.ofInt 64 ((1:Nat):Int)).toNat) = y &&& 1 from by
  rw [BitVec.toNat_and,BitVec.ofInt_natCast,BitVec.ofInt_natCast,BitVec.toNat_ofNat,BitVec.toNat_ofNat,Nat.mod_eq_of_lt (by omega),Nat.mod_eq_of_lt (by omega)]]
 rw [IntWalk.i64_in _ (by omega)]
theorem bit_one (i b:Nat) (hi:i < 9223372036854775808):(bits BinOp.and IntKind.i64 ((i:Int) / 2 ^ b) 1 == 1) = i.testBit b:=by
 have h1:((i:Int) / 2 ^ b) = ((i / 2 ^ b:Nat):Int):=by simp
 have h2:i / 2 ^ b < 9223372036854775808:=Nat.lt_of_le_of_lt (Nat.div_le_self _ _) hi
 rw [h1,bits_and64 _ h2,Nat.and_one_is_mod,Nat.testBit_eq_decide_div_mod_eq]
 rw [Bool.eq_iff_iff]
 simp
 omega
theorem listV_nodup (s:VSet):(listV s).Nodup:=(L.listVK_sorted s 128).imp fun h=>by omega
def UnI (wA:World) (g m:Nat) (f:Nat→VSet) (u:VSet) (V:World):Prop:=Below wA.heap.size wA V∧SetsAt V g m f∧V.heap[wA.heap.size]? = some (.cells #[.int .u64 (lo u),.int .u64 (hi u)] 37 (0,0))∧wA.heap.size < g
theorem UnI.next {wA V V':World} {g m:Nat} {f:Nat→VSet} {u:VSet} (h:UnI wA g m f u V) (hb:Below V.heap.size V V'):UnI wA g m f u V':=⟨h.1.trans (hb.mono h.1.size),h.2.1.below hb,(hb.block _ (Array.getElem?_eq_some_iff.1 h.2.2.1).1).trans h.2.2.1,h.2.2.2⟩
theorem UnI.set {wA V:World} {g m:Nat} {f:Nat→VSet} {u:VSet} (h:UnI wA g m f u V) (t:VSet):UnI wA g m f t ((V.setCell ⟨wA.heap.size,0,none⟩ (.int .u64 (lo t))).setCell ⟨wA.heap.size,1,none⟩ (.int .u64 (hi t))):=by
 obtain ⟨h1,h2,h3,h4⟩:=h
 have hne:g≠wA.heap.size:=by omega
 exact ⟨(h1.setCell (p:=⟨wA.heap.size,0,none⟩) (Nat.le_refl _) _).setCell (p:=⟨wA.heap.size,1,none⟩) (Nat.le_refl _) _,h2.same ((Below.heap_setCell _ _ _ _ hne).trans (Below.heap_setCell _ _ _ _ hne)),heap_set2 h3 _ _,h4⟩
theorem UnI.cells {wA V:World} {g m:Nat} {f:Nat→VSet} {u:VSet} (h:UnI wA g m f u V):(V.cell? ⟨wA.heap.size,0,none⟩ = some (.int .u64 (lo u))∧V.cell? ⟨wA.heap.size,1,none⟩ = some (.int .u64 (hi u)))∧V.frozen? ⟨wA.heap.size,0,none⟩ = false∧V.frozen? ⟨wA.heap.size,1,none⟩ = false:=⟨⟨by rw [World.cell?,h.2.2.1];rfl,by rw [World.cell?,h.2.2.1];rfl⟩,by simp [World.frozen?,h.2.2.1],by simp [World.frozen?,h.2.2.1]⟩
def BxI (wB:World) (u:VSet) (V:World):Prop:=Below wB.heap.size wB V∧V.heap[wB.heap.size]? = some (.cells #[.int .u64 (lo u),.int .u64 (hi u)] 37 (0,0))
theorem BxI.next {wB V V':World} {u:VSet} (h:BxI wB u V) (hb:Below V.heap.size V V'):BxI wB u V':=⟨h.1.trans (hb.mono h.1.size),(hb.block _ (Array.getElem?_eq_some_iff.1 h.2).1).trans h.2⟩
theorem BxI.set {wB V:World} {u:VSet} (h:BxI wB u V) (t:VSet):BxI wB t ((V.setCell ⟨wB.heap.size,0,none⟩ (.int .u64 (lo t))).setCell ⟨wB.heap.size,1,none⟩ (.int .u64 (hi t))):=⟨(h.1.setCell (p:=⟨wB.heap.size,0,none⟩) (Nat.le_refl _) _).setCell (p:=⟨wB.heap.size,1,none⟩) (Nat.le_refl _) _,heap_set2 h.2 _ _⟩
theorem BxI.cells {wB V:World} {u:VSet} (h:BxI wB u V):(V.cell? ⟨wB.heap.size,0,none⟩ = some (.int .u64 (lo u))∧V.cell? ⟨wB.heap.size,1,none⟩ = some (.int .u64 (hi u)))∧V.frozen? ⟨wB.heap.size,0,none⟩ = false∧V.frozen? ⟨wB.heap.size,1,none⟩ = false:=⟨⟨by rw [World.cell?,h.2];rfl,by rw [World.cell?,h.2];rfl⟩,by simp [World.frozen?,h.2],by simp [World.frozen?,h.2]⟩
set_option maxRecDepth 100000 in
set_option maxHeartbeats 40000000 in
theorem condexists_any {n:Int} {C:List L.Gt} {s a:VSet} {v:Value} (w:World) (hTz:TzTab w) (hP:PowTab w) (hv:SlC w v C) (hl:C.length≤9223372036854775807) :
  Calls Tryz.prog 8 #[.agg #[.int .i64 n,v],.agg #[.int .u64 (lo s),.int .u64 (hi s)],.agg #[.int .u64 (lo a),.int .u64 (hi a)]] w fun e w'=>e = .returned (.bool true)∧Below w.heap.size w w':=by
 have hgP:=hP.lt
 have hw:∀ W,Below w.heap.size w W→Calls Tryz.prog 11 #[] W fun e w''=>e = .returned (.bool true)∧Below W.heap.size W w'':=fun W hx=>works35_any W (hP.below hx) (Nat.lt_of_lt_of_le hgP hx.size)
 have ql:=fun (W:World) (hW:Ext w W)=>light35_any (n:=n) (hv.ext hW.below) hl
 have hvq:=hv
 obtain ⟨ba,cp,rfl,-⟩:=hv.shape
 have hx2:Ext w (((w.alloc (.cells #[.int .i64 n,.slice ba C.length cp] 24)).alloc (.cells #[.int .u64 (lo s),.int .u64 (hi s)] 37)).alloc (.cells #[.int .u64 (lo a),.int .u64 (hi a)] 37)):=(((Ext.refl w).alloc _).alloc _).alloc _
 obtain ⟨e0,e1,e2⟩:=alloc3h w (.cells #[.int .i64 n,.slice ba C.length cp] 24) (.cells #[.int .u64 (lo s),.int .u64 (hi s)] 37) (.cells #[.int .u64 (lo a),.int .u64 (hi a)] 37)
 obtain ⟨w2,hw2⟩:∃ x,x = (((w.alloc (.cells #[.int .i64 n,.slice ba C.length cp] 24)).alloc (.cells #[.int .u64 (lo s),.int .u64 (hi s)] 37)).alloc (.cells #[.int .u64 (lo a),.int .u64 (hi a)] 37)):=⟨_,rfl⟩
 rw [←hw2] at hx2 e0 e1 e2
 have hbx:∀ V,Below w2.heap.size w2 V→(V.cell? ⟨w.heap.size,0,none⟩ = some (.int .i64 n)∧V.cell? ⟨w.heap.size,1,none⟩ = some (.slice ba C.length cp))∧(V.cell? ⟨w.heap.size+1,0,none⟩ = some (.int .u64 (lo s))∧V.cell? ⟨w.heap.size+1,1,none⟩ = some (.int .u64 (hi s)))∧(V.cell? ⟨w.heap.size+1+1,0,none⟩ = some (.int .u64 (lo a))∧V.cell? ⟨w.heap.size+1+1,1,none⟩ = some (.int .u64 (hi a))):=fun V hV=>by
  have f0:=(hV.block _ (Array.getElem?_eq_some_iff.1 e0).1).trans e0
  have f1:=(hV.block _ (Array.getElem?_eq_some_iff.1 e1).1).trans e1
  have f2:=(hV.block _ (Array.getElem?_eq_some_iff.1 e2).1).trans e2
  exact ⟨⟨by rw [World.cell?,f0];rfl,by rw [World.cell?,f0];rfl⟩,⟨by rw [World.cell?,f1];rfl,by rw [World.cell?,f1];rfl⟩,by rw [World.cell?,f2];rfl,by rw [World.cell?,f2];rfl⟩
 obtain ⟨⟨p0,p1⟩,⟨p2,p3⟩,p4,p5⟩:=hbx w2 (Below.refl _ _)
 have q1:=ql w2 hx2
 replace hw:=Lib.hid hw
 replace hvq:=Lib.hid hvq
 replace hbx:=Lib.hid hbx
 replace hx2:=Lib.hid hx2
 replace e0:=Lib.hid e0
 replace e1:=Lib.hid e1
 replace e2:=Lib.hid e2
 replace hP:=Lib.hid hP
 replace hTz:=Lib.hid hTz
 clear hv ql
 rw [hw2] at p0 p1 p2 p3 p4 p5
 cases hL:lightN C with
 | false =>
   rw [hL] at q1
   go_enter Tryz.func8,Tryz.ntmps8
   go_wp2_with fail
   rw [←hw2]
   replace hw2:=Lib.hid hw2
   refine q1.mono ?_
   rintro e w3 ⟨rfl,hx3⟩
   have hb3:=(hx2.out.trans hx3).below
   clear q1 p0 p1 p2 p3 p4 p5 hx3
   have q:=hw.out _ hb3
   have hbq:=Lib.hid (hb3)
   go_wp2_with fail
   refine q.mono ?_
   rintro e wq ⟨rfl,hbw⟩
   clear q
   go_wp2_with fail
   go_ret
   exact ⟨rfl,hbq.out.trans (hbw.mono hbq.out.size)⟩
 | true =>
   rw [hL] at q1
   obtain ⟨hC80,hC20⟩:=light_parts hL
   replace hC20:=Lib.hid hC20
   by_cases hc:L.netChk n C = 0
   ·obtain ⟨nl,rfl,hnlC,hnli⟩:=nodes_of hc
    have hnl80:nl.length≤80:=by omega
    have hnl20:∀ y∈nl,y.inp.length≤20:=fun y hy=>by
     obtain ⟨g,hg,e⟩:=hnli y hy
     have:=hC20.out g hg
     omega
    try simp only [List.length_map] at *
    cases hD:decF nl with
    | false =>
      have qf:=fun (W:World) (hW:Below w.heap.size w W)=>forget_no (s:=s) (hvq.out.ext hW) hc (by omega) (fun y hy=>by have:=hnl20 y hy;omega) hD
      try simp only [List.length_map] at qf
      clear hL hl hnlC hnli
      replace hnl20:=Lib.hid hnl20
      replace qf:=Lib.hid qf
      go_enter Tryz.func8,Tryz.ntmps8
      go_wp2_with fail
      rw [←hw2]
      replace hw2:=Lib.hid hw2
      refine q1.mono ?_
      rintro e w3 ⟨rfl,hx3⟩
      have hb3:=(hx2.out.trans hx3).below
      have qf3:=qf.out w3 hb3
      clear q1 p0 p1 p2 p3 p4 p5
      obtain ⟨⟨p0,p1⟩,⟨p2,p3⟩,-⟩:=hbx.out w3 hx3.below
      replace hb3:=Lib.hid hb3
      clear hx3 qf
      go_wp2_with fail
      refine qf3.mono ?_
      rintro e w4 ⟨rfl,hb4⟩
      have hx5:=(Ext.refl w4).alloc (.cells #[.int .i64 0,.slice none 0 0] 24)
      have hn5:=heap_alloc_new w4 (.cells #[.int .i64 0,.slice none 0 0] 24)
      have hb5:=hb3.out.trans ((hb4.trans (hx5.below.mono hb4.size)).mono hb3.out.size)
      have z0:(w4.alloc (.cells #[.int .i64 0,.slice none 0 0] 24)).cell? ⟨w4.heap.size,0,none⟩ = some (.int .i64 0):=by rw [World.cell?,hn5];rfl
      have z1:(w4.alloc (.cells #[.int .i64 0,.slice none 0 0] 24)).cell? ⟨w4.heap.size,1,none⟩ = some (.slice none 0 0):=by rw [World.cell?,hn5];rfl
      have q:=hw.out _ hb5
      replace hb5:=Lib.hid hb5
      clear qf3 p0 p1 p2 p3 hb4 hx5 hn5 hb3
      go_wp2_with fail
      refine q.mono ?_
      rintro e w6 ⟨rfl,hb6⟩
      clear q z0 z1
      go_wp2_with fail
      go_ret
      exact ⟨rfl,hb5.out.trans (hb6.mono hb5.out.size)⟩
    | true =>
      obtain ⟨r1,r2,r3,r4⟩:=for_chk (s:=s) hc hD
      obtain ⟨l,hldef⟩:∃ l,l = listV (s &&& uniV nl nl.length):=⟨_,rfl⟩
      have hln:l.Nodup:=by rw [hldef];exact listV_nodup _
      have hlm:∀ v,v∈l↔hasS (s &&& uniV nl nl.length) v = true:=fun v=>by rw [hldef];exact L.listV_mem _ v
      have hlaw:=exists_law (a:=a) hc hD hldef hln hlm
      have hfree:=fun (i:Nat) (hi:i < (L.reduceL (nl.map (L.forND s))).length)=>for_free hc hi
      obtain ⟨RL,hRL⟩:∃ x,x = L.reduceL (nl.map (L.forND s)):=⟨_,rfl⟩
      have qf:=fun (W:World) (hW:Below w.heap.size w W)=>forget_ok (s:=s) (hvq.out.ext hW) hc (by omega) (fun y hy=>by have:=hnl20 y hy;omega) hD (hP.out.below hW) (Nat.lt_of_lt_of_le hgP hW.size)
      rw [←hRL] at r1 r2 r3 r4 hlaw
      simp only [←hRL] at qf hfree
      obtain ⟨T,hT⟩:∃ T:Nat→Bool,T = fun k=>L.tv nl (L.asg (exS a l k l.length)) (nl.length - 1):=⟨_,rfl⟩
      have qD:=fun (W:World) (vL:Value) (hs:SlC W vL (RL.map L.ofND))=>decomp_ok hs r1 (by omega) (fun y hy=>by have:=r3 y hy;omega)
      simp only [r4] at qD
      have qV:=fun (W:World) (hW:Below w.heap.size w W)=>nvars_any (hvq.out.ext hW) hc (by omega) (fun y hy=>by have:=hnl20 y hy;omega)
      have qVF:=fun (W:World) (vL:Value) (hs:SlC W vL (RL.map L.ofND))=>nvars_any hs r1 (by omega) (fun y hy=>by have:=r3 y hy;omega)
      have qE:=fun (W:World) (hW:Below w.heap.size w W) (b:VSet)=>neval_any (a:=b) (hvq.out.ext hW) hc (by omega) (fun y hy=>by have:=hnl20 y hy;omega)
      have qEF:=fun (W:World) (vL:Value) (hs:SlC W vL (RL.map L.ofND))=>neval_any (a:=a) hs r1 (by omega) (fun y hy=>by have:=r3 y hy;omega)
      simp only [hlaw] at qEF
      have hTk:∀ k,L.tv nl (L.asg (exS a l k l.length)) (nl.length - 1) = T k:=fun k=>by rw [hT]
      simp only [hTk] at qEF
      try simp only [List.length_map] at *
      have hRl:RL.length≤80:=by omega
      have hl128:l.length≤128:=by
       rw [hldef];exact listVK_len _ 128
      replace hTk:=Lib.hid hTk
      replace hT:=Lib.hid hT
      replace hRL:=Lib.hid hRL
      replace hldef:=Lib.hid hldef
      replace hlm:=Lib.hid hlm
      replace hln:=Lib.hid hln
      replace hlaw:=Lib.hid hlaw
      replace hfree:=Lib.hid hfree
      replace qf:=Lib.hid qf
      replace qD:=Lib.hid qD
      replace qV:=Lib.hid qV
      replace qVF:=Lib.hid qVF
      replace qE:=Lib.hid qE
      replace qEF:=Lib.hid qEF
      replace hc:=Lib.hid hc
      clear r1 r3 r4 hnli hnlC hl hL hnl20 hD
      go_enter Tryz.func8,Tryz.ntmps8
      go_wp2_with fail
      rw [←hw2]
      replace hw2:=Lib.hid hw2
      refine q1.mono ?_
      rintro e w3 ⟨rfl,hx3⟩
      have hb3:=(hx2.out.trans hx3).below
      have qf3:=qf.out w3 hb3
      clear q1 p0 p1 p2 p3 p4 p5
      obtain ⟨⟨p0,p1⟩,⟨p2,p3⟩,-⟩:=hbx.out w3 hx3.below
      replace hb3:=Lib.hid hb3
      replace hx3:=Lib.hid hx3.below
      clear qf
      go_wp2_with fail
      refine qf3.mono ?_
      rintro e w4 ⟨vF,uF,rfl,hoF,hRF,hb4⟩
      have hsF:=nodes_slC hoF hRF
      obtain ⟨bF,cF,rfl⟩:∃ b c,vF = .slice b RL.length c:=own_shape hoF
      have hx5:=(Ext.refl w4).alloc (.cells #[.int .i64 n,.slice bF RL.length cF] 24)
      have hn5:=heap_alloc_new w4 (.cells #[.int .i64 n,.slice bF RL.length cF] 24)
      have hb5:=hb3.out.trans ((hb4.trans (hx5.below.mono hb4.size)).mono hb3.out.size)
      have hb25:=hx3.out.trans ((hb4.trans (hx5.below.mono hb4.size)).mono hx3.out.size)
      replace hsF:=hsF.ext hx5.below
      have qd:=qD.out _ _ hsF
      have f0:(w4.alloc (.cells #[.int .i64 n,.slice bF RL.length cF] 24)).cell? ⟨w4.heap.size,0,none⟩ = some (.int .i64 n):=by rw [World.cell?,hn5];rfl
      have f1:(w4.alloc (.cells #[.int .i64 n,.slice bF RL.length cF] 24)).cell? ⟨w4.heap.size,1,none⟩ = some (.slice bF RL.length cF):=by rw [World.cell?,hn5];rfl
      replace hb5:=Lib.hid hb5
      replace hb25:=Lib.hid hb25
      replace hsF:=Lib.hid hsF
      replace hn5:=Lib.hid hn5
      clear qf3 p0 p1 p2 p3 hb4 hx5 hb3 hx3 hoF hRF qD
      go_wp2_with fail
      generalize hfb:w4.heap.size = fb at *
      generalize (w4.alloc (.cells #[.int .i64 n,.slice bF RL.length cF] 24)) = w5 at *
      clear f0 f1 hfb
      refine qd.mono ?_
      rintro e w6 ⟨rfl,hb6⟩
      have hb26:=hb25.out.trans (hb6.mono hb25.out.size)
      have hb06:=Lib.hid (hb5.out.trans (hb6.mono hb5.out.size))
      have hsF6:=Lib.hid (hsF.out.ext hb6)
      have hn6:=(hb6.block _ (Array.getElem?_eq_some_iff.1 hn5.out).1).trans hn5.out
      have hS6:Hid (∀ V,Below w6.heap.size w6 V→(V.cell? ⟨w.heap.size,0,none⟩ = some (.int .i64 n)∧V.cell? ⟨w.heap.size,1,none⟩ = some (.slice ba nl.length cp))∧(V.cell? ⟨w.heap.size+1,0,none⟩ = some (.int .u64 (lo s))∧V.cell? ⟨w.heap.size+1,1,none⟩ = some (.int .u64 (hi s)))∧(V.cell? ⟨w.heap.size+1+1,0,none⟩ = some (.int .u64 (lo a))∧V.cell? ⟨w.heap.size+1+1,1,none⟩ = some (.int .u64 (hi a)))∧(V.cell? ⟨fb,0,none⟩ = some (.int .i64 n)∧V.cell? ⟨fb,1,none⟩ = some (.slice bF RL.length cF))):=Lib.hid fun V hV=>by
       have f:=(hV.block _ (Array.getElem?_eq_some_iff.1 hn6).1).trans hn6
       obtain ⟨h1,h2,h3⟩:=hbx.out V (hb26.trans (hV.mono hb26.size))
       exact ⟨h1,h2,h3,by rw [World.cell?,f];rfl,by rw [World.cell?,f];rfl⟩
      have hxA:=(Ext.refl w6).alloc (.cells #[.int .u64 0,.int .u64 0] 37)
      have hnA:=heap_alloc_new w6 (.cells #[.int .u64 0,.int .u64 0] 37)
      have hE:=hb06.out.trans (hxA.below.mono hb06.out.size)
      have qv:=qV.out _ hE
      obtain ⟨⟨p0,p1⟩,-,-,⟨p2,p3⟩⟩:=hS6.out _ (Below.refl _ _)
      obtain ⟨⟨p4,p5⟩,-⟩:=hS6.out _ hxA.below
      replace hnA:=Lib.hid hnA
      replace hxA:=Lib.hid hxA
      clear qd hb6 hb26 hn6 hb25 hb5 hsF hn5 qV hE
      go_wp2_with fail
      refine qv.mono ?_
      rintro e w7 ⟨g1,hg1,rfl,hsets,hb7⟩
      have hA0:Hid (UnI w6 g1 nl.length (L.vset nl) (uniV nl 0) w7):=Lib.hid ⟨hxA.out.below.trans (hb7.mono hxA.out.size),hsets,((hb7.block _ (Array.getElem?_eq_some_iff.1 hnA.out).1).trans hnA.out).trans (by rw [show uniV nl 0 = 0 from rfl,show lo 0 = 0 from rfl,show hi 0 = 0 from rfl]),Nat.lt_of_lt_of_le (Array.getElem?_eq_some_iff.1 hnA.out).1 hg1⟩
      clear qv p0 p1 p2 p3 p4 p5 hg1 hsets hb7 hxA hnA
      go_wp2_with fail
      go_loopw [52] (fun i wr=>∃ k:Nat,k≤nl.length∧i = .int .i64 (k:Nat)∧Hid (UnI w6 g1 nl.length (L.vset nl) (uniV nl k) wr)) (fun i _=>nl.length - (intOf i).toNat)
      case atStart=>exact ⟨0,Nat.zero_le _,rfl,hA0⟩
      case round =>
       clear hA0
       obtain ⟨k,hk,rfl,hI⟩:=hrel
       by_cases hlt:k < nl.length
       ·have m0:(0:Int)≤(k:Int):=by omega
        have m1:(k:Int) < (nl.length:Int):=by omega
        obtain ⟨⟨c0,c1⟩,-,-⟩:=hI.out.2.1.cell hlt
        have hus:=uniV_succ nl k
        generalize uniV nl k = u at *
        generalize L.vset nl k = t at *
        have hxx:=(Ext.refl wr).alloc (.cells #[.int .u64 (lo t),.int .u64 (hi t)] 37)
        have hxn:=heap_alloc_new wr (.cells #[.int .u64 (lo t),.int .u64 (hi t)] 37)
        have hI6:=hI.out.next hxx.below
        obtain ⟨⟨d0,d1⟩,-⟩:=hI6.cells
        have t0:(wr.alloc (.cells #[.int .u64 (lo t),.int .u64 (hi t)] 37)).cell? ⟨wr.heap.size,0,none⟩ = some (.int .u64 (lo t)):=by rw [World.cell?,hxn];rfl
        have t1:(wr.alloc (.cells #[.int .u64 (lo t),.int .u64 (hi t)] 37)).cell? ⟨wr.heap.size,1,none⟩ = some (.int .u64 (hi t)):=by rw [World.cell?,hxn];rfl
        have q:=union_agg' u t (wr.alloc (.cells #[.int .u64 (lo t),.int .u64 (hi t)] 37))
        replace hus:=Lib.hid hus
        replace hI6:=Lib.hid hI6
        clear hI hxx hxn
        go_wp2_with fail
        refine q.mono ?_
        rintro e w8 ⟨rfl,hx8⟩
        have hI8:=hI6.out.next hx8.below
        obtain ⟨⟨e0',e1'⟩,z0,z1⟩:=hI8.cells
        have hnx:=hI8.set (u ||| t)
        rw [←hus.out] at hnx
        have hnx':Hid (UnI w6 g1 nl.length (L.vset nl) (uniV nl (k+1)) ((w8.setCell ⟨w6.heap.size,0,none⟩ (.int .u64 (lo (u ||| t)))).setCell ⟨w6.heap.size,1,none⟩ (.int .u64 (hi (u ||| t))))):=Lib.hid (by rw [←hus.out];exact hnx)
        clear q c0 c1 d0 d1 t0 t1 hx8 hI8 hnx hI6
        go_wp2_with fail
        go_roundw
        case rel=>exact ⟨k+1,by omega,by go_num,hnx'⟩
        case measure=>simp [intOf];omega
       ·obtain rfl:k = nl.length:=by omega
        have hw6:=hI.out.1
        obtain ⟨⟨p0,p1⟩,-,-,⟨p2,p3⟩⟩:=hS6.out wr hw6
        have qvf:=qVF.out wr _ (hsF6.out.ext hw6)
        clear p0 p1
        go_wp2_with fail
        generalize uniV nl nl.length = U at *
        refine qvf.mono ?_
        rintro e w9 ⟨g2,hg2,rfl,hsets2,hb9⟩
        have hlt6:=(Array.getElem?_eq_some_iff.1 hI.out.2.2.1).1
        have hB0:Hid (UnI w6 g2 RL.length (L.vset RL) U w9):=Lib.hid ⟨hw6.trans (hb9.mono hw6.size),hsets2,(hb9.block _ hlt6).trans hI.out.2.2.1,Nat.lt_of_lt_of_le hlt6 hg2⟩
        clear qvf p2 p3 hg2 hsets2 hb9 hI hw6 hlt6
        go_wp2_with fail
        go_loopw [63] (fun i wr=>∃ k:Nat,k≤RL.length∧i = .int .i64 (k:Nat)∧Hid (UnI w6 g2 RL.length (L.vset RL) U wr)) (fun i _=>RL.length - (intOf i).toNat)
        case atStart=>exact ⟨0,Nat.zero_le _,rfl,hB0⟩
        case round =>
         clear hB0
         obtain ⟨k,hk,rfl,hI⟩:=hrel
         by_cases hlt:k < RL.length
         ·have m0:(0:Int)≤(k:Int):=by omega
          have m1:(k:Int) < (RL.length:Int):=by omega
          obtain ⟨⟨c0,c1⟩,-,-⟩:=hI.out.2.1.cell hlt
          have hz0:=hfree.out k hlt
          generalize L.vset RL k = t at *
          have hxx:=(Ext.refl wr).alloc (.cells #[.int .u64 (lo t),.int .u64 (hi t)] 37)
          have hxn:=heap_alloc_new wr (.cells #[.int .u64 (lo t),.int .u64 (hi t)] 37)
          have hI6:=hI.out.next hxx.below
          obtain ⟨-,⟨d0,d1⟩,-⟩:=hS6.out _ hI6.1
          have t0:(wr.alloc (.cells #[.int .u64 (lo t),.int .u64 (hi t)] 37)).cell? ⟨wr.heap.size,0,none⟩ = some (.int .u64 (lo t)):=by rw [World.cell?,hxn];rfl
          have t1:(wr.alloc (.cells #[.int .u64 (lo t),.int .u64 (hi t)] 37)).cell? ⟨wr.heap.size,1,none⟩ = some (.int .u64 (hi t)):=by rw [World.cell?,hxn];rfl
          have q:=cut_any t s (wr.alloc (.cells #[.int .u64 (lo t),.int .u64 (hi t)] 37))
          obtain ⟨z,hz⟩:∃ z,z = t &&& s:=⟨_,rfl⟩
          rw [←hz] at q
          have hz2:∀ V,(Op.equalIn 10000 37 (.agg #[.int .u64 (lo z),.int .u64 (hi z)]) (.agg #[.int .u64 0,.int .u64 0])).run Tryz.prog V = .ok true V:=fun V=>by rw [setZ z V,decide_eq_true (hz.trans hz0)]
          clear hz
          replace hI6:=Lib.hid hI6
          clear hI hxx hxn hz0
          go_wp2_with fail
          refine q.mono ?_
          rintro e w8 ⟨rfl,hx8⟩
          have hnx:=Lib.hid (hI6.out.next hx8.below)
          clear q c0 c1 d0 d1 t0 t1 hx8 hI6
          go_wp2_with fail
          go_roundw
          case rel=>exact ⟨k+1,by omega,by go_num,hnx⟩
          case measure=>simp [intOf];omega
         ·obtain rfl:k = RL.length:=by omega
          have hw7:=hI.out.1
          have hbE:=hb06.out.trans (hw7.mono hb06.out.size)
          obtain ⟨-,⟨p0,p1⟩,-,-⟩:=hS6.out wr hw7
          obtain ⟨⟨p2,p3⟩,-⟩:=hI.out.cells
          have q:=cut_any s U wr
          replace hw7:=Lib.hid hw7
          replace hbE:=Lib.hid hbE
          clear hI
          go_wp2_with fail
          refine q.mono ?_
          rintro e wc ⟨rfl,hxc⟩
          have hbc:=hbE.out.trans (hxc.below.mono hbE.out.size)
          have ql:=vlist_any (s &&& U) wc (hTz.out.below hTz.out.lt hbc)
          rw [←hldef.out] at ql
          have hXc:=Lib.hid (hw7.out.trans (hxc.below.mono hw7.out.size))
          clear q p0 p1 p2 p3 hbc hxc hw7 hbE
          go_wp2_with fail
          refine ql.mono ?_
          rintro e wl ⟨vl,rfl,hol,hbl⟩
          have hsl:=owns_slI hol
          have hsl2:=hsl
          obtain ⟨bl,cl,rfl,-⟩:=hsl2
          have hX:=hXc.out.trans (hbl.mono hXc.out.size)
          have hE:=Lib.hid (hb06.out.trans (hX.mono hb06.out.size))
          replace hX:=Lib.hid hX
          replace hsl:=Lib.hid hsl
          clear ql hol hbl hXc
          by_cases h8:l.length≤8
          ·have d8:decide ((l.length:Int) > 8) = false:=decide_eq_false (by omega)
           have hpw:=pow_wrap l.length (by omega)
           have hN:2 ^ l.length≤256:=Nat.le_trans (Nat.pow_le_pow_right (by omega) h8) (by omega:2 ^ 8≤256)
           generalize hNN:2 ^ l.length = N at *
           replace hNN:=Lib.hid hNN
           go_wp2_with fail
           go_loopw [15,85] (fun sm i V=>∃ k:Nat,k≤N∧i = .int .i64 (k:Nat)∧sm = .bool ((List.range k).any T)∧Hid (Below wl.heap.size wl V)) (fun _ i _=>N - (intOf i).toNat)
           case atStart=>exact ⟨0,Nat.zero_le _,rfl,rfl,Lib.hid (Below.refl _ _)⟩
           case round =>
            rename World=>wB
            obtain ⟨k,hk,rfl,rfl,hI⟩:=hrel
            have hbw:=hX.out.trans (hI.out.mono hX.out.size)
            have hbE:=hE.out.trans (hI.out.mono hE.out.size)
            by_cases hlt:k < N
            ·have m0:(0:Int)≤(k:Int):=by omega
             have m1:(k:Int) < (N:Int):=by omega
             obtain ⟨-,-,⟨p0,p1⟩,-⟩:=hS6.out _ hbw
             have hxx:=(Ext.refl wB).alloc (.cells #[.int .u64 (lo a),.int .u64 (hi a)] 37)
             have hxn:=heap_alloc_new wB (.cells #[.int .u64 (lo a),.int .u64 (hi a)] 37)
             have hJ0:Hid (BxI wB (exS a l k 0) (wB.alloc (.cells #[.int .u64 (lo a),.int .u64 (hi a)] 37))):=Lib.hid ⟨hxx.below,hxn⟩
             have hslr:=Lib.hid (hsl.out.ext hI.out)
             have hstep:(List.range (k+1)).any T = ((List.range k).any T || T k):=by rw [List.range_succ,List.any_append];simp
             generalize (List.range k).any T = S at *
             replace hstep:=Lib.hid hstep
             replace hbw:=Lib.hid hbw
             replace hbE:=Lib.hid hbE
             clear hxx hxn
             go_wp2_with fail
             go_loopw [91] (fun i V=>∃ j:Nat,j≤l.length∧i = .int .i64 (j:Nat)∧Hid (BxI wB (exS a l k j) V)) (fun i _=>l.length - (intOf i).toNat)
             case atStart=>exact ⟨0,Nat.zero_le _,rfl,hJ0⟩
             case round =>
              clear hJ0 p0 p1
              obtain ⟨j,hj,rfl,hJ⟩:=hrel
              by_cases hjl:j < l.length
              ·obtain ⟨b2,o2,rfl,hc2⟩:=slI_cell (hslr.out.ext hJ.out.1) hjl
               have n0:(0:Int)≤(j:Int):=by omega
               have n1:(j:Int) < (l.length:Int):=by omega
               have hst:=exS_bit a l k j hjl
               have hbe:=bit_one k j (by omega)
               obtain ⟨⟨y0,y1⟩,-⟩:=hJ.out.cells
               generalize l[j] = u at *
               generalize exS a l k j = m at *
               generalize k.testBit j = B at *
               obtain ⟨m2,hm2⟩:∃ x,x = withoutS m u:=⟨_,rfl⟩
               rw [←hm2] at hst
               have q:=without_any m u wr
               unfold encS at q
               rw [←hm2] at q
               replace hst:=Lib.hid hst
               clear hm2
               go_wp2_with fail
               refine q.mono ?_
               rintro e w8 ⟨rfl,hx8⟩
               have hJ8:=hJ.out.next hx8.below
               obtain ⟨⟨e0',e1'⟩,z0,z1⟩:=hJ8.cells
               have hJ9:=Lib.hid (hJ8.set m2)
               clear q hJ8 hx8 hJ y0 y1 hc2
               cases B
               ·have hst2:=hst.out
                simp only [Bool.false_eq_true,if_false] at hst2
                replace hst2:=Lib.hid hst2
                go_wp2_with fail
                go_roundw
                case rel=>exact ⟨j+1,by omega,by go_num,by rw [hst2.out];exact hJ9⟩
                case measure=>simp [intOf];omega
               ·have hst2:=hst.out
                simp only [if_true] at hst2
                have hJ9b:=hJ9.out.next (Below.refl _ _)
                obtain ⟨⟨y0,y1⟩,-⟩:=hJ9.out.cells
                have q2:=with_agg m2 u ((w8.setCell ⟨wB.heap.size,0,none⟩ (.int .u64 (lo m2))).setCell ⟨wB.heap.size,1,none⟩ (.int .u64 (hi m2)))
                replace hst2:=Lib.hid hst2
                replace hJ9b:=Lib.hid hJ9b
                go_wp2_with fail
                refine q2.mono ?_
                rintro e w9 ⟨rfl,hx9⟩
                have hJa:=hJ9.out.next hx9.below
                obtain ⟨⟨e2',e3'⟩,z0,z1⟩:=hJa.cells
                have hJb:=Lib.hid (hJa.set (withS m2 u))
                clear q2 hJa hx9 hJ9 hJ9b y0 y1
                go_wp2_with fail
                go_roundw
                case rel=>exact ⟨j+1,by omega,by go_num,by rw [hst2.out];exact hJb⟩
                case measure=>simp [intOf];omega
              ·obtain rfl:j = l.length:=by omega
               have hJb:=hbE.out.trans (hJ.out.1.mono hbE.out.size)
               have hJw:=hbw.out.trans (hJ.out.1.mono hbw.out.size)
               have hIb:=hI.out.trans (hJ.out.1.mono hI.out.size)
               have qe:=qE.out wr hJb (exS a l k l.length)
               rw [hTk.out] at qe
               obtain ⟨⟨p0,p1⟩,-⟩:=hS6.out _ hJw
               obtain ⟨⟨y0,y1⟩,-⟩:=hJ.out.cells
               have hst:=hstep.out
               generalize T k = Tk at *
               replace hst:=Lib.hid hst
               replace hIb:=Lib.hid hIb
               clear hJb hJw hJ
               cases S
               ·go_wp2_with fail
                refine qe.mono ?_
                rintro e w8 ⟨rfl,hb8⟩
                have hfin:=Lib.hid (hIb.out.trans (hb8.mono hIb.out.size))
                clear qe p0 p1 y0 y1 hb8
                go_wp2_with fail
                go_roundw
                case rel=>exact ⟨k+1,by omega,by go_num,by rw [hst.out,Bool.false_or],hfin⟩
                case measure=>simp [intOf];omega
               ·clear qe p0 p1 y0 y1
                go_wp2_with fail
                go_roundw
                case rel=>exact ⟨k+1,by omega,by go_num,by rw [hst.out,Bool.true_or],hIb⟩
                case measure=>simp [intOf];omega
            ·obtain rfl:k = N:=by omega
             have qef:=qEF.out wB _ (hsF6.out.ext hbw)
             obtain ⟨-,-,⟨p0,p1⟩,⟨p2,p3⟩⟩:=hS6.out _ hbw
             generalize (List.range k).any T = S at *
             have hSe:(S == S) = true:=by simp
             replace hbw:=Lib.hid hbw
             replace hbE:=Lib.hid hbE
             go_wp2_with fail
             refine qef.mono ?_
             rintro e w8 ⟨rfl,hb8⟩
             have hbq:=hbE.out.trans (hb8.mono hbE.out.size)
             have qw:=hw.out _ hbq
             replace hbq:=Lib.hid hbq
             clear qef p0 p1 p2 p3 hb8
             go_wp2_with fail
             refine qw.mono ?_
             rintro e wq ⟨rfl,hbw'⟩
             clear qw
             go_wp2_with fail
             go_ret
             exact ⟨rfl,hbq.out.trans (hbw'.mono hbq.out.size)⟩
          ·have d8:decide ((l.length:Int) > 8) = true:=decide_eq_true (by omega)
           have q:=hw.out _ hE.out
           have hbq:=Lib.hid (hE.out)
           go_wp2_with fail
           refine q.mono ?_
           rintro e wq ⟨rfl,hbw⟩
           clear q
           go_wp2_with fail
           go_ret
           exact ⟨rfl,hbq.out.trans (hbw.mono hbq.out.size)⟩
   ·have qf:=fun (W:World) (hW:Below w.heap.size w W)=>forget_bad (s:=s) (hvq.out.ext hW) hc (by omega) (fun g hg=>by have:=hC20.out g hg;omega)
    replace hc:=Lib.hid hc
    clear hL hl
    replace qf:=Lib.hid qf
    go_enter Tryz.func8,Tryz.ntmps8
    go_wp2_with fail
    rw [←hw2]
    replace hw2:=Lib.hid hw2
    refine q1.mono ?_
    rintro e w3 ⟨rfl,hx3⟩
    have hb3:=(hx2.out.trans hx3).below
    have qf3:=qf.out w3 hb3
    clear q1 p0 p1 p2 p3 p4 p5
    obtain ⟨⟨p0,p1⟩,⟨p2,p3⟩,-⟩:=hbx.out w3 hx3.below
    replace hb3:=Lib.hid hb3
    clear hx3 qf
    go_wp2_with fail
    refine qf3.mono ?_
    rintro e w4 ⟨rfl,hb4⟩
    have hx5:=(Ext.refl w4).alloc (.cells #[.int .i64 0,.slice none 0 0] 24)
    have hn5:=heap_alloc_new w4 (.cells #[.int .i64 0,.slice none 0 0] 24)
    have hb5:=hb3.out.trans ((hb4.trans (hx5.below.mono hb4.size)).mono hb3.out.size)
    have z0:(w4.alloc (.cells #[.int .i64 0,.slice none 0 0] 24)).cell? ⟨w4.heap.size,0,none⟩ = some (.int .i64 0):=by rw [World.cell?,hn5];rfl
    have z1:(w4.alloc (.cells #[.int .i64 0,.slice none 0 0] 24)).cell? ⟨w4.heap.size,1,none⟩ = some (.slice none 0 0):=by rw [World.cell?,hn5];rfl
    have q:=hw.out _ hb5
    replace hb5:=Lib.hid hb5
    clear qf3 p0 p1 p2 p3 hb4 hx5 hn5 hb3
    go_wp2_with fail
    refine q.mono ?_
    rintro e w6 ⟨rfl,hb6⟩
    clear q z0 z1
    go_wp2_with fail
    go_ret
    exact ⟨rfl,hb5.out.trans (hb6.mono hb5.out.size)⟩
theorem condexists_card {n x0 x1 y0 y1:Int} {C:List L.Gt} {u:Value} (w:World) (hTz:TzTab w) (hP:PowTab w) (hv:SlC w u C∧C.length≤9223372036854775807∧(-9223372036854775808≤n∧n≤9223372036854775807)) (hs:(0≤x0∧x0≤18446744073709551615)∧(0≤x1∧x1≤18446744073709551615)) (hz:(0≤y0∧y0≤18446744073709551615)∧(0≤y1∧y1≤18446744073709551615)) :
  Calls Tryz.prog 8 #[.agg #[.int .i64 n,u],.agg #[.int .u64 x0,.int .u64 x1],.agg #[.int .u64 y0,.int .u64 y1]] w fun e w'=>e = .returned (.bool true)∧Below w.heap.size w w':=by
 obtain ⟨s,rfl,rfl⟩:=vset_of hs.1 hs.2
 obtain ⟨a,rfl,rfl⟩:=vset_of hz.1 hz.2
 exact condexists_any w hTz hP hv.1 hv.2.1
end Go.Proofs.YtckhohpbokojdaaGreatDoor
