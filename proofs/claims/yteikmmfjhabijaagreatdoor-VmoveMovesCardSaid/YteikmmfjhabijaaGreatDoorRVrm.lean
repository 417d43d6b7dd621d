import Derived.Test.YteikmmfjhabijaaGreatDoorRVch
set_option linter.unusedSimpArgs false
set_option linter.unusedVariables false
namespace Go.Proofs.YteikmmfjhabijaaGreatDoor
open Go Go.RowKit Go.Shelf
theorem ch_off {w0:World} {t:List VN} {b o c at':Nat} {kd:Int} (ht:TreeAt w0 b o t) (hc:checkF t = 0) {i:Nat} {T:L.Tr} (h:L.IsT L.idc t i T):¬ L.Und t i at'→RcGoal w0 t b o c (at':Nat) kd i T:=by
 induction h with
 | leaf h1 h2=>intro _;exact ch_leaf ht h1 h2
 | @node i a b' y l r h1 h2 h3 h4 g1 g2 ih1 ih2 =>
   intro hn
   obtain ⟨ka,kb⟩:=L.Und.kid hc h1 h2 h3 h4
   have hne:((i:Nat):Int)≠(at':Nat):=fun e=>hn ((show i = at' by omega) ▸ .refl)
   exact ch_pass ht h1 h2 h3 h4 hne (ih1 fun h=>hn (ka.trans h)) (ih2 fun h=>hn (kb.trans h))
theorem ch_mv {w0:World} {t:List VN} {b o c at' kd:Nat} (ht:TreeAt w0 b o t) (hc:checkF t = 0) {i:Nat} {T U:L.Tr} (h:L.Mv t kd at' i T U):L.IsT L.idc t i T→RcGoal w0 t b o c (at':Nat) (kd:Nat) i U:=by
 induction h with
 | @here T U hr =>
   intro hT
   cases hr with
   | right x y z =>
     cases hT with
     | @node _ a b' n _ _ h1 h2 h3 h4 g1 g2 =>
       cases g1 with
       | @node _ p q m _ _ k1 k2 k3 k4 j1 j2=>exact ch_right ht h1 h2 h3 h4 k1 k3 k4 j1 j2 g2
   | left x y z =>
     cases hT with
     | @node _ a b' n _ _ h1 h2 h3 h4 g1 g2 =>
       cases g2 with
       | @node _ p q m _ _ k1 k2 k3 k4 j1 j2=>exact ch_left ht h1 h2 h3 h4 k1 k3 k4 g1 j1 j2
   | swap x y =>
     cases hT with
     | @node _ a b' n _ _ h1 h2 h3 h4 g1 g2 =>
       obtain ⟨ha,hb,_⟩:=L.isT_inner hc h1 h2 h3 h4
       exact ch_swap ht h1 h2 h3 h4 (ch_off ht hc g1 (fun h=>by have:=h.le hc;omega)) (ch_off ht hc g2 (fun h=>by have:=h.le hc;omega))
 | @left i a b' y l r l' e1 e2 e3 hm ih =>
   intro hT
   cases hT with
   | @node _ a2 b2 y2 _ _ h1 h2 h3 h4 g1 g2 =>
     rw [e1] at h1
     cases h1
     have h3':y.left = a2:=h3
     have h4':y.right = b2:=h4
     obtain rfl:a2 = a:=by omega
     obtain rfl:b2 = b':=by omega
     obtain ⟨ha,hb,_⟩:=L.isT_inner hc e1 h2 e2 e3
     have hu:=hm.und hc g1
     have hle:=hu.le hc
     exact ch_pass ht e1 h2 e2 e3 (by omega) (ih g1) (ch_off ht hc g2 fun h=>L.Und.apart hc e1 h2 e2 e3 hu h)
 | @right i a b' y l r r' e1 e2 e3 hm ih =>
   intro hT
   cases hT with
   | @node _ a2 b2 y2 _ _ h1 h2 h3 h4 g1 g2 =>
     rw [e1] at h1
     cases h1
     have h3':y.left = a2:=h3
     have h4':y.right = b2:=h4
     obtain rfl:a2 = a:=by omega
     obtain rfl:b2 = b':=by omega
     obtain ⟨ha,hb,_⟩:=L.isT_inner hc e1 h2 e2 e3
     have hu:=hm.und hc g2
     have hle:=hu.le hc
     exact ch_pass ht e1 h2 e2 e3 (by omega) (ch_off ht hc g1 fun h=>L.Und.apart hc e1 h2 e2 e3 h hu) (ih g2)
theorem can_mv {t:List VN} (hc:checkF t = 0) {kd:Nat} (hkd:kd = 1∨kd = 2∨kd = 3) {i:Int} (h:canM kd t i = true):∃ (n:Nat) (T U:L.Tr),i = n∧n < t.length∧L.IsT L.idc t (t.length - 1) T∧L.Mv t kd n (t.length - 1) T U:=by
 have hin:innerB t i = true:=by
  unfold canM at h
  simp only [Bool.and_eq_true] at h
  exact h.1
 obtain ⟨n,y,rfl,hy,hyl⟩:=innerB_get hin
 have hnl:=(List.getElem?_eq_some_iff.1 hy).1
 obtain ⟨a,b,y1,y2,_⟩:=L.inner_ok hc hy hyl
 rcases hkd with rfl | rfl | rfl
 ·unfold canM at h
  rw [if_pos rfl,kidL_get hy,Bool.and_eq_true] at h
  obtain ⟨low,z,hlow,hz,hzl⟩:=innerB_get h.2
  obtain ⟨p,q,z1,z2,_⟩:=L.inner_ok hc hz hzl
  obtain rfl:a = low:=by omega
  obtain ⟨T,U,hT,_,hM⟩:=L.moved hc (L.right_ok hc hy hyl y1 y2 hz hzl z1 z2) hnl
  exact ⟨n,T,U,rfl,hnl,hT,hM⟩
 ·unfold canM at h
  rw [if_neg (by decide),if_pos rfl,kidR_get hy,Bool.and_eq_true] at h
  obtain ⟨low,z,hlow,hz,hzl⟩:=innerB_get h.2
  obtain ⟨p,q,z1,z2,_⟩:=L.inner_ok hc hz hzl
  obtain rfl:b = low:=by omega
  obtain ⟨T,U,hT,_,hM⟩:=L.moved hc (L.left_ok hc hy hyl y1 y2 hz hzl z1 z2) hnl
  exact ⟨n,T,U,rfl,hnl,hT,hM⟩
 ·obtain ⟨T,U,hT,_,hM⟩:=L.moved hc (L.swap_ok hc hy hyl) hnl
  exact ⟨n,T,U,rfl,hnl,hT,hM⟩
set_option maxRecDepth 100000 in
set_option maxHeartbeats 2000000 in
theorem refInner_any {t:List VN} (w:World) (b o cap:Nat) (ht:TreeAt w b o t) (i:Int):Calls Tryz.prog 120 #[.slice (some ⟨b,o,none⟩) t.length cap,.int .i64 i] w fun e w'=>e = .returned (.bool (innerB t i))∧Ext w w':=by
 by_cases h0:0≤i
 ·have d0:decide (i≥0) = true:=decide_eq_true h0
  by_cases h1:i < t.length
  ·have d1:decide (i < (t.length:Int)) = true:=decide_eq_true h1
   obtain ⟨n,rfl⟩:∃ n:Nat,i = n:=⟨i.toNat,by omega⟩
   obtain ⟨n0,n1,n2⟩:=ht.node (k:=n) (by omega)
   have hq:=refLeaf_any (t[n]'(by omega)) w
   have hin:innerB t n = !leafB (t[n]'(by omega)):=by
    unfold innerB
    rw [decide_eq_true h0,decide_eq_true h1,Int.toNat_natCast,List.getD_eq_getElem?_getD,List.getElem?_eq_getElem (by omega)];rfl
   rw [hin]
   generalize t[n]'(by omega) = y at *
   clear hin
   go_enter Tryz.func120,Tryz.ntmps120
   go_wp2_with fail
   refine hq.mono ?_
   rintro e w1 ⟨rfl,hx1⟩
   clear hq
   go_wp2_with fail
   go_ret
   exact ⟨rfl,hx1⟩
  ·have d1:decide (i < (t.length:Int)) = false:=decide_eq_false h1
   have hin:innerB t i = false:=by unfold innerB;rw [decide_eq_false h1];simp
   rw [hin]
   go_enter Tryz.func120,Tryz.ntmps120
   go_wp2_with fail
   go_ret
   exact ⟨rfl,Ext.refl _⟩
 ·have d0:decide (i≥0) = false:=decide_eq_false h0
  have hin:innerB t i = false:=by unfold innerB;rw [decide_eq_false h0];simp
  rw [hin]
  go_enter Tryz.func120,Tryz.ntmps120
  go_wp2_with fail
  go_ret
  exact ⟨rfl,Ext.refl _⟩
theorem ch_root {w:World} {t:List VN} {b o c n kd:Nat} {T U:L.Tr} (ht:TreeAt w b o t) (hc:checkF t = 0) (hT:L.IsT L.idc t (t.length - 1) T) (hM:L.Mv t kd n (t.length - 1) T U) :
  Calls Tryz.prog 121 #[.slice (some ⟨b,o,none⟩) t.length c,.int .i64 ((t.length - 1:Nat):Int),.int .i64 (n:Nat),.int .i64 (kd:Nat),.slice none 0 0] w fun e w'=>∃ g cp,e = .returned (.slice (some ⟨g,0,none⟩) (U.post 0).length cp)∧TreeAt w' g 0 (U.post 0)∧w.heap.size≤g∧Below w.heap.size w w':=by
 have htl:=(check_ok hc).2.1
 have hsz:=hT.size_le hc
 have q:=ch_mv (c:=c) ht hc hM hT [] (.slice none 0 0) w (Below.refl _ _) (World.ownsRow_nil _ _ _ _) (by simp only [List.length_nil];rw [hM.size];omega)
 refine q.mono ?_
 rintro e w' ⟨g,cp,rfl,hR,hB,_⟩
 have hpl:=L.Tr.post_len U 0
 simp only [List.nil_append,List.length_nil,Nat.zero_add] at hR
 rw [←hpl] at hR
 obtain ⟨g',cp',e',hTr,hg⟩:=own_tree hR (by rw [hpl];exact U.pos)
 cases e'
 exact ⟨g,cp,by rw [List.length_nil,Nat.zero_add,hpl],hTr,hg,hB⟩
set_option maxRecDepth 100000 in
set_option maxHeartbeats 4000000 in
theorem rright_any {w:World} {t:List VN} {b o cap:Nat} {i:Int} (ht:TreeAt w b o t) (hc:checkF t = 0):Calls Tryz.prog 87 #[.slice (some ⟨b,o,none⟩) t.length cap,.int .i64 i] w (RetMove 1 t i w):=by
 have htl:=(check_ok hc).2.1
 have t0:=(check_ok hc).1
 have q1:=refchk_any w (some ⟨b,o,none⟩) cap (.inr ⟨b,o,rfl,ht⟩) (by omega)
 rw [hc] at q1
 have q2:=fun (z:Int) W (hb:Below w.heap.size w W)=>refInner_any W b o cap (ht.below hb) z
 have hwr:IntKind.i64.wrap ((t.length:Int) - 1) = ((t.length - 1:Nat):Int):=by rw [IntWalk.i64_in _ (by omega)];omega
 have hcast:((t.length - 1:Nat):Int) = (t.length:Int) - 1:=by omega
 replace q2:=Lib.hid q2
 cases hcm:canM 1 t i
 ·have hcm':=hcm
  unfold canM at hcm'
  replace hcm:=Lib.hid hcm
  replace hc:=Lib.hid hc
  cases hin:innerB t i
  ·clear hcm'
   go_enter Tryz.func87,Tryz.ntmps87
   go_wp2_with fail
   refine q1.mono ?_
   rintro e w1 ⟨rfl,hx1⟩
   have b1:=hx1.below
   have q2':=q2.out i w1 b1
   rw [hin] at q2'
   clear q1
   go_wp2_with fail
   refine q2'.mono ?_
   rintro e w2 ⟨rfl,hx2⟩
   clear q2'
   go_wp2_with fail
   go_ret2
   exact ⟨b1.trans (hx2.below.mono b1.size),.inl ⟨hcm.out,rfl⟩⟩
  ·obtain ⟨n,y,rfl,hy,hyl⟩:=innerB_get hin
   rw [hin,Bool.true_and] at hcm'
   rw [if_pos rfl,kidL_get hy] at hcm'
   have hnl:=(List.getElem?_eq_some_iff.1 hy).1
   have n012:=fun W (hb:Below w.heap.size w W)=>(ht.below hb).node hnl
   rw [(List.getElem?_eq_some_iff.1 hy).2] at n012
   have g0:(0:Int)≤n:=by omega
   have g1:(n:Int) < t.length:=by omega
   obtain ⟨yl,yr,yv⟩:=y
   simp only at n012 hcm'
   replace n012:=Lib.hid n012
   replace hy:=Lib.hid hy
   replace hyl:=Lib.hid hyl
   replace hcm':=Lib.hid hcm'
   go_enter Tryz.func87,Tryz.ntmps87
   go_wp2_with fail
   refine q1.mono ?_
   rintro e w1 ⟨rfl,hx1⟩
   have b1:=hx1.below
   have q2':=q2.out (n:Nat) w1 b1
   rw [hin] at q2'
   clear q1
   go_wp2_with fail
   refine q2'.mono ?_
   rintro e w2 ⟨rfl,hx2⟩
   have b2:=b1.trans (hx2.below.mono b1.size)
   obtain ⟨m0,m1,m2⟩:=n012.out w2 b2
   have q3:=q2.out yl w2 b2
   rw [hcm'.out] at q3
   clear q2'
   go_wp2_with fail
   refine q3.mono ?_
   rintro e w3 ⟨rfl,hx3⟩
   clear q3
   go_wp2_with fail
   go_ret2
   exact ⟨b2.trans (hx3.below.mono b2.size),.inl ⟨hcm.out,rfl⟩⟩
 ·obtain ⟨n,T,U,rfl,hnl,hT,hM⟩:=can_mv hc (by decide) hcm
  have hin:innerB t (n:Nat) = true:=by
   unfold canM at hcm
   simp only [Bool.and_eq_true] at hcm
   exact hcm.1
  obtain ⟨n',y,e',hy,hyl⟩:=innerB_get hin
  obtain rfl:n' = n:=by omega
  have hcm':=hcm
  unfold canM at hcm'
  rw [hin,Bool.true_and] at hcm'
  rw [if_pos rfl,kidL_get hy] at hcm'
  have n012:=fun W (hb:Below w.heap.size w W)=>(ht.below hb).node hnl
  rw [(List.getElem?_eq_some_iff.1 hy).2] at n012
  have g0:(0:Int)≤n':=by omega
  have g1:(n':Int) < t.length:=by omega
  have qc:=fun W (hb:Below w.heap.size w W)=>ch_root (c:=cap) (ht.below hb) hc hT hM
  rw [hcast] at qc
  obtain ⟨yl,yr,yv⟩:=y
  simp only at n012
  simp only at hcm'
  replace hcm':=Lib.hid hcm'
  replace n012:=Lib.hid n012
  replace hy:=Lib.hid hy
  replace hyl:=Lib.hid hyl
  replace hcm:=Lib.hid hcm
  replace hc:=Lib.hid hc
  replace qc:=Lib.hid qc
  replace hT:=Lib.hid hT
  replace hM:=Lib.hid hM
  clear e'
  go_enter Tryz.func87,Tryz.ntmps87
  go_wp2_with fail
  refine q1.mono ?_
  rintro e w1 ⟨rfl,hx1⟩
  have b1:=hx1.below
  have q2':=q2.out (n':Nat) w1 b1
  rw [hin] at q2'
  clear q1
  go_wp2_with fail
  refine q2'.mono ?_
  rintro e w2 ⟨rfl,hx2⟩
  have b2:=b1.trans (hx2.below.mono b1.size)
  obtain ⟨m0,m1,m2⟩:=n012.out w2 b2
  have q3:=q2.out yl w2 b2
  rw [hcm'.out] at q3
  clear q2'
  go_wp2_with fail
  refine q3.mono ?_
  rintro e w3 ⟨rfl,hx3⟩
  have b3:=b2.trans (hx3.below.mono b2.size)
  have q4:=qc.out w3 b3
  clear q3
  go_wp2_with fail
  refine q4.mono ?_
  rintro e w4 ⟨g,cp,rfl,hTr,hg,hb4⟩
  replace hTr:=Lib.hid hTr
  clear q4
  go_wp2_with fail
  go_ret2
  exact ⟨b3.trans (hb4.mono b3.size),.inr ⟨hcm.out,n',T,U,g,cp,rfl,hnl,hT.out,hM.out,rfl,hTr.out,Nat.le_trans b3.size hg⟩⟩
set_option maxRecDepth 100000 in
set_option maxHeartbeats 4000000 in
theorem rleft_any {w:World} {t:List VN} {b o cap:Nat} {i:Int} (ht:TreeAt w b o t) (hc:checkF t = 0):Calls Tryz.prog 88 #[.slice (some ⟨b,o,none⟩) t.length cap,.int .i64 i] w (RetMove 2 t i w):=by
 have htl:=(check_ok hc).2.1
 have t0:=(check_ok hc).1
 have q1:=refchk_any w (some ⟨b,o,none⟩) cap (.inr ⟨b,o,rfl,ht⟩) (by omega)
 rw [hc] at q1
 have q2:=fun (z:Int) W (hb:Below w.heap.size w W)=>refInner_any W b o cap (ht.below hb) z
 have hwr:IntKind.i64.wrap ((t.length:Int) - 1) = ((t.length - 1:Nat):Int):=by rw [IntWalk.i64_in _ (by omega)];omega
 have hcast:((t.length - 1:Nat):Int) = (t.length:Int) - 1:=by omega
 replace q2:=Lib.hid q2
 cases hcm:canM 2 t i
 ·have hcm':=hcm
  unfold canM at hcm'
  replace hcm:=Lib.hid hcm
  replace hc:=Lib.hid hc
  cases hin:innerB t i
  ·clear hcm'
   go_enter Tryz.func88,Tryz.ntmps88
   go_wp2_with fail
   refine q1.mono ?_
   rintro e w1 ⟨rfl,hx1⟩
   have b1:=hx1.below
   have q2':=q2.out i w1 b1
   rw [hin] at q2'
   clear q1
   go_wp2_with fail
   refine q2'.mono ?_
   rintro e w2 ⟨rfl,hx2⟩
   clear q2'
   go_wp2_with fail
   go_ret2
   exact ⟨b1.trans (hx2.below.mono b1.size),.inl ⟨hcm.out,rfl⟩⟩
  ·obtain ⟨n,y,rfl,hy,hyl⟩:=innerB_get hin
   rw [hin,Bool.true_and] at hcm'
   rw [if_neg (by decide),if_pos rfl,kidR_get hy] at hcm'
   have hnl:=(List.getElem?_eq_some_iff.1 hy).1
   have n012:=fun W (hb:Below w.heap.size w W)=>(ht.below hb).node hnl
   rw [(List.getElem?_eq_some_iff.1 hy).2] at n012
   have g0:(0:Int)≤n:=by omega
   have g1:(n:Int) < t.length:=by omega
   obtain ⟨yl,yr,yv⟩:=y
   simp only at n012 hcm'
   replace n012:=Lib.hid n012
   replace hy:=Lib.hid hy
   replace hyl:=Lib.hid hyl
   replace hcm':=Lib.hid hcm'
   go_enter Tryz.func88,Tryz.ntmps88
   go_wp2_with fail
   refine q1.mono ?_
   rintro e w1 ⟨rfl,hx1⟩
   have b1:=hx1.below
   have q2':=q2.out (n:Nat) w1 b1
   rw [hin] at q2'
   clear q1
   go_wp2_with fail
   refine q2'.mono ?_
   rintro e w2 ⟨rfl,hx2⟩
   have b2:=b1.trans (hx2.below.mono b1.size)
   obtain ⟨m0,m1,m2⟩:=n012.out w2 b2
   have q3:=q2.out yr w2 b2
   rw [hcm'.out] at q3
   clear q2'
   go_wp2_with fail
   refine q3.mono ?_
   rintro e w3 ⟨rfl,hx3⟩
   clear q3
   go_wp2_with fail
   go_ret2
   exact ⟨b2.trans (hx3.below.mono b2.size),.inl ⟨hcm.out,rfl⟩⟩
 ·obtain ⟨n,T,U,rfl,hnl,hT,hM⟩:=can_mv hc (by decide) hcm
  have hin:innerB t (n:Nat) = true:=by
   unfold canM at hcm
   simp only [Bool.and_eq_true] at hcm
   exact hcm.1
  obtain ⟨n',y,e',hy,hyl⟩:=innerB_get hin
  obtain rfl:n' = n:=by omega
  have hcm':=hcm
  unfold canM at hcm'
  rw [hin,Bool.true_and] at hcm'
  rw [if_neg (by decide),if_pos rfl,kidR_get hy] at hcm'
  have n012:=fun W (hb:Below w.heap.size w W)=>(ht.below hb).node hnl
  rw [(List.getElem?_eq_some_iff.1 hy).2] at n012
  have g0:(0:Int)≤n':=by omega
  have g1:(n':Int) < t.length:=by omega
  have qc:=fun W (hb:Below w.heap.size w W)=>ch_root (c:=cap) (ht.below hb) hc hT hM
  rw [hcast] at qc
  obtain ⟨yl,yr,yv⟩:=y
  simp only at n012
  simp only at hcm'
  replace hcm':=Lib.hid hcm'
  replace n012:=Lib.hid n012
  replace hy:=Lib.hid hy
  replace hyl:=Lib.hid hyl
  replace hcm:=Lib.hid hcm
  replace hc:=Lib.hid hc
  replace qc:=Lib.hid qc
  replace hT:=Lib.hid hT
  replace hM:=Lib.hid hM
  clear e'
  go_enter Tryz.func88,Tryz.ntmps88
  go_wp2_with fail
  refine q1.mono ?_
  rintro e w1 ⟨rfl,hx1⟩
  have b1:=hx1.below
  have q2':=q2.out (n':Nat) w1 b1
  rw [hin] at q2'
  clear q1
  go_wp2_with fail
  refine q2'.mono ?_
  rintro e w2 ⟨rfl,hx2⟩
  have b2:=b1.trans (hx2.below.mono b1.size)
  obtain ⟨m0,m1,m2⟩:=n012.out w2 b2
  have q3:=q2.out yr w2 b2
  rw [hcm'.out] at q3
  clear q2'
  go_wp2_with fail
  refine q3.mono ?_
  rintro e w3 ⟨rfl,hx3⟩
  have b3:=b2.trans (hx3.below.mono b2.size)
  have q4:=qc.out w3 b3
  clear q3
  go_wp2_with fail
  refine q4.mono ?_
  rintro e w4 ⟨g,cp,rfl,hTr,hg,hb4⟩
  replace hTr:=Lib.hid hTr
  clear q4
  go_wp2_with fail
  go_ret2
  exact ⟨b3.trans (hb4.mono b3.size),.inr ⟨hcm.out,n',T,U,g,cp,rfl,hnl,hT.out,hM.out,rfl,hTr.out,Nat.le_trans b3.size hg⟩⟩
set_option maxRecDepth 100000 in
set_option maxHeartbeats 4000000 in
theorem rswap_any {w:World} {t:List VN} {b o cap:Nat} {i:Int} (ht:TreeAt w b o t) (hc:checkF t = 0):Calls Tryz.prog 89 #[.slice (some ⟨b,o,none⟩) t.length cap,.int .i64 i] w (RetMove 3 t i w):=by
 have htl:=(check_ok hc).2.1
 have t0:=(check_ok hc).1
 have q1:=refchk_any w (some ⟨b,o,none⟩) cap (.inr ⟨b,o,rfl,ht⟩) (by omega)
 rw [hc] at q1
 have q2:=fun (z:Int) W (hb:Below w.heap.size w W)=>refInner_any W b o cap (ht.below hb) z
 have hwr:IntKind.i64.wrap ((t.length:Int) - 1) = ((t.length - 1:Nat):Int):=by rw [IntWalk.i64_in _ (by omega)];omega
 have hcast:((t.length - 1:Nat):Int) = (t.length:Int) - 1:=by omega
 replace q2:=Lib.hid q2
 cases hcm:canM 3 t i
 ·have hcm':=hcm
  unfold canM at hcm'
  replace hcm:=Lib.hid hcm
  replace hc:=Lib.hid hc
  cases hin:innerB t i
  ·clear hcm'
   go_enter Tryz.func89,Tryz.ntmps89
   go_wp2_with fail
   refine q1.mono ?_
   rintro e w1 ⟨rfl,hx1⟩
   have b1:=hx1.below
   have q2':=q2.out i w1 b1
   rw [hin] at q2'
   clear q1
   go_wp2_with fail
   refine q2'.mono ?_
   rintro e w2 ⟨rfl,hx2⟩
   clear q2'
   go_wp2_with fail
   go_ret2
   exact ⟨b1.trans (hx2.below.mono b1.size),.inl ⟨hcm.out,rfl⟩⟩
  ·simp [hin] at hcm'
 ·obtain ⟨n,T,U,rfl,hnl,hT,hM⟩:=can_mv hc (by decide) hcm
  have hin:innerB t (n:Nat) = true:=by
   unfold canM at hcm
   simp only [Bool.and_eq_true] at hcm
   exact hcm.1
  obtain ⟨n',y,e',hy,hyl⟩:=innerB_get hin
  obtain rfl:n' = n:=by omega
  have hcm':=hcm
  unfold canM at hcm'
  rw [hin,Bool.true_and] at hcm'
  clear hcm'
  have n012:=fun W (hb:Below w.heap.size w W)=>(ht.below hb).node hnl
  rw [(List.getElem?_eq_some_iff.1 hy).2] at n012
  have g0:(0:Int)≤n':=by omega
  have g1:(n':Int) < t.length:=by omega
  have qc:=fun W (hb:Below w.heap.size w W)=>ch_root (c:=cap) (ht.below hb) hc hT hM
  rw [hcast] at qc
  obtain ⟨yl,yr,yv⟩:=y
  simp only at n012
  replace n012:=Lib.hid n012
  replace hy:=Lib.hid hy
  replace hyl:=Lib.hid hyl
  replace hcm:=Lib.hid hcm
  replace hc:=Lib.hid hc
  replace qc:=Lib.hid qc
  replace hT:=Lib.hid hT
  replace hM:=Lib.hid hM
  clear e'
  go_enter Tryz.func89,Tryz.ntmps89
  go_wp2_with fail
  refine q1.mono ?_
  rintro e w1 ⟨rfl,hx1⟩
  have b1:=hx1.below
  have q2':=q2.out (n':Nat) w1 b1
  rw [hin] at q2'
  clear q1
  go_wp2_with fail
  refine q2'.mono ?_
  rintro e w2 ⟨rfl,hx2⟩
  have b2:=b1.trans (hx2.below.mono b1.size)
  obtain ⟨m0,m1,m2⟩:=n012.out w2 b2
  have b3:=b2
  have q4:=qc.out w2 b3
  clear q2'
  go_wp2_with fail
  refine q4.mono ?_
  rintro e w4 ⟨g,cp,rfl,hTr,hg,hb4⟩
  replace hTr:=Lib.hid hTr
  clear q4
  go_wp2_with fail
  go_ret2
  exact ⟨b3.trans (hb4.mono b3.size),.inr ⟨hcm.out,n',T,U,g,cp,rfl,hnl,hT.out,hM.out,rfl,hTr.out,Nat.le_trans b3.size hg⟩⟩
set_option maxRecDepth 100000 in
set_option maxHeartbeats 2000000 in
theorem rmoved_any {w:World} {t:List VN} {b o cap:Nat} {i z:Int} (ht:TreeAt w b o t) (hc:checkF t = 0):Calls Tryz.prog 40 #[.slice (some ⟨b,o,none⟩) t.length cap,.int .i64 i,.int .i64 z] w (RetMove (kdOf z) t i w):=by
 unfold kdOf
 by_cases h1:z = 1
 ·subst h1
  have q:=rright_any (cap:=cap) (i:=i) ht hc
  rw [if_pos rfl]
  replace hc:=Lib.hid hc
  go_enter Tryz.func40,Tryz.ntmps40
  go_wp2_with fail
  refine q.mono ?_
  rintro e w1 ⟨hb,⟨hcm,rfl⟩ | ⟨hcm,n,T,U,g,cp,hin,hnl,hT2,hM,rfl,hTr,hg⟩⟩
  ·clear q
   replace hcm:=Lib.hid hcm
   go_wp2_with fail
   go_ret2
   exact ⟨hb,.inl ⟨hcm.out,rfl⟩⟩
  ·clear q
   replace hTr:=Lib.hid hTr
   replace hM:=Lib.hid hM
   replace hin:=Lib.hid hin
   replace hcm:=Lib.hid hcm
   go_wp2_with fail
   go_ret2
   exact ⟨hb,.inr ⟨hcm.out,n,T,U,g,cp,hin.out,hnl,hT2,hM.out,rfl,hTr.out,hg⟩⟩
 ·rw [if_neg h1]
  have d1:(z == 1) = false:=by simpa using h1
  by_cases h2:z = 2
  ·subst h2
   have q:=rleft_any (cap:=cap) (i:=i) ht hc
   rw [if_pos rfl]
   replace hc:=Lib.hid hc
   go_enter Tryz.func40,Tryz.ntmps40
   go_wp2_with fail
   refine q.mono ?_
   rintro e w1 ⟨hb,⟨hcm,rfl⟩ | ⟨hcm,n,T,U,g,cp,hin,hnl,hT2,hM,rfl,hTr,hg⟩⟩
   ·clear q
    replace hcm:=Lib.hid hcm
    go_wp2_with fail
    go_ret2
    exact ⟨hb,.inl ⟨hcm.out,rfl⟩⟩
   ·clear q
    replace hTr:=Lib.hid hTr
    replace hM:=Lib.hid hM
    replace hin:=Lib.hid hin
    replace hcm:=Lib.hid hcm
    go_wp2_with fail
    go_ret2
    exact ⟨hb,.inr ⟨hcm.out,n,T,U,g,cp,hin.out,hnl,hT2,hM.out,rfl,hTr.out,hg⟩⟩
  ·rw [if_neg h2]
   have d2:(z == 2) = false:=by simpa using h2
   have q:=rswap_any (cap:=cap) (i:=i) ht hc
   replace hc:=Lib.hid hc
   go_enter Tryz.func40,Tryz.ntmps40
   go_wp2_with fail
   refine q.mono ?_
   rintro e w1 ⟨hb,⟨hcm,rfl⟩ | ⟨hcm,n,T,U,g,cp,hin,hnl,hT2,hM,rfl,hTr,hg⟩⟩
   ·clear q
    replace hcm:=Lib.hid hcm
    go_wp2_with fail
    go_ret2
    exact ⟨hb,.inl ⟨hcm.out,rfl⟩⟩
   ·clear q
    replace hTr:=Lib.hid hTr
    replace hM:=Lib.hid hM
    replace hin:=Lib.hid hin
    replace hcm:=Lib.hid hcm
    go_wp2_with fail
    go_ret2
    exact ⟨hb,.inr ⟨hcm.out,n,T,U,g,cp,hin.out,hnl,hT2,hM.out,rfl,hTr.out,hg⟩⟩
end Go.Proofs.YteikmmfjhabijaaGreatDoor
