import Derived.Test.YteikmmfjhabijaaGreatDoorRTab3
set_option linter.unusedSimpArgs false
set_option linter.unusedVariables false
namespace Go.Proofs.YteikmmfjhabijaaGreatDoor
open Go Go.RowKit Go.Shelf
set_option maxRecDepth 100000 in
set_option maxHeartbeats 1000000 in
theorem refLen_any (s:VSet) (w:World):Calls Tryz.prog 115 #[.agg #[.int .u64 (lo s),.int .u64 (hi s)]] w fun e w'=>e = .returned (.int .i64 ((listV s).length:Nat))∧Below w.heap.size w w':=by
 have hb1:=(Below.refl w.heap.size w).alloc (Nat.le_refl _) (.cells #[.int .u64 (lo s),.int .u64 (hi s)] 29)
 have hbx:=heap_alloc_new w (.cells #[.int .u64 (lo s),.int .u64 (hi s)] 29)
 have q:=refList_any s (w.alloc (.cells #[.int .u64 (lo s),.int .u64 (hi s)] 29))
 unfold encS at q
 obtain ⟨y0,y1⟩:=pbox_cells hbx
 generalize hm:(listV s).length = m at *
 replace hm:=Lib.hid hm
 replace hbx:=Lib.hid hbx
 go_enter Tryz.func115,Tryz.ntmps115
 go_wp2_with fail
 generalize w.alloc (.cells #[.int .u64 (lo s),.int .u64 (hi s)] 29) = w1 at *
 refine q.mono ?_
 rintro e w2 ⟨v,rfl,ho,hb⟩
 rw [←hm.out] at ho
 obtain ⟨ba,c,rfl,_⟩:=owns_slI ho
 rw [hm.out]
 replace ho:=Lib.hid ho
 clear q
 go_wp2_with fail
 go_ret
 exact ⟨rfl,hb1.trans (hb.mono hb1.size)⟩
def SubK (a b:VSet) (k:Nat):Prop:=∀ v:Nat,1≤v→v < k→hasS a v = true→hasS b v = true
theorem SubK.all {a b:VSet} (h:SubK a b 129) (v:Int) (hv:hasS a v = true):hasS b v = true:=by
 have hr:1≤v∧v≤128:=by
  unfold hasS at hv
  simp only [Bool.and_eq_true,decide_eq_true_eq] at hv
  exact hv.1
 have:=h v.toNat (by omega) (by omega)
 rw [show ((v.toNat:Nat):Int) = v by omega] at this
 exact this hv
set_option maxRecDepth 100000 in
set_option maxHeartbeats 1000000 in
theorem refSub_any (a b:VSet) (D:Bool) (hD:D = true↔∀ v,hasS a v = true→hasS b v = true) (w:World):Calls Tryz.prog 116 #[.agg #[.int .u64 (lo a),.int .u64 (hi a)],.agg #[.int .u64 (lo b),.int .u64 (hi b)]] w fun e w'=>e = .returned (.bool D)∧Below w.heap.size w w':=by
 obtain ⟨g0,g1⟩:=two_all w (.cells #[.int .u64 (lo a),.int .u64 (hi a)] 29) (.cells #[.int .u64 (lo b),.int .u64 (hi b)] 29)
 have hx1:=((Ext.refl w).alloc (.cells #[.int .u64 (lo a),.int .u64 (hi a)] 29)).alloc (.cells #[.int .u64 (lo b),.int .u64 (hi b)] 29)
 have qa:=fun (v:Int) W=>refHas_any a v W
 have qb:=fun (v:Int) W=>refHas_any b v W
 unfold encS at qa qb
 obtain ⟨y0,y1⟩:=pbox_cells g0
 obtain ⟨z0,z1⟩:=pbox_cells g1
 replace hD:=Lib.hid hD
 replace qa:=Lib.hid qa
 replace qb:=Lib.hid qb
 clear g0 g1
 go_enter Tryz.func116,Tryz.ntmps116
 go_wp2_with fail
 generalize (w.alloc (.cells #[.int .u64 (lo a),.int .u64 (hi a)] 29)).alloc (.cells #[.int .u64 (lo b),.int .u64 (hi b)] 29) = w1 at *
 have h0:Hid (Ext w1 w1∧SubK a b 1):=Lib.hid ⟨Ext.refl _,fun v h1 h2=>by omega⟩
 go_loopw [5] (fun iv wr=>∃ k:Nat,1≤k∧k≤129∧iv = .int .i64 (k:Nat)∧Hid (Ext w1 wr∧SubK a b k)) (fun iv _=>129 - (intOf iv).toNat)
 case atStart=>exact ⟨1,by omega,by omega,rfl,h0⟩
 case round =>
  clear h0
  obtain ⟨k,hk1,hk,rfl,hI⟩:=hrel
  by_cases hlt:k≤128
  ·have dlt:decide ((k:Int)≤128) = true:=decide_eq_true (by omega)
   have u0:=hI.out.1.cell y0
   have u1:=hI.out.1.cell y1
   have v0:=hI.out.1.cell z0
   have v1:=hI.out.1.cell z1
   have q1:=qa.out (k:Int) wr
   have hst:(hasS a (k:Int) = true→hasS b (k:Int) = true)→SubK a b (k+1):=fun h v h1 h2 h3=>by
    by_cases e:v = k
    ·subst e;exact h h3
    ·exact hI.out.2 v h1 (by omega) h3
   have hno:hasS a (k:Int) = true→hasS b (k:Int) = false→D = false:=fun h1 h2=>by
    cases hd:D
    ·rfl
    ·have:=hD.out.1 hd _ h1
     rw [h2] at this;cases this
   replace hst:=Lib.hid hst
   replace hno:=Lib.hid hno
   cases ha:hasS a (k:Int)
   ·rw [ha] at q1
    replace ha:=Lib.hid ha
    go_wp2_with fail
    refine q1.mono ?_
    rintro e w2 ⟨rfl,hx2⟩
    clear q1
    go_wp2_with fail
    go_roundw
    case rel=>exact ⟨k+1,by omega,by omega,by go_num,Lib.hid ⟨hI.out.1.trans hx2,hst.out fun h=>by rw [ha.out] at h;cases h⟩⟩
    case measure=>simp [intOf];omega
   ·rw [ha] at q1
    replace ha:=Lib.hid ha
    go_wp2_with fail
    refine q1.mono ?_
    rintro e w2 ⟨rfl,hx2⟩
    have q2:=qb.out (k:Int) w2
    have v0':=hx2.cell v0
    have v1':=hx2.cell v1
    clear q1 u0 u1 v0 v1
    cases hb:hasS b (k:Int)
    ·rw [hb] at q2
     replace hb:=Lib.hid hb
     go_wp2_with fail
     refine q2.mono ?_
     rintro e w3 ⟨rfl,hx3⟩
     clear q2
     go_wp2_with fail
     go_ret
     exact ⟨by rw [hno.out ha.out hb.out];rfl,(hx1.trans ((hI.out.1.trans hx2).trans hx3)).below⟩
    ·rw [hb] at q2
     replace hb:=Lib.hid hb
     go_wp2_with fail
     refine q2.mono ?_
     rintro e w3 ⟨rfl,hx3⟩
     clear q2
     go_wp2_with fail
     go_roundw
     case rel=>exact ⟨k+1,by omega,by omega,by go_num,Lib.hid ⟨(hI.out.1.trans hx2).trans hx3,hst.out fun _=>hb.out⟩⟩
     case measure=>simp [intOf];omega
  ·have dlt:decide ((k:Int)≤128) = false:=decide_eq_false (by omega)
   obtain rfl:k = 129:=by omega
   have hDt:=Lib.hid (hD.out.2 hI.out.2.all)
   go_wp2_with fail
   go_ret
   exact ⟨by rw [hDt.out];rfl,(hx1.trans hI.out.1).below⟩
structure TabOf (t:List VN) (l:List Int) (φ:L.Asg→Bool) (f:List Bool):Prop where
 chk:checkF t = 0
 few:t.length≤11
 six:l.length≤6
 vars:varsR t = some l
 sb:L.SortedBel t (t.length - 1) l
 tab:IsTab l φ f
 dep:L.Dep (fun v=>v∈l) φ
theorem TabOf.range {t:List VN} {l:List Int} {φ:L.Asg→Bool} {f:List Bool} (h:TabOf t l φ f):∀ v∈l,1≤v∧v≤128:=fun v hv=>((h.sb.mem v).1 hv).range
theorem TabOf.hangs {t:List VN} {l:List Int} {φ:L.Asg→Bool} {f:List Bool} (h:TabOf t l φ f) (v:Int):hasS (ofS (L.depL l f)) v = true↔L.Hangs φ v:=by
 rw [L.hasS_ofS,L.depL_mem h.sb.sorted h.tab h.dep]
 exact ⟨fun h=>h.2,fun hh=>⟨h.range v (hh.dep h.dep),hh⟩⟩
theorem TabOf.below {t:List VN} {l:List Int} {φ:L.Asg→Bool} {f:List Bool} (h:TabOf t l φ f) {v:Nat} (hv:v < t.length):∃ m,belowR t (t.length+1) v = some m∧m.length≤128∧∀ x,hasS (ofS m) x = true↔L.Bel t v x:=by
 obtain ⟨m,h1,h2⟩:=L.belowR_spec h.chk v hv (t.length+1) (by omega)
 refine ⟨m,h1,?_,fun x=>?_⟩
 ·have:=h2.len h.chk hv
  have h3:=L.nv_le h.chk hv
  have:=h.few
  omega
 ·rw [L.hasS_ofS,h2.mem]
  exact ⟨fun h=>h.2,fun h=>⟨h.range,h⟩⟩
def AtIs (t:List VN) (φ:L.Asg→Bool) (z:Int):Prop:=(z = -1∧∀ v,¬ L.Hangs φ v)∨∃ P:Nat,z = P∧L.PlaceOf t P φ
def AtLoop (w:World) (px:Nat) (x0 x1:Int) (wr:World):Prop:=Below w.heap.size w wr∧(wr.cell? ⟨px,0,none⟩ = some (.int .u64 x0)∧wr.cell? ⟨px,1,none⟩ = some (.int .u64 x1))
theorem AtLoop.next {w wr w':World} {px:Nat} {x0 x1:Int} (h:AtLoop w px x0 x1 wr) (hb:Below wr.heap.size wr w'):AtLoop w px x0 x1 w' :=
 ⟨h.1.trans (hb.mono h.1.size),(hb.cell (World.block_lt_of_cell? wr _ h.2.1)).trans h.2.1,(hb.cell (World.block_lt_of_cell? wr _ h.2.2)).trans h.2.2⟩
set_option maxRecDepth 100000 in
set_option maxHeartbeats 4000000 in
theorem tat_any {t:List VN} {l:List Int} {φ:L.Asg→Bool} {f:List Bool} (hC:TabOf t l φ f) {w:World} {b o c:Nat} {vf:Value} (ht:TreeAt w b o t) (hf:SlB w vf f) {z:Int} (hz:AtIs t φ z) :
  Calls Tryz.prog 78 #[.slice (some ⟨b,o,none⟩) t.length c,vf] w fun e w'=>e = .returned (.int .i64 z)∧Below w.heap.size w w':=by
 have t0:=(check_ok hC.chk).1
 have htl:=hC.few
 have hl6:=hC.six
 have hN:=hC.tab.len
 have qv:=refVars_any w b o c l ht t0 (by omega) hC.vars
 have hwr:IntKind.i64.wrap ((t.length:Int) - 1) = ((t.length - 1:Nat):Int):=by rw [IntWalk.i64_in _ (by omega)];omega
 generalize hS:ofS (L.depL l f) = S at *
 have hang:=hC.hangs
 rw [hS] at hang
 have hdp:=fun (W:World) (vl:Value) (hv:SlI W vl l) (hb:Below w.heap.size w W)=>depends_any hv (hf.below hb) hl6 hN
 rw [hS] at hdp
 unfold encS at hdp
 have hlen:(listV S).length = 0↔∀ v,¬ L.Hangs φ v:=by
  rw [List.length_eq_zero_iff,List.eq_nil_iff_forall_not_mem]
  exact ⟨fun h v hv=>h v ((L.listV_mem S v).2 ((hang v).2 hv)),fun h v hv=>h v ((hang v).1 ((L.listV_mem S v).1 hv))⟩
 obtain ⟨bf,of,cf,rfl,hfl,hfc⟩:=hf
 replace hdp:=Lib.hid hdp
 replace hlen:=Lib.hid hlen
 replace hang:=Lib.hid hang
 replace hC:=Lib.hid hC
 replace hN:=Lib.hid hN
 replace hfc:=Lib.hid hfc
 clear hS
 go_enter Tryz.func78,Tryz.ntmps78
 go_wp2_with fail
 refine qv.mono ?_
 rintro e w1 ⟨v1,rfl,ho1,hb1⟩
 have q2:=hdp.out w1 v1 (owns_slI ho1) hb1
 replace ho1:=Lib.hid ho1
 clear qv
 go_wp2_with fail
 refine q2.mono ?_
 rintro e w2 ⟨rfl,hb2⟩
 have b2:=hb1.trans (hb2.mono hb1.size)
 have hb3:=(Below.refl w2.heap.size w2).alloc (Nat.le_refl _) (.cells #[.int .u64 (lo S),.int .u64 (hi S)] 29)
 obtain ⟨y0,y1⟩:=pbox_cells (heap_alloc_new w2 (.cells #[.int .u64 (lo S),.int .u64 (hi S)] 29))
 have b3:=Lib.hid (b2.trans (hb3.mono b2.size))
 have q3:=refLen_any S (w2.alloc (.cells #[.int .u64 (lo S),.int .u64 (hi S)] 29))
 clear q2 hb1 hb2 b2 hb3
 go_wp2_with fail
 generalize w2.alloc (.cells #[.int .u64 (lo S),.int .u64 (hi S)] 29) = w3 at *
 generalize w2.heap.size = px at *
 generalize hm:(listV S).length = m at *
 replace hm:=Lib.hid hm
 refine q3.mono ?_
 rintro e w4 ⟨rfl,hb4⟩
 have hL0:AtLoop w px (lo S) (hi S) w4:=AtLoop.next ⟨b3.out,y0,y1⟩ hb4
 clear q3 y0 y1
 rcases hz with ⟨rfl,hno⟩ | ⟨P,rfl,hP⟩
 ·have m0:m = 0:=hlen.out.2 hno
  subst m0
  replace hno:=Lib.hid hno
  go_wp2_with fail
  go_ret
  exact ⟨rfl,hL0.1⟩
 ·have m0:((m:Int) == 0) = false:=beq_eq_false_iff_ne.2 fun e=>by
   obtain ⟨v,hv⟩:=hP.ess
   exact (hlen.out.1 (by omega)) v hv
  have hroot:=L.Und.root hC.out.chk t.length P hP.lt (by omega)
  replace hP:=Lib.hid hP
  replace hL0:=Lib.hid hL0
  replace hroot:=Lib.hid hroot
  go_wp2_with fail
  go_loopw [6] (fun qv wr=>∃ Q:Nat,Q < t.length∧qv = .int .i64 (Q:Nat)∧Hid (L.Und t Q P)∧Hid (AtLoop w px (lo S) (hi S) wr)) (fun qv _=>(intOf qv).toNat)
  case atStart=>exact ⟨t.length - 1,by omega,rfl,hroot,hL0⟩
  case round =>
   clear hL0 hroot
   obtain ⟨Q,hQ,rfl,hU,hI⟩:=hrel
   obtain ⟨n0,n1,n2⟩:=(ht.below hI.out.1).node hQ
   have hy:t[Q]? = some t[Q]:=List.getElem?_eq_getElem hQ
   generalize t[Q] = y at *
   obtain ⟨yl,yr,yv⟩:=y
   simp only at n0 n1 n2
   have i0:(0:Int)≤Q:=by omega
   have i1:(Q:Int) < t.length:=by omega
   cases hlf:leafB ⟨yl,yr,yv⟩
   ·obtain ⟨L',R',eL,eR,hLQ,hRQ,_⟩:=L.inner_ok hC.out.chk hy hlf
    simp only at eL eR
    subst eL eR
    have dl:decide (((L':Nat):Int)≥0) = true:=decide_eq_true (by omega)
    obtain ⟨ml,hml,hmll,hmlb⟩:=hC.out.below (v:=L') (by omega)
    obtain ⟨mr,hmr,hmrl,hmrb⟩:=hC.out.below (v:=R') (by omega)
    have ql:=fun W (hb:Below w.heap.size w W)=>refBelow_any (t.length+1) W b o c L' ml (ht.below hb) (by omega) hml
    have qr:=fun W (hb:Below w.heap.size w W)=>refBelow_any (t.length+1) W b o c R' mr (ht.below hb) (by omega) hmr
    have hsl:(∀ v,hasS S v = true→hasS (ofS ml) v = true)↔L.Und t L' P:=by
     rw [←hP.out.toL hC.out.chk hU.out hy hlf rfl rfl]
     exact ⟨fun h v hv=>(hmlb v).1 (h v ((hang.out v).2 hv)),fun h v hv=>(hmlb v).2 (h v ((hang.out v).1 hv))⟩
    have hsr:(∀ v,hasS S v = true→hasS (ofS mr) v = true)↔L.Und t R' P:=by
     rw [←hP.out.toR hC.out.chk hU.out hy hlf rfl rfl]
     exact ⟨fun h v hv=>(hmrb v).1 (h v ((hang.out v).2 hv)),fun h v hv=>(hmrb v).2 (h v ((hang.out v).1 hv))⟩
    have hkids:=hU.out.kids hC.out.chk hy rfl rfl
    have hId:=hI.out.next (Below.refl wr.heap.size wr).drew
    obtain ⟨k0,k1,k2⟩:=(ht.below hId.1).node hQ
    rw [show t[Q] = (⟨(L':Nat),(R':Nat),yv⟩:VN) from (List.getElem?_eq_some_iff.1 hy).2] at k0 k1 k2
    simp only at k0 k1 k2
    obtain ⟨p0,p1⟩:=hId.2
    have hId':=Lib.hid hId
    replace ql:=Lib.hid ql
    replace qr:=Lib.hid qr
    replace hmlb:=Lib.hid hmlb
    replace hmrb:=Lib.hid hmrb
    replace hsl:=Lib.hid hsl
    replace hsr:=Lib.hid hsr
    replace hy:=Lib.hid hy
    replace hlf:=Lib.hid hlf
    replace hkids:=Lib.hid hkids
    replace hml:=Lib.hid hml
    replace hmr:=Lib.hid hmr
    obtain ⟨D,hD⟩:∃ D:Bool,D = true↔L.Und t L' P:=⟨@decide _ (Classical.propDecidable _),@decide_eq_true_iff _ (Classical.propDecidable _)⟩
    have qsub:=fun W=>refSub_any S (ofS ml) D (hD.trans hsl.out.symm) W
    have qof:=fun W v (hv:SlI W v ml)=>refOf_any ml v W hv (by omega)
    unfold encS at qof
    generalize lo (ofS ml) = m0 at *
    generalize hi (ofS ml) = m1 at *
    replace qsub:=Lib.hid qsub
    replace qof:=Lib.hid qof
    replace hD:=Lib.hid hD
    clear n0 n1 n2
    have n0:wr.cell? ⟨b,o+Q * 3,none⟩ = some (.int .i64 (L':Nat)):=k0
    go_wp2_with fail
    (refine wp_region_held_drew (S:=(fun W=>(W.cell? ⟨px,0,none⟩ = some (.int .u64 (lo S))∧W.cell? ⟨px,1,none⟩ = some (.int .u64 (hi S)))∧W.cell? ⟨b,o+Q * 3,none⟩ = some (.int .i64 (L':Nat)))) (by kernel_rfl) ?_ (fun hHeld=>?_))
    ·exact ⟨⟨p0,p1⟩,k0⟩
    (refine takeL (i:=0) (v:=?_) rfl (by kernel_rfl) (by kernel_rfl) (by kernel_rfl) (fun _ _ _ h=>h) (Or.inl ⟨by rfl,?_⟩) (by assumption) ?_)
    rotate_left
    ·(intro w hSw;(try dsimp only at hSw);go_simp;first | done | with_reducible rfl)
    (try simp only [Act.put,List.setIfInBounds_toArray,List.set_cons_zero,List.set_cons_succ])
    (refine takeL (i:=1) (v:=?_) rfl (by kernel_rfl) (by kernel_rfl) (by kernel_rfl) (fun _ _ _ h=>h) (Or.inl ⟨by rfl,?_⟩) (by assumption) ?_)
    rotate_left
    ·(intro w hSw;(try dsimp only at hSw);go_simp;first | done | with_reducible rfl)
    (try simp only [Act.put,List.setIfInBounds_toArray,List.set_cons_zero,List.set_cons_succ])
    (refine takeL (i:=2) (v:=?_) rfl (by kernel_rfl) (by kernel_rfl) (by kernel_rfl) (fun _ _ _ h=>h) (Or.inl ⟨by rfl,?_⟩) (by assumption) ?_)
    rotate_left
    ·(intro w hSw;(try dsimp only at hSw);go_simp;first | done | with_reducible rfl)
    (try simp only [Act.put,List.setIfInBounds_toArray,List.set_cons_zero,List.set_cons_succ])
    (refine takeL (i:=3) (v:=?_) rfl (by kernel_rfl) (by kernel_rfl) (by kernel_rfl) (fun _ _ _ h=>h) (Or.inl ⟨by rfl,?_⟩) (by assumption) ?_)
    rotate_left
    ·(intro w hSw;(try dsimp only at hSw);go_simp;first | done | with_reducible rfl)
    (try simp only [Act.put,List.setIfInBounds_toArray,List.set_cons_zero,List.set_cons_succ])
    (refine takeL (i:=4) (v:=?_) rfl (by kernel_rfl) (by kernel_rfl) (by kernel_rfl) (fun _ _ _ h=>h) (Or.inl ⟨by rfl,?_⟩) (by assumption) ?_)
    rotate_left
    ·(intro w hSw;(try dsimp only at hSw);go_simp;first | done | with_reducible rfl)
    (try simp only [Act.put,List.setIfInBounds_toArray,List.set_cons_zero,List.set_cons_succ])
    (refine takeL (i:=5) (v:=?_) rfl (by kernel_rfl) (by kernel_rfl) (by kernel_rfl) (fun _ _ _ h=>h) (Or.inl ⟨by rfl,?_⟩) (by assumption) ?_)
    rotate_left
    ·(intro w hSw;(try dsimp only at hSw);go_simp;first | done | with_reducible rfl)
    (try simp only [Act.put,List.setIfInBounds_toArray,List.set_cons_zero,List.set_cons_succ])
    (refine takeL (i:=6) (v:=?_) rfl (by kernel_rfl) (by kernel_rfl) (by kernel_rfl) (fun _ _ _ h=>h) (Or.inl ⟨by rfl,?_⟩) (by assumption) ?_)
    rotate_left
    ·(intro w hSw;(try dsimp only at hSw);go_simp;first | done | with_reducible rfl)
    (try simp only [Act.put,List.setIfInBounds_toArray,List.set_cons_zero,List.set_cons_succ])
    have qb1:=ql.out wr.drew hId'.out.1
    (refine wpAnyH_ready (rs:=[7]) (by kernel_rfl) (by simp) ?_)
    (refine consL rfl (fun K hK=>?_))
    ((rw [if_pos (by rfl)]);go_simp;(go_at_call 60);refine qb1.mono ?_;rintro e w5 ⟨v5,rfl,ho5,hb5⟩;refine hK.out _ _ ⟨⟨(hb5.cell (World.block_lt_of_cell? _ _ p0)).trans p0,(hb5.cell (World.block_lt_of_cell? _ _ p1)).trans p1⟩,(hb5.cell (World.block_lt_of_cell? _ _ k0)).trans k0⟩ (fun hHeld=>?_))
    (clear hK K)
    (try simp only [Act.put,List.setIfInBounds_toArray,List.set_cons_zero,List.set_cons_succ])
    have hI5:=hId'.out.next hb5
    have qo:=qof.out w5 v5 (owns_slI ho5)
    have k5:w5.cell? ⟨b,o+Q * 3,none⟩ = some (.int .i64 (L':Nat)):=(hb5.cell (World.block_lt_of_cell? _ _ k0)).trans k0
    obtain ⟨p50,p51⟩:=hI5.2
    replace ho5:=Lib.hid ho5
    replace hI5:=Lib.hid hI5
    (refine wpAnyH_ready (rs:=[8]) (by kernel_rfl) (by simp) ?_)
    (refine consL rfl (fun K hK=>?_))
    ((rw [if_pos (by rfl)]);go_simp;(go_at_call 101);refine qo.mono ?_;rintro e w6 ⟨rfl,hb6⟩;refine hK.out _ _ ⟨⟨(hb6.cell (World.block_lt_of_cell? _ _ p50)).trans p50,(hb6.cell (World.block_lt_of_cell? _ _ p51)).trans p51⟩,(hb6.cell (World.block_lt_of_cell? _ _ k5)).trans k5⟩ (fun hHeld=>?_))
    (clear hK K)
    (try simp only [Act.put,List.setIfInBounds_toArray,List.set_cons_zero,List.set_cons_succ])
    have hI6:=hI5.out.next hb6
    have qs:=qsub.out w6
    have k6:w6.cell? ⟨b,o+Q * 3,none⟩ = some (.int .i64 (L':Nat)):=(hb6.cell (World.block_lt_of_cell? _ _ k5)).trans k5
    obtain ⟨p60,p61⟩:=hI6.2
    replace hI6:=Lib.hid hI6
    (refine wpAnyH_ready (rs:=[9]) (by kernel_rfl) (by simp) ?_)
    (refine consL rfl (fun K hK=>?_))
    ((rw [if_pos (by rfl)]);go_simp;(go_at_call 116);refine qs.mono ?_;rintro e w7 ⟨rfl,hb7⟩;refine hK.out _ _ ⟨⟨(hb7.cell (World.block_lt_of_cell? _ _ p60)).trans p60,(hb7.cell (World.block_lt_of_cell? _ _ p61)).trans p61⟩,(hb7.cell (World.block_lt_of_cell? _ _ k6)).trans k6⟩ (fun hHeld=>?_))
    (clear hK K)
    (try simp only [Act.put,List.setIfInBounds_toArray,List.set_cons_zero,List.set_cons_succ])
    (refine wpAnyH_done (by kernel_rfl) ?_ _)
    have hI7:=hI6.out.next hb7
    have k7:w7.cell? ⟨b,o+Q * 3,none⟩ = some (.int .i64 (L':Nat)):=(hb7.cell (World.block_lt_of_cell? _ _ k6)).trans k6
    obtain ⟨_,kr7,_⟩:=(ht.below hI7.1).node hQ
    rw [show t[Q] = (⟨(L':Nat),(R':Nat),yv⟩:VN) from (List.getElem?_eq_some_iff.1 hy.out).2] at kr7
    simp only at kr7
    replace hI7:=Lib.hid hI7
    clear hHeld qb1 qo qs hb5 hb6 hb7 p0 p1 k0 k1 k2 k5 k6 p50 p51 p60 p61 hI5 hI6 ho5 n0 hId' hI
    cases hDv:D
    ·have hnl:Hid (¬ L.Und t L' P):=Lib.hid (fun h=>by have:=hD.out.2 h;rw [hDv] at this;cases this)
     subst hDv
     have hId8:=hI7.out.next (Below.refl w7.heap.size w7).drew
     obtain ⟨k0,k1,k2⟩:=(ht.below hId8.1).node hQ
     rw [show t[Q] = (⟨(L':Nat),(R':Nat),yv⟩:VN) from (List.getElem?_eq_some_iff.1 hy.out).2] at k0 k1 k2
     simp only at k0 k1 k2
     obtain ⟨p0,p1⟩:=hId8.2
     replace hId8:=Lib.hid hId8
     obtain ⟨E,hE⟩:∃ E:Bool,E = true↔L.Und t R' P:=⟨@decide _ (Classical.propDecidable _),@decide_eq_true_iff _ (Classical.propDecidable _)⟩
     have qsub:=Lib.hid fun W=>refSub_any S (ofS mr) E (hE.trans hsr.out.symm) W
     have qof:=fun W v (hv:SlI W v mr)=>refOf_any mr v W hv (by omega)
     unfold encS at qof
     replace qof:=Lib.hid qof
     generalize lo (ofS mr) = m0 at *
     generalize hi (ofS mr) = m1 at *
     replace hE:=Lib.hid hE
     go_wp2_with fail
     (refine wp_region_held_drew (S:=(fun W=>(W.cell? ⟨px,0,none⟩ = some (.int .u64 (lo S))∧W.cell? ⟨px,1,none⟩ = some (.int .u64 (hi S)))∧W.cell? ⟨b,o+Q * 3+1,none⟩ = some (.int .i64 (R':Nat)))) (by kernel_rfl) ?_ (fun hHeld=>?_))
     ·exact ⟨⟨p0,p1⟩,k1⟩
     (refine takeL (i:=0) (v:=?_) rfl (by kernel_rfl) (by kernel_rfl) (by kernel_rfl) (fun _ _ _ h=>h) (Or.inl ⟨by rfl,?_⟩) (by assumption) ?_)
     rotate_left
     ·(intro w hSw;(try dsimp only at hSw);go_simp;first | done | with_reducible rfl)
     (try simp only [Act.put,List.setIfInBounds_toArray,List.set_cons_zero,List.set_cons_succ])
     (refine takeL (i:=1) (v:=?_) rfl (by kernel_rfl) (by kernel_rfl) (by kernel_rfl) (fun _ _ _ h=>h) (Or.inl ⟨by rfl,?_⟩) (by assumption) ?_)
     rotate_left
     ·(intro w hSw;(try dsimp only at hSw);go_simp;first | done | with_reducible rfl)
     (try simp only [Act.put,List.setIfInBounds_toArray,List.set_cons_zero,List.set_cons_succ])
     (refine takeL (i:=2) (v:=?_) rfl (by kernel_rfl) (by kernel_rfl) (by kernel_rfl) (fun _ _ _ h=>h) (Or.inl ⟨by rfl,?_⟩) (by assumption) ?_)
     rotate_left
     ·(intro w hSw;(try dsimp only at hSw);go_simp;first | done | with_reducible rfl)
     (try simp only [Act.put,List.setIfInBounds_toArray,List.set_cons_zero,List.set_cons_succ])
     (refine takeL (i:=3) (v:=?_) rfl (by kernel_rfl) (by kernel_rfl) (by kernel_rfl) (fun _ _ _ h=>h) (Or.inl ⟨by rfl,?_⟩) (by assumption) ?_)
     rotate_left
     ·(intro w hSw;(try dsimp only at hSw);go_simp;first | done | with_reducible rfl)
     (try simp only [Act.put,List.setIfInBounds_toArray,List.set_cons_zero,List.set_cons_succ])
     (refine takeL (i:=4) (v:=?_) rfl (by kernel_rfl) (by kernel_rfl) (by kernel_rfl) (fun _ _ _ h=>h) (Or.inl ⟨by rfl,?_⟩) (by assumption) ?_)
     rotate_left
     ·(intro w hSw;(try dsimp only at hSw);go_simp;first | done | with_reducible rfl)
     (try simp only [Act.put,List.setIfInBounds_toArray,List.set_cons_zero,List.set_cons_succ])
     (refine takeL (i:=5) (v:=?_) rfl (by kernel_rfl) (by kernel_rfl) (by kernel_rfl) (fun _ _ _ h=>h) (Or.inl ⟨by rfl,?_⟩) (by assumption) ?_)
     rotate_left
     ·(intro w hSw;(try dsimp only at hSw);go_simp;first | done | with_reducible rfl)
     (try simp only [Act.put,List.setIfInBounds_toArray,List.set_cons_zero,List.set_cons_succ])
     (refine takeL (i:=6) (v:=?_) rfl (by kernel_rfl) (by kernel_rfl) (by kernel_rfl) (fun _ _ _ h=>h) (Or.inl ⟨by rfl,?_⟩) (by assumption) ?_)
     rotate_left
     ·(intro w hSw;(try dsimp only at hSw);go_simp;first | done | with_reducible rfl)
     (try simp only [Act.put,List.setIfInBounds_toArray,List.set_cons_zero,List.set_cons_succ])
     have qb1:=qr.out w7.drew hId8.out.1
     (refine wpAnyH_ready (rs:=[7]) (by kernel_rfl) (by simp) ?_)
     (refine consL rfl (fun K hK=>?_))
     ((rw [if_pos (by rfl)]);go_simp;(go_at_call 60);refine qb1.mono ?_;rintro e w5 ⟨v5,rfl,ho5,hb5⟩;refine hK.out _ _ ⟨⟨(hb5.cell (World.block_lt_of_cell? _ _ p0)).trans p0,(hb5.cell (World.block_lt_of_cell? _ _ p1)).trans p1⟩,(hb5.cell (World.block_lt_of_cell? _ _ k1)).trans k1⟩ (fun hHeld=>?_))
     (clear hK K)
     (try simp only [Act.put,List.setIfInBounds_toArray,List.set_cons_zero,List.set_cons_succ])
     have hI5:=hId8.out.next hb5
     have qo:=qof.out w5 v5 (owns_slI ho5)
     have k5:w5.cell? ⟨b,o+Q * 3+1,none⟩ = some (.int .i64 (R':Nat)):=(hb5.cell (World.block_lt_of_cell? _ _ k1)).trans k1
     obtain ⟨p50,p51⟩:=hI5.2
     replace ho5:=Lib.hid ho5
     replace hI5:=Lib.hid hI5
     (refine wpAnyH_ready (rs:=[8]) (by kernel_rfl) (by simp) ?_)
     (refine consL rfl (fun K hK=>?_))
     ((rw [if_pos (by rfl)]);go_simp;(go_at_call 101);refine qo.mono ?_;rintro e w6 ⟨rfl,hb6⟩;refine hK.out _ _ ⟨⟨(hb6.cell (World.block_lt_of_cell? _ _ p50)).trans p50,(hb6.cell (World.block_lt_of_cell? _ _ p51)).trans p51⟩,(hb6.cell (World.block_lt_of_cell? _ _ k5)).trans k5⟩ (fun hHeld=>?_))
     (clear hK K)
     (try simp only [Act.put,List.setIfInBounds_toArray,List.set_cons_zero,List.set_cons_succ])
     have hI6:=hI5.out.next hb6
     have qs:=qsub.out w6
     have k6:w6.cell? ⟨b,o+Q * 3+1,none⟩ = some (.int .i64 (R':Nat)):=(hb6.cell (World.block_lt_of_cell? _ _ k5)).trans k5
     obtain ⟨p60,p61⟩:=hI6.2
     replace hI6:=Lib.hid hI6
     (refine wpAnyH_ready (rs:=[9]) (by kernel_rfl) (by simp) ?_)
     (refine consL rfl (fun K hK=>?_))
     ((rw [if_pos (by rfl)]);go_simp;(go_at_call 116);refine qs.mono ?_;rintro e w8 ⟨rfl,hb8⟩;refine hK.out _ _ ⟨⟨(hb8.cell (World.block_lt_of_cell? _ _ p60)).trans p60,(hb8.cell (World.block_lt_of_cell? _ _ p61)).trans p61⟩,(hb8.cell (World.block_lt_of_cell? _ _ k6)).trans k6⟩ (fun hHeld=>?_))
     (clear hK K)
     (try simp only [Act.put,List.setIfInBounds_toArray,List.set_cons_zero,List.set_cons_succ])
     (refine wpAnyH_done (by kernel_rfl) ?_ _)
     have hI8:=hI6.out.next hb8
     obtain ⟨_,kr8,_⟩:=(ht.below hI8.1).node hQ
     rw [show t[Q] = (⟨(L':Nat),(R':Nat),yv⟩:VN) from (List.getElem?_eq_some_iff.1 hy.out).2] at kr8
     simp only at kr8
     replace hI8:=Lib.hid hI8
     clear hHeld qb1 qo qs hb5 hb6 hb8 p0 p1 k0 k1 k2 k5 k6 p50 p51 p60 p61 hI5 hI6 ho5 hId8 hI7 k7 kr7
     cases hEv:E
     ·have hnr:¬ L.Und t R' P:=fun h=>by have:=hE.out.2 h;rw [hEv] at this;cases this
      have hPQ:P = Q:=hkids.out.resolve_right (fun h=>h.elim hnl.out hnr)
      subst hEv
      replace hPQ:=Lib.hid hPQ
      replace hnr:=Lib.hid hnr
      go_wp2_with fail
      go_ret
      exact ⟨by rw [hPQ.out];rfl,hI8.out.1⟩
     ·have hUr:=Lib.hid (hE.out.1 hEv)
      subst hEv
      go_wp2_with fail
      go_roundw
      case rel=>exact ⟨R',by omega,rfl,hUr,hI8⟩
      case measure=>simp [intOf];omega
    ·have hUl:=Lib.hid (hD.out.1 hDv)
     subst hDv
     go_wp2_with fail
     go_roundw
     case rel=>exact ⟨L',by omega,rfl,hUl,hI7⟩
     case measure=>simp [intOf];omega
   ·have hyl:yl = -1:=by simp only [leafB,Bool.and_eq_true,decide_eq_true_eq] at hlf;exact hlf.1.1
    subst hyl
    have hPQ:P = Q:=hU.out.leaf hC.out.chk hy hlf
    replace hPQ:=Lib.hid hPQ
    clear hlf hy
    go_wp2_with fail
    go_ret
    exact ⟨by rw [hPQ.out];rfl,hI.out.1⟩
end Go.Proofs.YteikmmfjhabijaaGreatDoor
