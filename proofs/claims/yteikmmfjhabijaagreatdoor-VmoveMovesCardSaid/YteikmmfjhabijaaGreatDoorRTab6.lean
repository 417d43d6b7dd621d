import Derived.Test.YteikmmfjhabijaaGreatDoorRTab5
set_option linter.unusedSimpArgs false
set_option linter.unusedVariables false
namespace Go.Proofs.YteikmmfjhabijaaGreatDoor
open Go Go.RowKit Go.Shelf
def RetEls (els:List (List Bool × List Bool)) (w:World) (e:Ending) (w':World):Prop:=∃ v,e = .returned v∧EAt w' v els∧Below w.heap.size w w'
theorem el_info:(Tryz.prog.info? 126).map (fun i=>(i.zero,i.size,i.bytes)) = some (some (.agg #[.slice none 0 0,.slice none 0 0]),2,48):=by kernel_rfl
theorem mask_of {t:List VN} {l:List Int} {φ:L.Asg→Bool} {f:List Bool} (hC:TabOf t l φ f) {m:List Int} {L':Nat} (hm:∀ x,hasS (ofS m) x = true↔L.Bel t L' x):L.Mask l (L.Bel t L') (idxF l (L.asg (ofS m))) :=
 ⟨idxF_lt _ _,fun k hk=>by rw [idxF_bit l _ hk];exact hm _⟩
theorem rep_tab (N:Nat):List.replicate N false = tabN N fun _=>false:=by simp [tabN,List.map_const']
theorem elStep_len (f:List Bool) (mk:Nat) (out:List (List Bool × List Bool)) (x:Nat):(L.elStep f mk out x).length≤out.length+1:=by
 unfold L.elStep
 split
 ·simp only [List.length_modify]
  split
  ·simp
  ·omega
 ·omega
theorem elsN_len (f:List Bool) (mk:Nat):∀ m,(L.elsN f mk m).length≤m
 | 0=>by simp [L.elsN]
 | m+1=>by
   rw [L.elsN_succ]
   have:=elStep_len f mk (L.elsN f mk m) m
   have:=elsN_len f mk m
   omega
def ElLoop (w:World) (f:List Bool) (mk x:Nat) (v:Value) (wr:World):Prop:=ElsAt w f.length wr.heap.size (L.elsN f mk x) v wr
theorem ElsAt.top {w0:World} {N top top':Nat} {els:List (List Bool × List Bool)} {v:Value} {wr:World} (h:ElsAt w0 N top els v wr) (ht:top≤top'):ElsAt w0 N top' els v wr:=by
 obtain ⟨bs,h1,h2,h3,h5,h4⟩:=h.bs
 exact ⟨h.bel,⟨bs,h1,h2,h3,fun x hx=>Nat.lt_of_lt_of_le (h5 x hx) ht,h4⟩,h.len,h.sh⟩
set_option maxRecDepth 100000 in
set_option maxHeartbeats 8000000 in
theorem tels_any {t:List VN} {l:List Int} {φ:L.Asg→Bool} {f:List Bool} (hC:TabOf t l φ f) {w:World} {b o c:Nat} {vf:Value} (ht:TreeAt w b o t) (hf:SlB w vf f) {P L':Nat} {y:VN} (hP:L.PlaceOf t P φ) (hy:t[P]? = some y) (hlf:leafB y = false) (hyl:y.left = L') :
  Calls Tryz.prog 77 #[.slice (some ⟨b,o,none⟩) t.length c,vf] w fun e w'=>∃ mk,L.Mask l (L.Bel t L') mk∧RetEls (L.elsN f mk (2 ^ l.length)) w e w':=by
 have q1:=tat_any (c:=c) hC ht hf (z:=P) (.inr ⟨P,rfl,hP⟩)
 have t0:=(check_ok hC.chk).1
 have htl:=hC.few
 have hl6:=hC.six
 have hN:=hC.tab.len
 have hp6:=pow_le64 hl6
 rw [←hN] at hp6
 have hPl:=hP.lt
 obtain ⟨L2,R',eL,eR,hLP,hRP,_⟩:=L.inner_ok hC.chk hy hlf
 obtain rfl:L2 = L':=by omega
 obtain ⟨ml,hml,hmll,hmlb⟩:=hC.below (v:=L2) (by omega)
 have hmask:=mask_of hC hmlb
 have qv:=fun W (hb:Below w.heap.size w W)=>refVars_any W b o c l (ht.below hb) t0 (by omega) hC.vars
 have ql:=fun W (hb:Below w.heap.size w W)=>refBelow_any (t.length+1) W b o c L2 ml (ht.below hb) (by omega) hml
 have qof:=fun W v (hv:SlI W v ml)=>refOf_any ml v W hv (by omega)
 have qi:=fun W v (hv:SlI W v l)=>index_any hv ⟨l.length,rfl,hl6⟩ (ofS ml)
 unfold encS at qof qi
 generalize hmk:idxF l (L.asg (ofS ml)) = mk at *
 generalize lo (ofS ml) = m0 at *
 generalize hi (ofS ml) = m1 at *
 obtain ⟨bf,of,cf,rfl,hfl,hfc⟩:=hf
 obtain ⟨n0,n1,n2⟩:=ht.node hPl
 rw [(List.getElem?_eq_some_iff.1 hy).2] at n0 n1 n2
 obtain ⟨yl,yr,yv⟩:=y
 simp only at n0 n1 n2 eL eR
 subst eL eR
 have i0:(0:Int)≤P:=by omega
 have i1:(P:Int) < t.length:=by omega
 have dP:decide ((P:Int) < 0) = false:=decide_eq_false (by omega)
 have dL:decide ((L2:Int) < 0) = false:=decide_eq_false (by omega)
 have hmkN:mk < f.length:=by rw [hN];exact hmask.lt
 have hband:∀ x:Nat,x < f.length→bits BinOp.and IntKind.i64 (x:Int) (mk:Int) = ((x &&& mk:Nat):Int):=fun x hx=>bits_andN x mk (by omega) (by omega)
 have hsplit:∀ i x:Nat,i < f.length→x < f.length→x &&& mk = x→i - (i &&& mk)+x < f.length∧i &&& mk≤i:=fun i x hi hx hs=>by
  rw [hN] at hi hx ⊢
  exact ⟨(L.split_bits hi hx hs).1,Nat.and_le_left⟩
 obtain ⟨iv,hiv,hzv,hsv,hbv⟩:=info_parts el_info
 have hmkS:∀ W,(Instr.makeSlice 43 (.int .i64 (f.length:Int)) (.int .i64 (f.length:Int))).run Tryz.prog W = .ok (.slice (some ⟨W.heap.size,0,none⟩) f.length f.length) (W.alloc (.cells (madeCells #[.bool false] f.length) 4)):=fun W=>bool_mk f.length (by omega) W
 rw [←hN]
 replace hC:=Lib.hid hC
 replace hN:=Lib.hid hN
 replace hP:=Lib.hid hP
 replace hy:=Lib.hid hy
 replace hlf:=Lib.hid hlf
 replace hmask:=Lib.hid hmask
 replace hmlb:=Lib.hid hmlb
 replace hml:=Lib.hid hml
 replace qv:=Lib.hid qv
 replace ql:=Lib.hid ql
 replace qof:=Lib.hid qof
 replace qi:=Lib.hid qi
 replace hmk:=Lib.hid hmk
 replace hfc:=Lib.hid hfc
 replace hband:=Lib.hid hband
 replace hsplit:=Lib.hid hsplit
 go_enter Tryz.func77,Tryz.ntmps77
 go_wp2_with fail
 refine q1.mono ?_
 rintro e w1 ⟨rfl,hb1⟩
 have n0':=(hb1.cell (World.block_lt_of_cell? w _ n0)).trans n0
 have hbd:=hb1.trans ((Below.refl w1.heap.size w1).drew.mono hb1.size)
 have k0:w1.drew.cell? ⟨b,o+P * 3,none⟩ = some (.int .i64 (L2:Nat)):=(hbd.cell (World.block_lt_of_cell? w _ n0)).trans n0
 have qv1:=qv.out w1.drew hbd
 replace hbd:=Lib.hid hbd
 clear q1 n0 n1 n2
 go_wp2_with fail
 (refine wp_region_held_drew (S:=(fun W=>W.cell? ⟨b,o+P * 3,none⟩ = some (.int .i64 (L2:Nat)))) (by kernel_rfl) ?_ (fun hHeld=>?_))
 ·exact k0
 (refine takeL (i:=0) (v:=?_) rfl (by kernel_rfl) (by kernel_rfl) (by kernel_rfl) (fun _ _ _ h=>h) (Or.inl ⟨by rfl,?_⟩) (by assumption) ?_)
 rotate_left
 ·(intro w hSw;(try dsimp only at hSw);go_simp;first | done | with_reducible rfl)
 (try simp only [Act.put,List.setIfInBounds_toArray,List.set_cons_zero,List.set_cons_succ])
 (refine takeL (i:=2) (v:=?_) rfl (by kernel_rfl) (by kernel_rfl) (by kernel_rfl) (fun _ _ _ h=>h) (Or.inl ⟨by rfl,?_⟩) (by assumption) ?_)
 rotate_left
 ·(intro w hSw;(try dsimp only at hSw);go_simp;first | done | with_reducible rfl)
 (try simp only [Act.put,List.setIfInBounds_toArray,List.set_cons_zero,List.set_cons_succ])
 (refine takeL (i:=3) (v:=?_) rfl (by kernel_rfl) (by kernel_rfl) (by kernel_rfl) (fun _ _ _ h=>h) (Or.inl ⟨by rfl,?_⟩) (by assumption) ?_)
 rotate_left
 ·(intro w hSw;(try dsimp only at hSw);go_simp;first | done | with_reducible rfl)
 (try simp only [Act.put,List.setIfInBounds_toArray,List.set_cons_zero,List.set_cons_succ])
 (refine takeL (i:=4) (v:=?_) rfl (by kernel_rfl) (by kernel_rfl) (by kernel_rfl) (fun _ _ _ h=>h) (Or.inl ⟨by rfl,?_⟩) (by assumption) ?_)
 rotate_left
 ·(intro w hSw;(try dsimp only at hSw);go_simp;first | done | with_reducible rfl)
 (try simp only [Act.put,List.setIfInBounds_toArray,List.set_cons_zero,List.set_cons_succ])
 (refine takeL (i:=5) (v:=?_) rfl (by kernel_rfl) (by kernel_rfl) (by kernel_rfl) (fun _ _ _ h=>h) (Or.inl ⟨by rfl,?_⟩) (by assumption) ?_)
 rotate_left
 ·(intro w hSw;(try dsimp only at hSw);go_simp;first | done | with_reducible rfl)
 (try simp only [Act.put,List.setIfInBounds_toArray,List.set_cons_zero,List.set_cons_succ])
 (refine takeL (i:=6) (v:=?_) rfl (by kernel_rfl) (by kernel_rfl) (by kernel_rfl) (fun _ _ _ h=>h) (Or.inl ⟨by rfl,?_⟩) (by assumption) ?_)
 rotate_left
 ·(intro w hSw;(try dsimp only at hSw);go_simp;first | done | with_reducible rfl)
 (try simp only [Act.put,List.setIfInBounds_toArray,List.set_cons_zero,List.set_cons_succ])
 (refine takeL (i:=7) (v:=?_) rfl (by kernel_rfl) (by kernel_rfl) (by kernel_rfl) (fun _ _ _ h=>h) (Or.inl ⟨by rfl,?_⟩) (by assumption) ?_)
 rotate_left
 ·(intro w hSw;(try dsimp only at hSw);go_simp;first | done | with_reducible rfl)
 (try simp only [Act.put,List.setIfInBounds_toArray,List.set_cons_zero,List.set_cons_succ])
 (refine wpAnyH_ready (rs:=[1]) (by kernel_rfl) (by simp) ?_)
 (refine consL rfl (fun K hK=>?_))
 ((rw [if_pos (by rfl)]);go_simp;(go_at_call 20);refine qv1.mono ?_;rintro e w2 ⟨v2,rfl,ho2,hb2⟩;refine hK.out _ _ ((hb2.cell (World.block_lt_of_cell? _ _ k0)).trans k0) (fun hHeld=>?_))
 (clear hK K)
 (try simp only [Act.put,List.setIfInBounds_toArray,List.set_cons_zero,List.set_cons_succ])
 have b2:=hbd.out.trans (hb2.mono hbd.out.size)
 have k2:w2.cell? ⟨b,o+P * 3,none⟩ = some (.int .i64 (L2:Nat)):=(hb2.cell (World.block_lt_of_cell? _ _ k0)).trans k0
 have ql1:=ql.out w2 b2
 have hs2:=owns_slI ho2
 replace ho2:=Lib.hid ho2
 replace b2:=Lib.hid b2
 clear k0 hb2
 (refine wpAnyH_ready (rs:=[8]) (by kernel_rfl) (by simp) ?_)
 (refine consL rfl (fun K hK=>?_))
 ((rw [if_pos (by rfl)]);go_simp;(go_at_call 60);refine ql1.mono ?_;rintro e w3 ⟨v3,rfl,ho3,hb3⟩;refine hK.out _ _ ((hb3.cell (World.block_lt_of_cell? _ _ k2)).trans k2) (fun hHeld=>?_))
 (clear hK K)
 (try simp only [Act.put,List.setIfInBounds_toArray,List.set_cons_zero,List.set_cons_succ])
 have b3:=b2.out.trans (hb3.mono b2.out.size)
 have k3:w3.cell? ⟨b,o+P * 3,none⟩ = some (.int .i64 (L2:Nat)):=(hb3.cell (World.block_lt_of_cell? _ _ k2)).trans k2
 have qo1:=qof.out w3 v3 (owns_slI ho3)
 have ho23:=own_lift ho2.out hb3
 replace ho23:=Lib.hid ho23
 replace ho3:=Lib.hid ho3
 replace b3:=Lib.hid b3
 clear k2 hb3 ql1
 (refine wpAnyH_ready (rs:=[9]) (by kernel_rfl) (by simp) ?_)
 (refine consL rfl (fun K hK=>?_))
 ((rw [if_pos (by rfl)]);go_simp;(go_at_call 101);refine qo1.mono ?_;rintro e w4 ⟨rfl,hb4⟩;refine hK.out _ _ ((hb4.cell (World.block_lt_of_cell? _ _ k3)).trans k3) (fun hHeld=>?_))
 (clear hK K)
 (try simp only [Act.put,List.setIfInBounds_toArray,List.set_cons_zero,List.set_cons_succ])
 have b4:=b3.out.trans (hb4.mono b3.out.size)
 have k4:w4.cell? ⟨b,o+P * 3,none⟩ = some (.int .i64 (L2:Nat)):=(hb4.cell (World.block_lt_of_cell? _ _ k3)).trans k3
 have qi1:=qi.out w4 v2 (owns_slI (own_lift ho23.out hb4))
 replace b4:=Lib.hid b4
 clear k3 hb4 qo1
 (refine wpAnyH_ready (rs:=[10]) (by kernel_rfl) (by simp) ?_)
 (refine consL rfl (fun K hK=>?_))
 ((rw [if_pos (by rfl)]);go_simp;(go_at_call 19);refine qi1.mono ?_;rintro e w5 ⟨rfl,hb5⟩;refine hK.out _ _ ((hb5.cell (World.block_lt_of_cell? _ _ k4)).trans k4) (fun hHeld=>?_))
 (clear hK K)
 (try simp only [Act.put,List.setIfInBounds_toArray,List.set_cons_zero,List.set_cons_succ])
 (refine takeL (i:=11) (v:=?_) rfl (by kernel_rfl) (by kernel_rfl) (by kernel_rfl) (fun _ _ _ h=>h) (Or.inl ⟨by rfl,?_⟩) (by assumption) ?_)
 rotate_left
 ·(intro w hSw;(try dsimp only at hSw);go_simp;first | done | with_reducible rfl)
 (try simp only [Act.put,List.setIfInBounds_toArray,List.set_cons_zero,List.set_cons_succ])
 (refine wpAnyH_done (by kernel_rfl) ?_ _)
 have b5:=Lib.hid (b4.out.trans (hb5.mono b4.out.size))
 clear k4 hb5 qi1 hHeld n0' qv1 hs2
 have h0:Hid (ElLoop w f mk 0 (.slice none 0 0) w5):=Lib.hid (ElsAt.nil w w5 _ _ b5.out)
 go_wp2_with fail
 go_loopw [7,8] (fun ov xv wr=>∃ x:Nat,x≤f.length∧xv = .int .i64 (x:Nat)∧Hid (ElLoop w f mk x ov wr)) (fun _ xv _=>f.length - (intOf xv).toNat)
 case atStart=>exact ⟨0,Nat.zero_le _,rfl,h0⟩
 case round =>
  clear h0 b5
  obtain ⟨x,hx,rfl,hI⟩:=hrel
  by_cases hlt:x < f.length
  ·have dx:decide ((x:Int) < (f.length:Int)) = true:=decide_eq_true (by omega)
   have hbx:=hband.out x hlt
   by_cases hxm:x &&& mk = x
   ·have hbx2:bits BinOp.and IntKind.i64 (x:Int) (mk:Int) = (x:Int):=by rw [hbx,hxm]
    have dne:((x:Int) != (x:Int)) = false:=by simp
    clear hbx
    have hE:=hI.out
    have hstep:=L.elsN_succ f mk x
    have hlens:=hE.len
    have hel64:=elsN_len f mk x
    unfold ElLoop at hE
    have hws:=hE.bel.size
    generalize hels:L.elsN f mk x = els at *
    obtain ⟨ba,cp,rfl,hsh,hsh0⟩:=hE.shape
    obtain ⟨wo,hwo⟩:∃ wo,wo = wr:=⟨wr,rfl⟩
    have hsb:∀ i:Nat,i < f.length→i - (i &&& mk)+x < f.length∧i &&& mk≤i:=fun i hi=>hsplit.out i x hi hlt hxm
    replace hsb:=Lib.hid hsb
    replace hels:=Lib.hid hels
    replace hstep:=Lib.hid hstep
    replace hxm:=Lib.hid hxm
    replace hsh:=Lib.hid hsh
    replace hsh0:=Lib.hid hsh0
    replace hlens:=Lib.hid hlens
    replace hE:=Lib.hid hE
    clear hI
    have hB0:Hid (Below wr.heap.size wr (wr.alloc (.cells (madeCells #[.bool false] f.length) 4))∧BAt (wr.alloc (.cells (madeCells #[.bool false] f.length) 4)) wr.heap.size (fillT f.length (fun i=>f.getD (i - (i &&& mk)+x) false) 0)):=Lib.hid ⟨(Below.refl _ _).alloc (Nat.le_refl _) _,by rw [fillT_zero];exact BAt.new _ _⟩
    go_wp2_with fail
    generalize wr.alloc (.cells (madeCells #[.bool false] f.length) 4) = wq at *
    subst hwo
    obtain ⟨g1,hg1⟩:∃ g1,g1 = wo.heap.size:=⟨_,rfl⟩
    rw [←hg1] at hB0 ⊢
    replace hg1:=Lib.hid hg1
    go_loopw [10] (fun iv wr=>∃ i:Nat,i≤f.length∧iv = .int .i64 (i:Nat)∧Hid (Below g1 wo wr∧BAt wr g1 (fillT f.length (fun i=>f.getD (i - (i &&& mk)+x) false) i))) (fun iv _=>f.length - (intOf iv).toNat)
    case atStart=>exact ⟨0,Nat.zero_le _,rfl,hB0⟩
    case round =>
     clear hB0
     obtain ⟨i,hi,rfl,hJ⟩:=hrel
     by_cases hil:i < f.length
     ·have di:decide ((i:Int) < (f.length:Int)) = true:=decide_eq_true (by omega)
      obtain ⟨hj1,hj2⟩:=hsb.out i hil
      have hbi:=hband.out i hil
      have hget:f.getD (i - (i &&& mk)+x) false = f[i - (i &&& mk)+x]:=getD_get hj1
      have hset:=fillT_set f.length (fun i=>f.getD (i - (i &&& mk)+x) false) i
      simp only [hget] at hset
      generalize i &&& mk = z at *
      have hfj:=hfc.out (i - z+x) hj1
      obtain ⟨d,hd⟩:∃ d,d = i - z:=⟨_,rfl⟩
      obtain ⟨j,hj⟩:∃ j,j = d+x:=⟨_,rfl⟩
      have e1:(i:Int) - (z:Int) = (d:Int):=by omega
      have e2:(d:Int)+(x:Int) = (j:Int):=by omega
      have e3:IntKind.i64.wrap (d:Int) = (d:Int):=IntWalk.i64_in _ (by omega)
      have e4:IntKind.i64.wrap (j:Int) = (j:Int):=IntWalk.i64_in _ (by omega)
      have hjj:i - z+x = j:=by omega
      simp only [hjj] at hfj hset hget hj1
      have hcell:=(hJ.out.1.cell (p:=⟨bf,of+j,none⟩) (by show bf < g1;have:=hg1.out;omega)).trans ((hE.out.bel.cell (p:=⟨bf,of+j,none⟩) hfl).trans hfj)
      generalize f[j] = fj at *
      have j0:(0:Int)≤j:=by omega
      have j1:(j:Int) < f.length:=by omega
      have ii0:(0:Int)≤i:=by omega
      have ii1:(i:Int) < f.length:=by omega
      obtain ⟨s1,s2⟩:=hJ.out.2.cell (j:=i) (by rw [fillT_len];exact hil)
      have hnext:Hid (Below g1 wo (wr.setCell ⟨g1,i,none⟩ (.bool fj))∧BAt (wr.setCell ⟨g1,i,none⟩ (.bool fj)) g1 (fillT f.length (fun i=>f.getD (i - (i &&& mk)+x) false) (i+1))):=Lib.hid ⟨hJ.out.1.setCell (show g1≤g1 from Nat.le_refl _) _,by have:=hJ.out.2.set i fj;rwa [hset] at this⟩
      clear hset hget hfj hJ
      replace hjj:=Lib.hid hjj
      replace hd:=Lib.hid hd
      replace hj:=Lib.hid hj
      go_wp2_with fail
      go_roundw
      case rel=>exact ⟨i+1,by omega,by go_num,hnext⟩
      case measure=>simp [intOf];omega
     ·have di:decide ((i:Int) < (f.length:Int)) = false:=decide_eq_false (by omega)
      obtain rfl:i = f.length:=by omega
      have hsub:BAt wr g1 (L.subTab f mk x):=by have:=hJ.out.2;rw [fillT_end] at this;exact this
      have hE2:=hE.out.next (by have:=hJ.out.1;rwa [hg1.out] at this)
      have hsl:(L.subTab f mk x).length = f.length:=tabN_len _ _
      have hg1s:g1 < wr.heap.size:=hsub.lt
      generalize hsubT:L.subTab f mk x = sub at *
      replace hsubT:=Lib.hid hsubT
      replace hE2:=Lib.hid hE2
      replace hsub:=Lib.hid hsub
      replace hsl:=Lib.hid hsl
      clear hJ hE
      obtain ⟨w2,hw2⟩:∃ w2,w2 = wr:=⟨wr,rfl⟩
      have h3:Hid (Below wr.heap.size wr wr∧∀ j (hj:j < els.length),j < 0→els[j].2≠sub):=Lib.hid ⟨Below.refl _ _,fun j _ h=>by omega⟩
      obtain ⟨En,hEn⟩:∃ En,En = els.length:=⟨_,rfl⟩
      have hEn64:En≤64:=by omega
      have hsz2':Hid (wo.heap.size < wr.heap.size):=Lib.hid (by have:=hg1.out;omega)
      rw [←hEn] at hE2 hsh hsh0 ⊢
      replace hEn:=Lib.hid hEn
      go_wp2_with fail
      subst hw2
      go_loopw [11] (fun kv wr=>∃ k:Nat,k≤En∧kv = .int .i64 (k:Nat)∧Hid (Below w2.heap.size w2 wr∧∀ j (hj:j < els.length),j < k→els[j].2≠sub)) (fun kv _=>En - (intOf kv).toNat)
      case atStart=>exact ⟨0,Nat.zero_le _,rfl,h3⟩
      case round =>
       clear h3
       obtain ⟨k,hk,rfl,hJ⟩:=hrel
       have hE3:=hE2.out.next hJ.out.1
       by_cases hkl:k < En
       ·have dk:decide ((k:Int) < (En:Int)) = true:=decide_eq_true (by omega)
        have hkl':k < els.length:=by have:=hEn.out;omega
        obtain ⟨g,rfl⟩:=hsh.out (by omega)
        obtain ⟨p,q,⟨c1,c2⟩,bp,bq,hp0⟩:=hE3.cell hkl'
        have kk0:(0:Int)≤k:=by omega
        have kk1:(k:Int) < En:=by omega
        obtain ⟨hl1,hl2⟩:=hlens.out _ (List.getElem_mem hkl')
        have sq:=bq.slB (c:=f.length)
        have bs3:BAt wr g1 sub:=(hJ.out.1.block g1 hg1s).trans hsub.out
        have ssub:=bs3.slB (c:=f.length)
        replace bs3:=Lib.hid bs3
        rw [hl2] at sq
        rw [hsl.out] at ssub
        have qs:=tsame_any sq ssub (by rw [hl2];exact hsl.out) (by omega)
        have hpk:els[k].1.length = f.length:=hl1
        obtain ⟨⟨p0,q0⟩,hek⟩:∃ e0:List Bool × List Bool,e0 = els[k]:=⟨_,rfl⟩
        rw [←hek] at qs sq bp bq hpk
        simp only at qs sq bp bq hpk
        replace sq:=Lib.hid sq
        replace ssub:=Lib.hid ssub
        replace bp:=Lib.hid bp
        replace bq:=Lib.hid bq
        replace hpk:=Lib.hid hpk
        replace hl1:=Lib.hid hl1
        replace hl2:=Lib.hid hl2
        replace hek:=Lib.hid hek
        replace hE3:=Lib.hid hE3
        by_cases hsame:q0 = sub
        ·rw [decide_eq_true hsame] at qs
         replace hsame:=Lib.hid hsame
         go_wp2_with fail
         refine qs.mono ?_
         rintro e w6 ⟨rfl,hb6⟩
         have dkk:((k:Int) == (En:Int)) = false:=beq_eq_false_iff_ne.2 (by omega)
         have hfin:Hid (els.set k (L.primeSet p0 mk x,q0) = L.elsN f mk (x+1)):=Lib.hid (by
          rw [hstep.out,elStep_hit hxm.out hkl' (by rw [←hek.out,hsubT.out];exact hsame.out) (fun j hj=>by rw [hsubT.out];exact hJ.out.2 j (by omega) hj),←hek.out])
         have hE6:=hE3.out.next hb6
         obtain ⟨tp,htpd⟩:∃ tp,tp = wo.heap.size:=⟨_,rfl⟩
         have hE7:Hid (ElsAt w f.length tp (els.set k (primeK p0 mk x 0,q0)) (.slice (some ⟨g,0,none⟩) En cp) w6):=Lib.hid (by
          rw [primeK_zero,hek.out,List.set_getElem_self,htpd]
          exact hE6)
         have hkE:Hid (k < els.length):=Lib.hid hkl'
         have htop:Hid (tp≤w6.heap.size):=Lib.hid (by have:=hJ.out.1.size;have:=hb6.size;have:=hg1.out;omega)
         replace htpd:=Lib.hid htpd
         clear qs hE6 hE3 hE2 hb6 hJ hlens hsh c1 c2
         go_wp2_with fail
         go_loopw [12] (fun iv wr=>∃ i:Nat,i≤f.length∧iv = .int .i64 (i:Nat)∧Hid (ElsAt w f.length (tp) ((els).set k (primeK p0 mk x i,q0)) (.slice (some ⟨g,0,none⟩) (En) cp) wr∧tp≤wr.heap.size)) (fun iv _=>f.length - (intOf iv).toNat)
         case atStart=>exact ⟨0,Nat.zero_le _,rfl,Lib.hid ⟨hE7.out,htop.out⟩⟩
         case round =>
          clear hE7 htop
          obtain ⟨i,hi,rfl,hJ⟩:=hrel
          by_cases hil:i < f.length
          ·have di:decide ((i:Int) < (f.length:Int)) = true:=decide_eq_true (by omega)
           have hbi:=hband.out i hil
           have hkk:k < ((els).set k (primeK p0 mk x i,q0)).length:=by rw [List.length_set];exact hkE.out
           by_cases hm:i &&& mk = x
           ·have hbi2:bits BinOp.and IntKind.i64 (i:Int) (mk:Int) = (x:Int):=by rw [hbi,hm]
            have dm:((x:Int) == (x:Int)) = true:=by simp
            clear hbi
            obtain ⟨p,q,⟨c1,c2⟩,bp,bq,hp0⟩:=hJ.out.1.cell hkk
            rw [List.getElem_set_self] at bp
            obtain ⟨s1,s2⟩:=bp.cell (j:=i) (by rw [primeK_len,hpk.out];exact hil)
            have hnx:=hJ.out.1.prime hkk c1 i true
            rw [List.getElem_set_self,List.set_set] at hnx
            simp only [primeK_hit hm] at hnx
            have hnext:Hid (ElsAt w f.length (tp) ((els).set k (primeK p0 mk x (i+1),q0)) (.slice (some ⟨g,0,none⟩) (En) cp) (wr.setCell ⟨p,i,none⟩ (.bool true))∧tp≤(wr.setCell ⟨p,i,none⟩ (.bool true)).heap.size):=Lib.hid ⟨hnx,by have:=hJ.out.2;simpa [World.setCell] using this⟩
            have ii0:(0:Int)≤i:=by omega
            have ii1:(i:Int) < f.length:=by omega
            have kk0:(0:Int)≤(k:Nat):=by omega
            have kk1:((k:Nat):Int) < ((En:Nat):Int):=by omega
            replace hm:=Lib.hid hm
            clear hnx bp bq hJ c2 hkk
            go_wp2_with fail
            go_roundw
            case rel=>exact ⟨i+1,by omega,by go_num,hnext⟩
            case measure=>simp [intOf];omega
           ·have hnext:Hid (ElsAt w f.length (tp) ((els).set k (primeK p0 mk x (i+1),q0)) (.slice (some ⟨g,0,none⟩) (En) cp) wr∧tp≤wr.heap.size):=Lib.hid (by have:=hJ.out;rw [primeK_miss hm] at this;exact this)
            generalize i &&& mk = z at *
            have dm:((z:Int) == (x:Int)) = false:=beq_eq_false_iff_ne.2 (by omega)
            replace hm:=Lib.hid hm
            clear hJ hkk
            go_wp2_with fail
            go_roundw
            case rel=>exact ⟨i+1,by omega,by go_num,hnext⟩
            case measure=>simp [intOf];omega
          ·have di:decide ((i:Int) < (f.length:Int)) = false:=decide_eq_false (by omega)
           obtain rfl:i = f.length:=by omega
           have e9:primeK p0 mk x f.length = L.primeSet p0 mk x:=by rw [←hpk.out];exact primeK_end _ _ _
           have hend:=hJ.out.1
           rw [e9,hfin.out] at hend
           have hnext:Hid (ElLoop w f mk (x+1) (.slice (some ⟨g,0,none⟩) (En) cp) wr):=Lib.hid (hend.top hJ.out.2)
           clear hend e9 hJ
           go_wp2_with fail
           go_roundw
           case rel=>exact ⟨x+1,by omega,by go_num,hnext⟩
           case measure=>simp [intOf];omega
        ·have hne:els[k].2≠sub:=by rw [←hek.out];exact hsame
         rw [decide_eq_false hsame] at qs
         replace hsame:=Lib.hid hsame
         go_wp2_with fail
         refine qs.mono ?_
         rintro e w6 ⟨rfl,hb6⟩
         have hnext:Hid (Below w2.heap.size w2 w6∧∀ j (hj:j < els.length),j < k+1→els[j].2≠sub):=Lib.hid ⟨hJ.out.1.trans (hb6.mono hJ.out.1.size),fun j hj h=>by
          by_cases e:j = k
          ·subst e;exact hne
          ·exact hJ.out.2 j hj (by omega)⟩
         replace hne:=Lib.hid hne
         clear qs hJ hb6
         go_wp2_with fail
         go_roundw
         case rel=>exact ⟨k+1,by omega,by go_num,hnext⟩
         case measure=>simp [intOf];omega
       ·have dk:decide ((k:Int) < (En:Int)) = false:=decide_eq_false (by omega)
        obtain rfl:En = k:=by omega
        by_cases hE0:En = 0
        ·rcases hsh0.out hE0 with ⟨rfl,rfl⟩ | ⟨g0,rfl⟩
         ·replace hE0:=Lib.hid hE0
          have dkk:((En:Int) == (En:Int)) = true:=by simp
          have hE4a:=hE3.next ((Below.refl wr.heap.size wr).alloc (Nat.le_refl _) (.cells (madeCells #[.bool false] f.length) 4))
          have bP4:=BAt.new wr f.length
          have bQ3:BAt wr g1 sub:=(hJ.out.1.block g1 hg1s).trans hsub.out
          have hsz3:=hJ.out.1.size
          have hb34:=(Below.refl wr.heap.size wr).alloc (Nat.le_refl _) (.cells (madeCells #[.bool false] f.length) 4)
          have bQ4:BAt (wr.alloc (.cells (madeCells #[.bool false] f.length) 4)) g1 sub:=(hb34.block g1 bQ3.lt).trans bQ3
          have hs4:(wr.alloc (.cells (madeCells #[.bool false] f.length) 4)).heap.size = wr.heap.size+1:=by simp
          have hfin:Hid ((els++[(tabN f.length fun _=>false,sub)]).set En (L.primeSet (tabN f.length fun _=>false) mk x,sub) = L.elsN f mk (x+1)):=Lib.hid (by
           rw [hstep.out,elStep_new hxm.out (fun j hj=>by rw [hsubT.out];exact hJ.out.2 j hj (by have:=hEn.out;omega)),hsubT.out,hEn.out])
          have hg1a:wo.heap.size≤g1:=by have:=hg1.out;omega
          have hg1b:g1≤wo.heap.size:=by have:=hg1.out;omega
          have hsl':=hsl.out
          have hsz2:=hsz2'.out
          have hb45:=(Below.refl (wr.alloc (.cells (madeCells #[.bool false] f.length) 4)).heap.size (wr.alloc (.cells (madeCells #[.bool false] f.length) 4))).alloc (Nat.le_refl _) (.cells #[.slice (some ⟨wr.heap.size,0,none⟩) f.length f.length,.slice (some ⟨g1,0,none⟩) f.length f.length] 126)
          have hE5:=hE4a.next hb45
          have bP5:BAt _ wr.heap.size _:=(hb45.block _ bP4.lt).trans bP4
          have bQ5:BAt _ g1 _:=(hb45.block _ bQ4.lt).trans bQ4
          obtain ⟨bs,x1,x2,x3,x5,x4⟩:=hE5.bs
          have hnews:=World.news_of_block (cs:=#[.slice (some ⟨wr.heap.size,0,none⟩) f.length f.length,.slice (some ⟨g1,0,none⟩) f.length f.length]) (t:=126) (fr:=(0,0)) (heap_alloc_new (wr.alloc (.cells (madeCells #[.bool false] f.length) 4)) (.cells #[.slice (some ⟨wr.heap.size,0,none⟩) f.length f.length,.slice (some ⟨g1,0,none⟩) f.length f.length] 126))
          rw [hs4] at hnews
          have hone:∀ u∈[Value.slice (some ⟨wr.heap.size,0,none⟩) f.length f.length,.slice (some ⟨g1,0,none⟩) f.length f.length],u.oneCell' = true:=by simp [Value.oneCell']
          have x2':=x2
          rw [←hEn.out] at x2'
          clear hE3 hE2 bQ3 hlens bP4 bQ4 hb34 hE4a hb45
          replace hE5:=Lib.hid hE5
          replace bP5:=Lib.hid bP5
          replace bQ5:=Lib.hid bQ5
          replace x4:=Lib.hid x4
          replace x2:=Lib.hid x2
          replace x5:=Lib.hid x5
          replace x1:=Lib.hid x1
          replace x3:=Lib.hid x3
          go_wp2_with (at_builtin;(refine wpList_append_lies _ rfl _ _ 122 rfl w.heap.size 126 iv _ 2 48 Tryz.underlying122 hiv hzv hsv hbv rfl (by decide) _ En (flatE f.length bs) rfl x2' ⟨wr.heap.size+1,0,none⟩ 1 1 [.slice (some ⟨wr.heap.size,0,none⟩) f.length f.length,.slice (some ⟨g1,0,none⟩) f.length f.length] rfl rfl hnews hone (by omega) (by unfold maxLen;omega) (by omega) (by simp <;> omega) _ rfl ?_;intro g cp' w7 ho7 hg7 hgg7 _;have hPush:=ElsAt.push (top':=wr.heap.size+1) hE5.out bP5.out bQ5.out (by simp) hsl' (by omega) (by omega) (by omega) (by omega) (by omega) (by omega) (by omega) x1.out x2.out x3.out x5.out x4.out (by rw [←hEn.out];exact ho7) hg7;have hw7:=hg7.size))
          obtain ⟨p0,hp0d⟩:∃ p0,p0 = tabN f.length fun _=>false:=⟨_,rfl⟩
          obtain ⟨q0,hq0d⟩:∃ q0,q0 = sub:=⟨_,rfl⟩
          rw [←hp0d,←hq0d] at hfin
          rw [rep_tab,←hp0d,←hq0d,←hEn.out] at hPush
          have hpk:Hid (p0.length = f.length):=Lib.hid (by rw [hp0d];exact tabN_len _ _)
          have hE7:Hid (ElsAt w f.length (wr.heap.size+1) ((els++[(p0,q0)]).set En (primeK p0 mk x 0,q0)) (.slice (some ⟨g,0,none⟩) (En+1) cp') w7):=Lib.hid (by
           rw [primeK_zero]
           have e9:(els++[(p0,q0)]).set En (p0,q0) = els++[(p0,q0)]:=by
            rw [hEn.out];simp
           rw [e9];exact hPush)
          have hkE:Hid (En < (els++[(p0,q0)]).length):=Lib.hid (by rw [List.length_append,hEn.out];simp)
          have hw7':wr.heap.size+2≤w7.heap.size:=by simpa using hw7
          have htop:Hid (wr.heap.size+1≤w7.heap.size):=Lib.hid (by omega)
          obtain ⟨tp,htpd⟩:∃ tp,tp = wr.heap.size+1:=⟨_,rfl⟩
          rw [←htpd] at hE7 htop
          replace hp0d:=Lib.hid hp0d
          replace hq0d:=Lib.hid hq0d
          replace htpd:=Lib.hid htpd
          clear hPush hE5 bP5 bQ5 x1 x2 x3 x4 x5 x2' hnews hone ho7 hg7 hgg7 hw7 hw7' hsl' hg1a hg1b hJ hsz3 hs4 hsz2
          go_wp2_with fail
          go_loopw [12] (fun iv wr=>∃ i:Nat,i≤f.length∧iv = .int .i64 (i:Nat)∧Hid (ElsAt w f.length (tp) (((els++[(p0,q0)])).set En (primeK p0 mk x i,q0)) (.slice (some ⟨g,0,none⟩) ((En+1)) cp') wr∧tp≤wr.heap.size)) (fun iv _=>f.length - (intOf iv).toNat)
          case atStart=>exact ⟨0,Nat.zero_le _,rfl,Lib.hid ⟨hE7.out,htop.out⟩⟩
          case round =>
           clear hE7 htop
           obtain ⟨i,hi,rfl,hJ⟩:=hrel
           by_cases hil:i < f.length
           ·have di:decide ((i:Int) < (f.length:Int)) = true:=decide_eq_true (by omega)
            have hbi:=hband.out i hil
            have hkk:En < (((els++[(p0,q0)])).set En (primeK p0 mk x i,q0)).length:=by rw [List.length_set];exact hkE.out
            by_cases hm:i &&& mk = x
            ·have hbi2:bits BinOp.and IntKind.i64 (i:Int) (mk:Int) = (x:Int):=by rw [hbi,hm]
             have dm:((x:Int) == (x:Int)) = true:=by simp
             clear hbi
             obtain ⟨p,q,⟨c1,c2⟩,bp,bq,hp0⟩:=hJ.out.1.cell hkk
             rw [List.getElem_set_self] at bp
             obtain ⟨s1,s2⟩:=bp.cell (j:=i) (by rw [primeK_len,hpk.out];exact hil)
             have hnx:=hJ.out.1.prime hkk c1 i true
             rw [List.getElem_set_self,List.set_set] at hnx
             simp only [primeK_hit hm] at hnx
             have hnext:Hid (ElsAt w f.length (tp) (((els++[(p0,q0)])).set En (primeK p0 mk x (i+1),q0)) (.slice (some ⟨g,0,none⟩) ((En+1)) cp') (wr.setCell ⟨p,i,none⟩ (.bool true))∧tp≤(wr.setCell ⟨p,i,none⟩ (.bool true)).heap.size):=Lib.hid ⟨hnx,by have:=hJ.out.2;simpa [World.setCell] using this⟩
             have ii0:(0:Int)≤i:=by omega
             have ii1:(i:Int) < f.length:=by omega
             have kk0:(0:Int)≤(En:Nat):=by omega
             have kk1:((En:Nat):Int) < (((En+1):Nat):Int):=by omega
             replace hm:=Lib.hid hm
             clear hnx bp bq hJ c2 hkk
             go_wp2_with fail
             go_roundw
             case rel=>exact ⟨i+1,by omega,by go_num,hnext⟩
             case measure=>simp [intOf];omega
            ·have hnext:Hid (ElsAt w f.length (tp) (((els++[(p0,q0)])).set En (primeK p0 mk x (i+1),q0)) (.slice (some ⟨g,0,none⟩) ((En+1)) cp') wr∧tp≤wr.heap.size):=Lib.hid (by have:=hJ.out;rw [primeK_miss hm] at this;exact this)
             generalize i &&& mk = z at *
             have dm:((z:Int) == (x:Int)) = false:=beq_eq_false_iff_ne.2 (by omega)
             replace hm:=Lib.hid hm
             clear hJ hkk
             go_wp2_with fail
             go_roundw
             case rel=>exact ⟨i+1,by omega,by go_num,hnext⟩
             case measure=>simp [intOf];omega
           ·have di:decide ((i:Int) < (f.length:Int)) = false:=decide_eq_false (by omega)
            obtain rfl:i = f.length:=by omega
            have e9:primeK p0 mk x f.length = L.primeSet p0 mk x:=by rw [←hpk.out];exact primeK_end _ _ _
            have hend:=hJ.out.1
            rw [e9,hfin.out] at hend
            have hnext:Hid (ElLoop w f mk (x+1) (.slice (some ⟨g,0,none⟩) ((En+1)) cp') wr):=Lib.hid (hend.top hJ.out.2)
            clear hend e9 hJ
            go_wp2_with fail
            go_roundw
            case rel=>exact ⟨x+1,by omega,by go_num,hnext⟩
            case measure=>simp [intOf];omega
         ·replace hE0:=Lib.hid hE0
          have dkk:((En:Int) == (En:Int)) = true:=by simp
          have hE4a:=hE3.next ((Below.refl wr.heap.size wr).alloc (Nat.le_refl _) (.cells (madeCells #[.bool false] f.length) 4))
          have bP4:=BAt.new wr f.length
          have bQ3:BAt wr g1 sub:=(hJ.out.1.block g1 hg1s).trans hsub.out
          have hsz3:=hJ.out.1.size
          have hb34:=(Below.refl wr.heap.size wr).alloc (Nat.le_refl _) (.cells (madeCells #[.bool false] f.length) 4)
          have bQ4:BAt (wr.alloc (.cells (madeCells #[.bool false] f.length) 4)) g1 sub:=(hb34.block g1 bQ3.lt).trans bQ3
          have hs4:(wr.alloc (.cells (madeCells #[.bool false] f.length) 4)).heap.size = wr.heap.size+1:=by simp
          have hfin:Hid ((els++[(tabN f.length fun _=>false,sub)]).set En (L.primeSet (tabN f.length fun _=>false) mk x,sub) = L.elsN f mk (x+1)):=Lib.hid (by
           rw [hstep.out,elStep_new hxm.out (fun j hj=>by rw [hsubT.out];exact hJ.out.2 j hj (by have:=hEn.out;omega)),hsubT.out,hEn.out])
          have hg1a:wo.heap.size≤g1:=by have:=hg1.out;omega
          have hg1b:g1≤wo.heap.size:=by have:=hg1.out;omega
          have hsl':=hsl.out
          have hsz2:=hsz2'.out
          have hb45:=(Below.refl (wr.alloc (.cells (madeCells #[.bool false] f.length) 4)).heap.size (wr.alloc (.cells (madeCells #[.bool false] f.length) 4))).alloc (Nat.le_refl _) (.cells #[.slice (some ⟨wr.heap.size,0,none⟩) f.length f.length,.slice (some ⟨g1,0,none⟩) f.length f.length] 126)
          have hE5:=hE4a.next hb45
          have bP5:BAt _ wr.heap.size _:=(hb45.block _ bP4.lt).trans bP4
          have bQ5:BAt _ g1 _:=(hb45.block _ bQ4.lt).trans bQ4
          obtain ⟨bs,x1,x2,x3,x5,x4⟩:=hE5.bs
          have hnews:=World.news_of_block (cs:=#[.slice (some ⟨wr.heap.size,0,none⟩) f.length f.length,.slice (some ⟨g1,0,none⟩) f.length f.length]) (t:=126) (fr:=(0,0)) (heap_alloc_new (wr.alloc (.cells (madeCells #[.bool false] f.length) 4)) (.cells #[.slice (some ⟨wr.heap.size,0,none⟩) f.length f.length,.slice (some ⟨g1,0,none⟩) f.length f.length] 126))
          rw [hs4] at hnews
          have hone:∀ u∈[Value.slice (some ⟨wr.heap.size,0,none⟩) f.length f.length,.slice (some ⟨g1,0,none⟩) f.length f.length],u.oneCell' = true:=by simp [Value.oneCell']
          have x2':=x2
          rw [←hEn.out] at x2'
          clear hE3 hE2 bQ3 hlens bP4 bQ4 hb34 hE4a hb45
          replace hE5:=Lib.hid hE5
          replace bP5:=Lib.hid bP5
          replace bQ5:=Lib.hid bQ5
          replace x4:=Lib.hid x4
          replace x2:=Lib.hid x2
          replace x5:=Lib.hid x5
          replace x1:=Lib.hid x1
          replace x3:=Lib.hid x3
          go_wp2_with (at_builtin;(refine wpList_append_lies _ rfl _ _ 122 rfl w.heap.size 126 iv _ 2 48 Tryz.underlying122 hiv hzv hsv hbv rfl (by decide) _ En (flatE f.length bs) rfl x2' ⟨wr.heap.size+1,0,none⟩ 1 1 [.slice (some ⟨wr.heap.size,0,none⟩) f.length f.length,.slice (some ⟨g1,0,none⟩) f.length f.length] rfl rfl hnews hone (by omega) (by unfold maxLen;omega) (by omega) (by simp <;> omega) _ rfl ?_;intro g cp' w7 ho7 hg7 hgg7 _;have hPush:=ElsAt.push (top':=wr.heap.size+1) hE5.out bP5.out bQ5.out (by simp) hsl' (by omega) (by omega) (by omega) (by omega) (by omega) (by omega) (by omega) x1.out x2.out x3.out x5.out x4.out (by rw [←hEn.out];exact ho7) hg7;have hw7:=hg7.size))
          obtain ⟨p0,hp0d⟩:∃ p0,p0 = tabN f.length fun _=>false:=⟨_,rfl⟩
          obtain ⟨q0,hq0d⟩:∃ q0,q0 = sub:=⟨_,rfl⟩
          rw [←hp0d,←hq0d] at hfin
          rw [rep_tab,←hp0d,←hq0d,←hEn.out] at hPush
          have hpk:Hid (p0.length = f.length):=Lib.hid (by rw [hp0d];exact tabN_len _ _)
          have hE7:Hid (ElsAt w f.length (wr.heap.size+1) ((els++[(p0,q0)]).set En (primeK p0 mk x 0,q0)) (.slice (some ⟨g,0,none⟩) (En+1) cp') w7):=Lib.hid (by
           rw [primeK_zero]
           have e9:(els++[(p0,q0)]).set En (p0,q0) = els++[(p0,q0)]:=by
            rw [hEn.out];simp
           rw [e9];exact hPush)
          have hkE:Hid (En < (els++[(p0,q0)]).length):=Lib.hid (by rw [List.length_append,hEn.out];simp)
          have hw7':wr.heap.size+2≤w7.heap.size:=by simpa using hw7
          have htop:Hid (wr.heap.size+1≤w7.heap.size):=Lib.hid (by omega)
          obtain ⟨tp,htpd⟩:∃ tp,tp = wr.heap.size+1:=⟨_,rfl⟩
          rw [←htpd] at hE7 htop
          replace hp0d:=Lib.hid hp0d
          replace hq0d:=Lib.hid hq0d
          replace htpd:=Lib.hid htpd
          clear hPush hE5 bP5 bQ5 x1 x2 x3 x4 x5 x2' hnews hone ho7 hg7 hgg7 hw7 hw7' hsl' hg1a hg1b hJ hsz3 hs4 hsz2
          go_wp2_with fail
          go_loopw [12] (fun iv wr=>∃ i:Nat,i≤f.length∧iv = .int .i64 (i:Nat)∧Hid (ElsAt w f.length (tp) (((els++[(p0,q0)])).set En (primeK p0 mk x i,q0)) (.slice (some ⟨g,0,none⟩) ((En+1)) cp') wr∧tp≤wr.heap.size)) (fun iv _=>f.length - (intOf iv).toNat)
          case atStart=>exact ⟨0,Nat.zero_le _,rfl,Lib.hid ⟨hE7.out,htop.out⟩⟩
          case round =>
           clear hE7 htop
           obtain ⟨i,hi,rfl,hJ⟩:=hrel
           by_cases hil:i < f.length
           ·have di:decide ((i:Int) < (f.length:Int)) = true:=decide_eq_true (by omega)
            have hbi:=hband.out i hil
            have hkk:En < (((els++[(p0,q0)])).set En (primeK p0 mk x i,q0)).length:=by rw [List.length_set];exact hkE.out
            by_cases hm:i &&& mk = x
            ·have hbi2:bits BinOp.and IntKind.i64 (i:Int) (mk:Int) = (x:Int):=by rw [hbi,hm]
             have dm:((x:Int) == (x:Int)) = true:=by simp
             clear hbi
             obtain ⟨p,q,⟨c1,c2⟩,bp,bq,hp0⟩:=hJ.out.1.cell hkk
             rw [List.getElem_set_self] at bp
             obtain ⟨s1,s2⟩:=bp.cell (j:=i) (by rw [primeK_len,hpk.out];exact hil)
             have hnx:=hJ.out.1.prime hkk c1 i true
             rw [List.getElem_set_self,List.set_set] at hnx
             simp only [primeK_hit hm] at hnx
             have hnext:Hid (ElsAt w f.length (tp) (((els++[(p0,q0)])).set En (primeK p0 mk x (i+1),q0)) (.slice (some ⟨g,0,none⟩) ((En+1)) cp') (wr.setCell ⟨p,i,none⟩ (.bool true))∧tp≤(wr.setCell ⟨p,i,none⟩ (.bool true)).heap.size):=Lib.hid ⟨hnx,by have:=hJ.out.2;simpa [World.setCell] using this⟩
             have ii0:(0:Int)≤i:=by omega
             have ii1:(i:Int) < f.length:=by omega
             have kk0:(0:Int)≤(En:Nat):=by omega
             have kk1:((En:Nat):Int) < (((En+1):Nat):Int):=by omega
             replace hm:=Lib.hid hm
             clear hnx bp bq hJ c2 hkk
             go_wp2_with fail
             go_roundw
             case rel=>exact ⟨i+1,by omega,by go_num,hnext⟩
             case measure=>simp [intOf];omega
            ·have hnext:Hid (ElsAt w f.length (tp) (((els++[(p0,q0)])).set En (primeK p0 mk x (i+1),q0)) (.slice (some ⟨g,0,none⟩) ((En+1)) cp') wr∧tp≤wr.heap.size):=Lib.hid (by have:=hJ.out;rw [primeK_miss hm] at this;exact this)
             generalize i &&& mk = z at *
             have dm:((z:Int) == (x:Int)) = false:=beq_eq_false_iff_ne.2 (by omega)
             replace hm:=Lib.hid hm
             clear hJ hkk
             go_wp2_with fail
             go_roundw
             case rel=>exact ⟨i+1,by omega,by go_num,hnext⟩
             case measure=>simp [intOf];omega
           ·have di:decide ((i:Int) < (f.length:Int)) = false:=decide_eq_false (by omega)
            obtain rfl:i = f.length:=by omega
            have e9:primeK p0 mk x f.length = L.primeSet p0 mk x:=by rw [←hpk.out];exact primeK_end _ _ _
            have hend:=hJ.out.1
            rw [e9,hfin.out] at hend
            have hnext:Hid (ElLoop w f mk (x+1) (.slice (some ⟨g,0,none⟩) ((En+1)) cp') wr):=Lib.hid (hend.top hJ.out.2)
            clear hend e9 hJ
            go_wp2_with fail
            go_roundw
            case rel=>exact ⟨x+1,by omega,by go_num,hnext⟩
            case measure=>simp [intOf];omega
        ·obtain ⟨g0,rfl⟩:=hsh.out (by omega)
         have dkk:((En:Int) == (En:Int)) = true:=by simp
         have hE4a:=hE3.next ((Below.refl wr.heap.size wr).alloc (Nat.le_refl _) (.cells (madeCells #[.bool false] f.length) 4))
         have bP4:=BAt.new wr f.length
         have bQ3:BAt wr g1 sub:=(hJ.out.1.block g1 hg1s).trans hsub.out
         have hsz3:=hJ.out.1.size
         have hb34:=(Below.refl wr.heap.size wr).alloc (Nat.le_refl _) (.cells (madeCells #[.bool false] f.length) 4)
         have bQ4:BAt (wr.alloc (.cells (madeCells #[.bool false] f.length) 4)) g1 sub:=(hb34.block g1 bQ3.lt).trans bQ3
         have hs4:(wr.alloc (.cells (madeCells #[.bool false] f.length) 4)).heap.size = wr.heap.size+1:=by simp
         have hfin:Hid ((els++[(tabN f.length fun _=>false,sub)]).set En (L.primeSet (tabN f.length fun _=>false) mk x,sub) = L.elsN f mk (x+1)):=Lib.hid (by
          rw [hstep.out,elStep_new hxm.out (fun j hj=>by rw [hsubT.out];exact hJ.out.2 j hj (by have:=hEn.out;omega)),hsubT.out,hEn.out])
         have hg1a:wo.heap.size≤g1:=by have:=hg1.out;omega
         have hg1b:g1≤wo.heap.size:=by have:=hg1.out;omega
         have hsl':=hsl.out
         have hsz2:=hsz2'.out
         have hb45:=(Below.refl (wr.alloc (.cells (madeCells #[.bool false] f.length) 4)).heap.size (wr.alloc (.cells (madeCells #[.bool false] f.length) 4))).alloc (Nat.le_refl _) (.cells #[.slice (some ⟨wr.heap.size,0,none⟩) f.length f.length,.slice (some ⟨g1,0,none⟩) f.length f.length] 126)
         have hE5:=hE4a.next hb45
         have bP5:BAt _ wr.heap.size _:=(hb45.block _ bP4.lt).trans bP4
         have bQ5:BAt _ g1 _:=(hb45.block _ bQ4.lt).trans bQ4
         obtain ⟨bs,x1,x2,x3,x5,x4⟩:=hE5.bs
         have hnews:=World.news_of_block (cs:=#[.slice (some ⟨wr.heap.size,0,none⟩) f.length f.length,.slice (some ⟨g1,0,none⟩) f.length f.length]) (t:=126) (fr:=(0,0)) (heap_alloc_new (wr.alloc (.cells (madeCells #[.bool false] f.length) 4)) (.cells #[.slice (some ⟨wr.heap.size,0,none⟩) f.length f.length,.slice (some ⟨g1,0,none⟩) f.length f.length] 126))
         rw [hs4] at hnews
         have hone:∀ u∈[Value.slice (some ⟨wr.heap.size,0,none⟩) f.length f.length,.slice (some ⟨g1,0,none⟩) f.length f.length],u.oneCell' = true:=by simp [Value.oneCell']
         have x2':=x2
         rw [←hEn.out] at x2'
         clear hE3 hE2 bQ3 hlens bP4 bQ4 hb34 hE4a hb45
         replace hE5:=Lib.hid hE5
         replace bP5:=Lib.hid bP5
         replace bQ5:=Lib.hid bQ5
         replace x4:=Lib.hid x4
         replace x2:=Lib.hid x2
         replace x5:=Lib.hid x5
         replace x1:=Lib.hid x1
         replace x3:=Lib.hid x3
         go_wp2_with (at_builtin;(refine wpList_append_lies _ rfl _ _ 122 rfl w.heap.size 126 iv _ 2 48 Tryz.underlying122 hiv hzv hsv hbv rfl (by decide) _ En (flatE f.length bs) rfl x2' ⟨wr.heap.size+1,0,none⟩ 1 1 [.slice (some ⟨wr.heap.size,0,none⟩) f.length f.length,.slice (some ⟨g1,0,none⟩) f.length f.length] rfl rfl hnews hone (by omega) (by unfold maxLen;omega) (by omega) (by simp <;> omega) _ rfl ?_;intro g cp' w7 ho7 hg7 hgg7 _;have hPush:=ElsAt.push (top':=wr.heap.size+1) hE5.out bP5.out bQ5.out (by simp) hsl' (by omega) (by omega) (by omega) (by omega) (by omega) (by omega) (by omega) x1.out x2.out x3.out x5.out x4.out (by rw [←hEn.out];exact ho7) hg7;have hw7:=hg7.size))
         obtain ⟨p0,hp0d⟩:∃ p0,p0 = tabN f.length fun _=>false:=⟨_,rfl⟩
         obtain ⟨q0,hq0d⟩:∃ q0,q0 = sub:=⟨_,rfl⟩
         rw [←hp0d,←hq0d] at hfin
         rw [rep_tab,←hp0d,←hq0d,←hEn.out] at hPush
         have hpk:Hid (p0.length = f.length):=Lib.hid (by rw [hp0d];exact tabN_len _ _)
         have hE7:Hid (ElsAt w f.length (wr.heap.size+1) ((els++[(p0,q0)]).set En (primeK p0 mk x 0,q0)) (.slice (some ⟨g,0,none⟩) (En+1) cp') w7):=Lib.hid (by
          rw [primeK_zero]
          have e9:(els++[(p0,q0)]).set En (p0,q0) = els++[(p0,q0)]:=by
           rw [hEn.out];simp
          rw [e9];exact hPush)
         have hkE:Hid (En < (els++[(p0,q0)]).length):=Lib.hid (by rw [List.length_append,hEn.out];simp)
         have hw7':wr.heap.size+2≤w7.heap.size:=by simpa using hw7
         have htop:Hid (wr.heap.size+1≤w7.heap.size):=Lib.hid (by omega)
         obtain ⟨tp,htpd⟩:∃ tp,tp = wr.heap.size+1:=⟨_,rfl⟩
         rw [←htpd] at hE7 htop
         replace hp0d:=Lib.hid hp0d
         replace hq0d:=Lib.hid hq0d
         replace htpd:=Lib.hid htpd
         clear hPush hE5 bP5 bQ5 x1 x2 x3 x4 x5 x2' hnews hone ho7 hg7 hgg7 hw7 hw7' hsl' hg1a hg1b hJ hsz3 hs4 hsz2
         go_wp2_with fail
         go_loopw [12] (fun iv wr=>∃ i:Nat,i≤f.length∧iv = .int .i64 (i:Nat)∧Hid (ElsAt w f.length (tp) (((els++[(p0,q0)])).set En (primeK p0 mk x i,q0)) (.slice (some ⟨g,0,none⟩) ((En+1)) cp') wr∧tp≤wr.heap.size)) (fun iv _=>f.length - (intOf iv).toNat)
         case atStart=>exact ⟨0,Nat.zero_le _,rfl,Lib.hid ⟨hE7.out,htop.out⟩⟩
         case round =>
          clear hE7 htop
          obtain ⟨i,hi,rfl,hJ⟩:=hrel
          by_cases hil:i < f.length
          ·have di:decide ((i:Int) < (f.length:Int)) = true:=decide_eq_true (by omega)
           have hbi:=hband.out i hil
           have hkk:En < (((els++[(p0,q0)])).set En (primeK p0 mk x i,q0)).length:=by rw [List.length_set];exact hkE.out
           by_cases hm:i &&& mk = x
           ·have hbi2:bits BinOp.and IntKind.i64 (i:Int) (mk:Int) = (x:Int):=by rw [hbi,hm]
            have dm:((x:Int) == (x:Int)) = true:=by simp
            clear hbi
            obtain ⟨p,q,⟨c1,c2⟩,bp,bq,hp0⟩:=hJ.out.1.cell hkk
            rw [List.getElem_set_self] at bp
            obtain ⟨s1,s2⟩:=bp.cell (j:=i) (by rw [primeK_len,hpk.out];exact hil)
            have hnx:=hJ.out.1.prime hkk c1 i true
            rw [List.getElem_set_self,List.set_set] at hnx
            simp only [primeK_hit hm] at hnx
            have hnext:Hid (ElsAt w f.length (tp) (((els++[(p0,q0)])).set En (primeK p0 mk x (i+1),q0)) (.slice (some ⟨g,0,none⟩) ((En+1)) cp') (wr.setCell ⟨p,i,none⟩ (.bool true))∧tp≤(wr.setCell ⟨p,i,none⟩ (.bool true)).heap.size):=Lib.hid ⟨hnx,by have:=hJ.out.2;simpa [World.setCell] using this⟩
            have ii0:(0:Int)≤i:=by omega
            have ii1:(i:Int) < f.length:=by omega
            have kk0:(0:Int)≤(En:Nat):=by omega
            have kk1:((En:Nat):Int) < (((En+1):Nat):Int):=by omega
            replace hm:=Lib.hid hm
            clear hnx bp bq hJ c2 hkk
            go_wp2_with fail
            go_roundw
            case rel=>exact ⟨i+1,by omega,by go_num,hnext⟩
            case measure=>simp [intOf];omega
           ·have hnext:Hid (ElsAt w f.length (tp) (((els++[(p0,q0)])).set En (primeK p0 mk x (i+1),q0)) (.slice (some ⟨g,0,none⟩) ((En+1)) cp') wr∧tp≤wr.heap.size):=Lib.hid (by have:=hJ.out;rw [primeK_miss hm] at this;exact this)
            generalize i &&& mk = z at *
            have dm:((z:Int) == (x:Int)) = false:=beq_eq_false_iff_ne.2 (by omega)
            replace hm:=Lib.hid hm
            clear hJ hkk
            go_wp2_with fail
            go_roundw
            case rel=>exact ⟨i+1,by omega,by go_num,hnext⟩
            case measure=>simp [intOf];omega
          ·have di:decide ((i:Int) < (f.length:Int)) = false:=decide_eq_false (by omega)
           obtain rfl:i = f.length:=by omega
           have e9:primeK p0 mk x f.length = L.primeSet p0 mk x:=by rw [←hpk.out];exact primeK_end _ _ _
           have hend:=hJ.out.1
           rw [e9,hfin.out] at hend
           have hnext:Hid (ElLoop w f mk (x+1) (.slice (some ⟨g,0,none⟩) ((En+1)) cp') wr):=Lib.hid (hend.top hJ.out.2)
           clear hend e9 hJ
           go_wp2_with fail
           go_roundw
           case rel=>exact ⟨x+1,by omega,by go_num,hnext⟩
           case measure=>simp [intOf];omega
   ·have hnext:Hid (ElLoop w f mk (x+1) u7 wr):=Lib.hid (by
     have:=hI.out
     unfold ElLoop at this ⊢
     rw [L.elsN_succ,elStep_miss hxm]
     exact this)
    generalize x &&& mk = z at *
    have dne:((z:Int) != (x:Int)) = true:=by simp;omega
    replace hxm:=Lib.hid hxm
    clear hI
    go_wp2_with fail
    go_roundw
    case rel=>exact ⟨x+1,by omega,by go_num,hnext⟩
    case measure=>simp [intOf];omega
  ·have dx:decide ((x:Int) < (f.length:Int)) = false:=decide_eq_false (by omega)
   obtain rfl:x = f.length:=by omega
   have hfin:Hid (RetEls (L.elsN f mk f.length) w (.returned u7) wr):=Lib.hid ⟨_,rfl,hI.out.reads,hI.out.bel⟩
   clear hI
   go_wp2_with fail
   go_ret
   exact ⟨mk,hmask.out,hfin.out⟩
end Go.Proofs.YteikmmfjhabijaaGreatDoor
