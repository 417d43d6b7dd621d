import Derived.Test.YtckhohpbokojdaaGreatDoorLQ2
set_option linter.unusedSimpArgs false
set_option linter.unusedVariables false
namespace Go.Proofs.YtckhohpbokojdaaGreatDoor
open Go Go.RowKit Go.Shelf
theorem putND_old {bl:List L.ND} {x:L.ND} {k:Nat} (hk:k < bl.length) (h:∀ j (hj:j < bl.length),j < k→bl[j]≠x) (he:bl[k] = x):L.putND bl x = (k,bl):=by
 unfold L.putND
 have:bl.findIdx? (fun y=>decide (y = x)) = some k:=by
  rw [List.findIdx?_eq_some_iff_getElem]
  exact ⟨hk,by simpa using he,fun j hj=>by simpa using h j (by omega) hj⟩
 rw [this]
theorem putND_nw {bl:List L.ND} {x:L.ND} (h:∀ j (hj:j < bl.length),bl[j]≠x):L.putND bl x = (bl.length,bl++[x]):=by
 unfold L.putND
 have:bl.findIdx? (fun y=>decide (y = x)) = none:=by
  rw [List.findIdx?_eq_none_iff]
  intro y hy
  obtain ⟨j,hj,rfl⟩:=List.getElem_of_mem hy
  simpa using h j hj
 rw [this]
theorem castL_inj {a b:List Nat} (h:castL a = castL b):a = b:=by
 unfold castL at h
 exact (List.map_inj_right (fun x y e=>Int.ofNat_inj.1 e)).1 h
theorem slC_nd {w:World} {v:Value} {nl:List L.ND} (h:SlC w v (nl.map L.ofND)):∃ ba c,v = .slice ba nl.length c∧∀ j (hj:j < nl.length),∃ b o bb cc,ba = some ⟨b,o,none⟩∧w.cell? ⟨b,o+j * 3,none⟩ = some (.int .i64 nl[j].kind)∧w.cell? ⟨b,o+j * 3+1,none⟩ = some (.int .i64 nl[j].lit)∧w.cell? ⟨b,o+j * 3+2,none⟩ = some (.slice bb nl[j].inp.length cc)∧SlI w (.slice bb nl[j].inp.length cc) (castL nl[j].inp):=by
 obtain ⟨ba,c,e,hcs⟩:=h.shape
 refine ⟨ba,c,by rw [e,List.length_map],fun j hj=>?_⟩
 obtain ⟨b,o,bb,cc,h1,h2,h3,h4,h5⟩:=hcs j (by rw [List.length_map];exact hj)
 rw [List.getElem_map] at h2 h3 h4 h5
 have e2:(L.ofND nl[j]).inp.length = nl[j].inp.length:=List.length_map _
 rw [e2] at h4 h5
 exact ⟨b,o,bb,cc,h1,h2,h3,h4,h5⟩
set_option maxRecDepth 100000 in
set_option maxHeartbeats 8000000 in
theorem rput_any {fb lo base bx:Nat} {n:Int} {bl:List L.ND} {W:World} (h:RB fb lo base bx n bl W) (hb:base≤W.heap.size) (hfull:bl.length < 60000) (hin0:∀ y∈bl,y.inp.length≤9223372036854775807) {kd lt:Int} {ip:List Nat} {bb:Option Addr} {cc:Nat} (hin:W.ownsRow base 3 1 (.slice bb ip.length cc) ip.length ((castL ip).map encZ)) (hl:ip.length≤9223372036854775807) (hfbu:(Value.slice bb ip.length cc).ownBlock≠some fb) :
  Calls Tryz.prog 89 #[.pointer (some ⟨bx,0,none⟩),.agg #[.int .i64 kd,.int .i64 lt,.slice bb ip.length cc]] W fun e W'=>e = .returned (.tuple #[.int .i64 ((L.putND bl ⟨kd,lt,ip⟩).1:Nat),.int .i64 0])∧RB fb lo base bx n (L.putND bl ⟨kd,lt,ip⟩).2 W'∧BI lo W W':=by
 obtain ⟨vL,us,h⟩:=h
 have hlo:lo≤base:=h.2.2.2.2.1
 replace hfbu:=Lib.hid hfbu
 have hlw:lo≤W.heap.size:=Nat.le_trans hlo hb
 have e0:=heap_alloc_new W (.cells #[.int .i64 kd,.int .i64 lt,.slice bb ip.length cc] 40)
 have hx1:Ext W (W.alloc (.cells #[.int .i64 kd,.int .i64 lt,.slice bb ip.length cc] 40)):=(Ext.refl W).alloc _
 obtain ⟨w1,hw1⟩:∃ w1,w1 = W.alloc (.cells #[.int .i64 kd,.int .i64 lt,.slice bb ip.length cc] 40):=⟨_,rfl⟩
 rw [←hw1] at e0 hx1
 have hsl:SlI w1 (.slice bb ip.length cc) (castL ip):=(owns_slI (l:=castL ip) (by rw [castL_len];exact hin)).ext hx1.below
 have h1:=h.next hx1.below
 have hin1:=ownsRow_keep hin (fun g c h=>hx1.below.block g (Array.getElem?_eq_some_iff.1 h).1)
 obtain ⟨xb,hxb⟩:∃ x,x = W.heap.size:=⟨_,rfl⟩
 rw [←hxb] at e0
 obtain ⟨ba,cp,rfl⟩:=h.shape
 have hsC:=nodes_slC h1.2.1 h1.2.2.1
 obtain ⟨_,_,eS,hcs⟩:=slC_nd hsC
 rw [Value.slice.injEq] at eS
 obtain ⟨rfl,-,rfl⟩:=eS
 have hF:∀ V,Below w1.heap.size w1 V→V.cell? ⟨bx,1,none⟩ = some (.slice ba bl.length cp)∧V.cell? ⟨xb,0,none⟩ = some (.int .i64 kd)∧V.cell? ⟨xb,1,none⟩ = some (.int .i64 lt)∧V.cell? ⟨xb,2,none⟩ = some (.slice bb ip.length cc):=fun V hV=>by
  have f0:=(hV.block _ (Array.getElem?_eq_some_iff.1 h1.1).1).trans h1.1
  have f1:=(hV.block _ (Array.getElem?_eq_some_iff.1 e0).1).trans e0
  exact ⟨by rw [World.cell?,f0];rfl,by rw [World.cell?,f1];rfl,by rw [World.cell?,f1];rfl,by rw [World.cell?,f1];rfl⟩
 obtain ⟨iv,hiv,hzv,hsv,hbv⟩:=info_parts nd_info
 have hdl:decide ((bl.length:Int)≥65536) = false:=decide_eq_false (by omega)
 replace hsl:=Lib.hid hsl
 replace hin:=Lib.hid hin
 replace hin1:=Lib.hid hin1
 replace e0:=Lib.hid e0
 replace h:=Lib.hid h
 replace h1:=Lib.hid h1
 replace hx1:=Lib.hid hx1
 replace hcs:=Lib.hid hcs
 replace hin0:=Lib.hid hin0
 replace hF:=Lib.hid hF
 clear hsC
 go_enter Tryz.func89,Tryz.ntmps89
 go_wp2_with fail
 rw [←hw1]
 replace hw1:=Lib.hid hw1
 try rw [←hxb]
 replace hxb:=Lib.hid hxb
 go_loopw [6] (fun i wr=>∃ k:Nat,k≤bl.length∧i = .int .i64 (k:Int)∧Hid (∀ j (hj:j < bl.length),j < k→bl[j]≠(⟨kd,lt,ip⟩:L.ND))∧Hid (Below w1.heap.size w1 wr)) (fun i _=>bl.length - (intOf i).toNat)
 case atStart=>exact ⟨0,by omega,rfl,Lib.hid (fun j _ h=>absurd h (Nat.not_lt_zero _)),Lib.hid (Below.refl _ _)⟩
 case round =>
  obtain ⟨k,hk,rfl,hI,hX⟩:=hrel
  obtain ⟨y1,y2,y3,y4⟩:=hF.out wr hX.out
  by_cases hlt:k < bl.length
  ·have d0:decide ((k:Int) < (bl.length:Int)) = true:=decide_eq_true (by omega)
   have g0':(0:Int)≤(k:Int):=by omega
   have g1:(k:Int) < (bl.length:Int):=by omega
   obtain ⟨b,o,ua,uc,rfl,hc0,hc1,hc2,hu⟩:=hcs.out k hlt
   have hlk:=hin0.out _ (List.getElem_mem hlt)
   have hfnd:bl[k] = (⟨kd,lt,ip⟩:L.ND)→Hid (L.putND bl ⟨kd,lt,ip⟩ = (k,bl)):=fun e=>Lib.hid (putND_old hlt hI.out e)
   have hnx:bl[k]≠(⟨kd,lt,ip⟩:L.ND)→Hid (∀ j (hj:j < bl.length),j < k+1→bl[j]≠(⟨kd,lt,ip⟩:L.ND)):=fun e=>Lib.hid fun j hj hjk=>by
    by_cases e2:j = k
    ·subst e2;exact e
    ·exact hI.out j hj (by omega)
   generalize bl[k] = y at *
   obtain ⟨kd2,lt2,ip2⟩:=y
   dsimp only at hc0 hc1 hc2 hu hlk
   have hd:=Lib.hid (hX.out.drew)
   have q:=fun V (hV:Below w1.heap.size w1 V)=>sameNode_full (kd:=kd2) (lt:=lt2) (kd':=kd) (lt':=lt) (hu.ext hV) (hsl.out.ext hV) (by rw [castL_len];exact hlk) (by rw [castL_len];exact hl)
   have hde:decide (kd2 = kd∧lt2 = lt∧castL ip2 = castL ip) = decide ((⟨kd2,lt2,ip2⟩:L.ND) = ⟨kd,lt,ip⟩):=decide_eq_decide.2 (by
    rw [L.ND.mk.injEq]
    exact ⟨fun e=>⟨e.1,e.2.1,castL_inj e.2.2⟩,fun e=>⟨e.1,e.2.1,by rw [e.2.2]⟩⟩)
   simp only [hde] at q
   have hS:∀ V,Below w1.heap.size w1 V→V.cell? ⟨bx,1,none⟩ = some (.slice (some ⟨b,o,none⟩) bl.length cp)∧(V.cell? ⟨xb,0,none⟩ = some (.int .i64 kd)∧V.cell? ⟨xb,1,none⟩ = some (.int .i64 lt)∧V.cell? ⟨xb,2,none⟩ = some (.slice bb ip.length cc))∧V.cell? ⟨b,o+k * 3,none⟩ = some (.int .i64 kd2)∧V.cell? ⟨b,o+k * 3+1,none⟩ = some (.int .i64 lt2)∧V.cell? ⟨b,o+k * 3+2,none⟩ = some (.slice ua ip2.length uc):=fun V hV=>by
    obtain ⟨z1,z2⟩:=hF.out V hV
    exact ⟨z1,z2,(World.cell?_of_block (a:=⟨b,o+k * 3,none⟩) (hV.block b (World.block_lt_of_cell? _ _ hc0))).trans hc0,(World.cell?_of_block (a:=⟨b,o+k * 3+1,none⟩) (hV.block b (World.block_lt_of_cell? _ _ hc0))).trans hc1,(World.cell?_of_block (a:=⟨b,o+k * 3+2,none⟩) (hV.block b (World.block_lt_of_cell? _ _ hc0))).trans hc2⟩
   replace hS:=Lib.hid hS
   replace q:=Lib.hid q
   clear hu hc0 hc1 hc2 hde
   by_cases hy:(⟨kd2,lt2,ip2⟩:L.ND) = ⟨kd,lt,ip⟩
   ·have hr:=hfnd hy
    have q':=q.out
    rw [decide_eq_true hy] at q'
    replace q':=Lib.hid q'
    replace hy:=Lib.hid hy
    clear hfnd hnx q
    go_wp2_with fail
    clear y1 y2 y3 y4
    (refine wp_region_held_drew (S:=(fun V=>V.cell? ⟨bx,1,none⟩ = some (.slice (some ⟨b,o,none⟩) bl.length cp)∧(V.cell? ⟨xb,0,none⟩ = some (.int .i64 kd)∧V.cell? ⟨xb,1,none⟩ = some (.int .i64 lt)∧V.cell? ⟨xb,2,none⟩ = some (.slice bb ip.length cc))∧V.cell? ⟨b,o+k * 3,none⟩ = some (.int .i64 kd2)∧V.cell? ⟨b,o+k * 3+1,none⟩ = some (.int .i64 lt2)∧V.cell? ⟨b,o+k * 3+2,none⟩ = some (.slice ua ip2.length uc))) (by kernel_rfl) ?_ (fun hHeld=>?_))
    ·exact hS.out _ hd.out
    (refine takeL (i:=0) (v:=?_) rfl (by kernel_rfl) (by kernel_rfl) (by kernel_rfl) (fun _ _ _ h=>h) (Or.inl ⟨by rfl,?_⟩) (by assumption) ?_)
    rotate_left
    ·(intro w hSw;(try dsimp only at hSw);go_simp;first | done | with_reducible rfl)
    (try simp only [Act.put,List.setIfInBounds_toArray,List.set_cons_zero,List.set_cons_succ])
    (refine takeL (i:=1) (v:=?_) rfl (by kernel_rfl) (by kernel_rfl) (by kernel_rfl) (fun _ _ _ h=>h) (Or.inl ⟨by rfl,?_⟩) (by assumption) ?_)
    rotate_left
    ·(intro w hSw;(try dsimp only at hSw);go_simp;first | done | with_reducible rfl)
    (try simp only [Act.put,List.setIfInBounds_toArray,List.set_cons_zero,List.set_cons_succ])
    (refine takeL (i:=2) (v:=?_) rfl (by kernel_rfl) (by kernel_rfl) (by kernel_rfl) (fun _ _ _ h=>h) (Or.inl ⟨by rfl,?_⟩) (by assumption) ?_)
    rotate_left
    ·(intro w hSw;(try dsimp only at hSw);go_simp;first | done | with_reducible rfl)
    (try simp only [Act.put,List.setIfInBounds_toArray,List.set_cons_zero,List.set_cons_succ])
    (refine takeL (i:=3) (v:=?_) rfl (by kernel_rfl) (by kernel_rfl) (by kernel_rfl) (fun _ _ _ h=>h) (Or.inl ⟨by rfl,?_⟩) (by assumption) ?_)
    rotate_left
    ·(intro w hSw;(try dsimp only at hSw);go_simp;first | done | with_reducible rfl)
    (try simp only [Act.put,List.setIfInBounds_toArray,List.set_cons_zero,List.set_cons_succ])
    (refine takeL (i:=4) (v:=?_) rfl (by kernel_rfl) (by kernel_rfl) (by kernel_rfl) (fun _ _ _ h=>h) (Or.inl ⟨by rfl,?_⟩) (by assumption) ?_)
    rotate_left
    ·(intro w hSw;(try dsimp only at hSw);go_simp;first | done | with_reducible rfl)
    (try simp only [Act.put,List.setIfInBounds_toArray,List.set_cons_zero,List.set_cons_succ])
    (refine takeL (i:=5) (v:=?_) rfl (by kernel_rfl) (by kernel_rfl) (by kernel_rfl) (fun _ _ _ h=>h) (Or.inl ⟨by rfl,?_⟩) (by assumption) ?_)
    rotate_left
    ·(intro w hSw;(try dsimp only at hSw);go_simp;first | done | with_reducible rfl)
    (try simp only [Act.put,List.setIfInBounds_toArray,List.set_cons_zero,List.set_cons_succ])
    (refine takeL (i:=6) (v:=?_) rfl (by kernel_rfl) (by kernel_rfl) (by kernel_rfl) (fun _ _ _ h=>h) (Or.inl ⟨by rfl,?_⟩) (by assumption) ?_)
    rotate_left
    ·(intro w hSw;(try dsimp only at hSw);go_simp;first | done | with_reducible rfl)
    (try simp only [Act.put,List.setIfInBounds_toArray,List.set_cons_zero,List.set_cons_succ])
    (refine takeL (i:=7) (v:=?_) rfl (by kernel_rfl) (by kernel_rfl) (by kernel_rfl) (fun _ _ _ h=>h) (Or.inl ⟨by rfl,?_⟩) (by assumption) ?_)
    rotate_left
    ·(intro w hSw;(try dsimp only at hSw);go_simp;first | done | with_reducible rfl)
    (try simp only [Act.put,List.setIfInBounds_toArray,List.set_cons_zero,List.set_cons_succ])
    (refine wpAnyH_ready (rs:=[8]) (by kernel_rfl) (by simp) ?_)
    (refine consL rfl (fun K hK=>?_))
    ((rw [if_pos (by rfl)]);go_simp;refine (q'.out _ hd.out).mono ?_;rintro e w3 ⟨rfl,hb3⟩;have hd3:=Lib.hid (hd.out.trans (hb3.below.mono hd.out.size));refine hK.out _ _ (hS.out _ hd3.out) (fun hHeld=>?_);clear hb3)
    (clear hK K)
    (try simp only [Act.put,List.setIfInBounds_toArray,List.set_cons_zero,List.set_cons_succ])
    (refine wpAnyH_done (by kernel_rfl) ?_ _)
    clear hHeld
    go_wp2_with fail
    go_ret2
    exact ⟨by rw [hr.out] <;> rfl,by rw [hr.out];exact ⟨_,us,(h1.out.next hd3.out)⟩,BI.of (hx1.out.below.trans (hd3.out.mono hx1.out.size)) hlw⟩
   ·have hnx2:=hnx hy
    have q':=q.out
    rw [decide_eq_false hy] at q'
    replace q':=Lib.hid q'
    replace hy:=Lib.hid hy
    clear hfnd hnx q
    go_wp2_with fail
    clear y1 y2 y3 y4
    (refine wp_region_held_drew (S:=(fun V=>V.cell? ⟨bx,1,none⟩ = some (.slice (some ⟨b,o,none⟩) bl.length cp)∧(V.cell? ⟨xb,0,none⟩ = some (.int .i64 kd)∧V.cell? ⟨xb,1,none⟩ = some (.int .i64 lt)∧V.cell? ⟨xb,2,none⟩ = some (.slice bb ip.length cc))∧V.cell? ⟨b,o+k * 3,none⟩ = some (.int .i64 kd2)∧V.cell? ⟨b,o+k * 3+1,none⟩ = some (.int .i64 lt2)∧V.cell? ⟨b,o+k * 3+2,none⟩ = some (.slice ua ip2.length uc))) (by kernel_rfl) ?_ (fun hHeld=>?_))
    ·exact hS.out _ hd.out
    (refine takeL (i:=0) (v:=?_) rfl (by kernel_rfl) (by kernel_rfl) (by kernel_rfl) (fun _ _ _ h=>h) (Or.inl ⟨by rfl,?_⟩) (by assumption) ?_)
    rotate_left
    ·(intro w hSw;(try dsimp only at hSw);go_simp;first | done | with_reducible rfl)
    (try simp only [Act.put,List.setIfInBounds_toArray,List.set_cons_zero,List.set_cons_succ])
    (refine takeL (i:=1) (v:=?_) rfl (by kernel_rfl) (by kernel_rfl) (by kernel_rfl) (fun _ _ _ h=>h) (Or.inl ⟨by rfl,?_⟩) (by assumption) ?_)
    rotate_left
    ·(intro w hSw;(try dsimp only at hSw);go_simp;first | done | with_reducible rfl)
    (try simp only [Act.put,List.setIfInBounds_toArray,List.set_cons_zero,List.set_cons_succ])
    (refine takeL (i:=2) (v:=?_) rfl (by kernel_rfl) (by kernel_rfl) (by kernel_rfl) (fun _ _ _ h=>h) (Or.inl ⟨by rfl,?_⟩) (by assumption) ?_)
    rotate_left
    ·(intro w hSw;(try dsimp only at hSw);go_simp;first | done | with_reducible rfl)
    (try simp only [Act.put,List.setIfInBounds_toArray,List.set_cons_zero,List.set_cons_succ])
    (refine takeL (i:=3) (v:=?_) rfl (by kernel_rfl) (by kernel_rfl) (by kernel_rfl) (fun _ _ _ h=>h) (Or.inl ⟨by rfl,?_⟩) (by assumption) ?_)
    rotate_left
    ·(intro w hSw;(try dsimp only at hSw);go_simp;first | done | with_reducible rfl)
    (try simp only [Act.put,List.setIfInBounds_toArray,List.set_cons_zero,List.set_cons_succ])
    (refine takeL (i:=4) (v:=?_) rfl (by kernel_rfl) (by kernel_rfl) (by kernel_rfl) (fun _ _ _ h=>h) (Or.inl ⟨by rfl,?_⟩) (by assumption) ?_)
    rotate_left
    ·(intro w hSw;(try dsimp only at hSw);go_simp;first | done | with_reducible rfl)
    (try simp only [Act.put,List.setIfInBounds_toArray,List.set_cons_zero,List.set_cons_succ])
    (refine takeL (i:=5) (v:=?_) rfl (by kernel_rfl) (by kernel_rfl) (by kernel_rfl) (fun _ _ _ h=>h) (Or.inl ⟨by rfl,?_⟩) (by assumption) ?_)
    rotate_left
    ·(intro w hSw;(try dsimp only at hSw);go_simp;first | done | with_reducible rfl)
    (try simp only [Act.put,List.setIfInBounds_toArray,List.set_cons_zero,List.set_cons_succ])
    (refine takeL (i:=6) (v:=?_) rfl (by kernel_rfl) (by kernel_rfl) (by kernel_rfl) (fun _ _ _ h=>h) (Or.inl ⟨by rfl,?_⟩) (by assumption) ?_)
    rotate_left
    ·(intro w hSw;(try dsimp only at hSw);go_simp;first | done | with_reducible rfl)
    (try simp only [Act.put,List.setIfInBounds_toArray,List.set_cons_zero,List.set_cons_succ])
    (refine takeL (i:=7) (v:=?_) rfl (by kernel_rfl) (by kernel_rfl) (by kernel_rfl) (fun _ _ _ h=>h) (Or.inl ⟨by rfl,?_⟩) (by assumption) ?_)
    rotate_left
    ·(intro w hSw;(try dsimp only at hSw);go_simp;first | done | with_reducible rfl)
    (try simp only [Act.put,List.setIfInBounds_toArray,List.set_cons_zero,List.set_cons_succ])
    (refine wpAnyH_ready (rs:=[8]) (by kernel_rfl) (by simp) ?_)
    (refine consL rfl (fun K hK=>?_))
    ((rw [if_pos (by rfl)]);go_simp;refine (q'.out _ hd.out).mono ?_;rintro e w3 ⟨rfl,hb3⟩;have hd3:=Lib.hid (hd.out.trans (hb3.below.mono hd.out.size));refine hK.out _ _ (hS.out _ hd3.out) (fun hHeld=>?_);clear hb3)
    (clear hK K)
    (try simp only [Act.put,List.setIfInBounds_toArray,List.set_cons_zero,List.set_cons_succ])
    (refine wpAnyH_done (by kernel_rfl) ?_ _)
    clear hHeld
    go_wp2_with fail
    go_roundw
    case rel=>exact ⟨k+1,by omega,by go_num,hnx2,hd3⟩
    case measure=>simp [intOf];omega
  ·obtain rfl:k = bl.length:=by omega
   have d0:decide ((bl.length:Int) < (bl.length:Int)) = false:=decide_eq_false (by omega)
   have hput:=Lib.hid (putND_nw (x:=⟨kd,lt,ip⟩) fun j hj=>hI.out j hj hj)
   have hbe:=Lib.hid (hx1.out.below.trans (hX.out.mono hx1.out.size))
   have h2:=h1.out.next hX.out
   have e2:=(hX.out.block _ (Array.getElem?_eq_some_iff.1 e0.out).1).trans e0.out
   have hin2:=ownsRow_keep hin1.out (fun g c h=>hX.out.block g (Array.getElem?_eq_some_iff.1 h).1)
   have hS:∀ V,Below wr.heap.size wr V→V.cell? ⟨bx,1,none⟩ = some (.slice ba bl.length cp)∧V.cell? ⟨xb,0,none⟩ = some (.int .i64 kd)∧V.cell? ⟨xb,1,none⟩ = some (.int .i64 lt)∧V.cell? ⟨xb,2,none⟩ = some (.slice bb ip.length cc):=fun V hV=>hF.out V (hX.out.trans (hV.mono hX.out.size))
   rename World=>w2
   replace hS:=Lib.hid hS
   replace h2:=Lib.hid h2
   replace e2:=Lib.hid e2
   replace hin2:=Lib.hid hin2
   go_wp2_with fail
   clear y1 y2 y3 y4
   obtain ⟨c1,g0,g1,g2⟩:=hS.out w2 (Below.refl _ _)
   have hT:True:=trivial
   (refine wp_region_held_drew (S:=(fun _=>True)) (by kernel_rfl) ?_ (fun hHeld=>?_))
   ·trivial
   (refine takeL (i:=0) (v:=?_) rfl (by kernel_rfl) (by kernel_rfl) (by kernel_rfl) (fun _ _ _ h=>h) (Or.inl ⟨by rfl,?_⟩) (by assumption) ?_)
   rotate_left
   ·(intro w hSw;(try dsimp only at hSw);go_simp;first | done | with_reducible rfl)
   (try simp only [Act.put,List.setIfInBounds_toArray,List.set_cons_zero,List.set_cons_succ])
   (refine takeL (i:=1) (v:=?_) rfl (by kernel_rfl) (by kernel_rfl) (by kernel_rfl) (fun _ _ _ h=>h) (Or.inl ⟨by rfl,?_⟩) (by assumption) ?_)
   rotate_left
   ·(intro w hSw;(try dsimp only at hSw);go_simp;first | done | with_reducible rfl)
   (try simp only [Act.put,List.setIfInBounds_toArray,List.set_cons_zero,List.set_cons_succ])
   (refine takeL (i:=2) (v:=?_) rfl (by kernel_rfl) (by kernel_rfl) (by kernel_rfl) (fun _ _ _ h=>h) (Or.inl ⟨by rfl,?_⟩) (by assumption) ?_)
   rotate_left
   ·(intro w hSw;(try dsimp only at hSw);go_simp;first | done | with_reducible rfl)
   (try simp only [Act.put,List.setIfInBounds_toArray,List.set_cons_zero,List.set_cons_succ])
   (refine takeL (i:=3) (v:=?_) rfl (by kernel_rfl) (by kernel_rfl) (by kernel_rfl) (fun _ _ _ h=>h) (Or.inl ⟨by rfl,?_⟩) (by assumption) ?_)
   rotate_left
   ·(intro w hSw;(try dsimp only at hSw);go_simp;first | done | with_reducible rfl)
   (try simp only [Act.put,List.setIfInBounds_toArray,List.set_cons_zero,List.set_cons_succ])
   obtain ⟨c1a,-,-,-⟩:=hS.out _ ((Below.refl _ w2).alloc (Nat.le_refl _) (.cells #[.int .i64 kd,.int .i64 lt,.slice bb ip.length cc] 40)).drew
   obtain ⟨c1b,-,-,-⟩:=hS.out _ ((Below.refl _ w2).alloc (Nat.le_refl _) (.cells #[.int .i64 kd,.int .i64 lt,.slice bb ip.length cc] 40))
   (refine wpAnyH_ready (rs:=[4,5]) (by kernel_rfl) (by simp) ?_)
   (refine consL2 rfl rfl (fun K hK=>?_) (fun K hK=>?_))
   (rw [if_pos (by rfl)])
   go_simp
   (refine hK.out _ _ trivial (fun hT=>?_))
   (clear hT hK K)
   (try simp only [Act.put,List.setIfInBounds_toArray,List.set_cons_zero,List.set_cons_succ])
   (refine wpAnyH_ready (rs:=[5]) (by kernel_rfl) (by simp) ?_)
   (refine consL rfl (fun K hK=>?_))
   (rw [if_pos (by rfl)])
   go_simp
   (refine hK.out _ _ trivial (fun hT=>?_))
   (clear hT hK K)
   (try simp only [Act.put,List.setIfInBounds_toArray,List.set_cons_zero,List.set_cons_succ])
   (refine wpAnyH_ready (rs:=[6]) (by kernel_rfl) (by simp) ?_)
   (refine consL rfl (fun K hK=>?_))
   (rw [if_pos (by rfl)])
   go_simp
   (refine hK.out _ _ trivial (fun hT=>?_))
   (clear hT hK K)
   (try simp only [Act.put,List.setIfInBounds_toArray,List.set_cons_zero,List.set_cons_succ])
   refine ?hRest1
   rotate_left
   (rw [if_pos (by rfl)])
   go_simp
   (refine hK.out _ _ trivial (fun hT=>?_))
   (clear hT hK K)
   (try simp only [Act.put,List.setIfInBounds_toArray,List.set_cons_zero,List.set_cons_succ])
   (refine wpAnyH_ready (rs:=[4,6]) (by kernel_rfl) (by simp) ?_)
   (refine consL2 rfl rfl (fun K hK=>?_) (fun K hK=>?_))
   (rw [if_pos (by rfl)])
   go_simp
   (refine hK.out _ _ trivial (fun hT=>?_))
   (clear hT hK K)
   (try simp only [Act.put,List.setIfInBounds_toArray,List.set_cons_zero,List.set_cons_succ])
   (refine wpAnyH_ready (rs:=[6]) (by kernel_rfl) (by simp) ?_)
   (refine consL rfl (fun K hK=>?_))
   (rw [if_pos (by rfl)])
   go_simp
   (refine hK.out _ _ trivial (fun hT=>?_))
   (clear hT hK K)
   (try simp only [Act.put,List.setIfInBounds_toArray,List.set_cons_zero,List.set_cons_succ])
   exact ?hRest1
   (rw [if_pos (by rfl)])
   go_simp
   (refine hK.out _ _ trivial (fun hT=>?_))
   (clear hT hK K)
   (try simp only [Act.put,List.setIfInBounds_toArray,List.set_cons_zero,List.set_cons_succ])
   (refine wpAnyH_ready (rs:=[4]) (by kernel_rfl) (by simp) ?_)
   (refine consL rfl (fun K hK=>?_))
   (rw [if_pos (by rfl)])
   go_simp
   (refine hK.out _ _ trivial (fun hT=>?_))
   (clear hT hK K)
   (try simp only [Act.put,List.setIfInBounds_toArray,List.set_cons_zero,List.set_cons_succ])
   exact ?hRest1
   clear c1 g0 g1 g2 c1a c1b
   have ha:Below w2.heap.size w2 ((w2.alloc (.cells #[.int .i64 kd,.int .i64 lt,.slice bb ip.length cc] 40)).drew):=((Below.refl _ w2).alloc (Nat.le_refl _) _).drew
   have hna:((w2.alloc (.cells #[.int .i64 kd,.int .i64 lt,.slice bb ip.length cc] 40)).drew).heap[w2.heap.size]? = some (.cells #[.int .i64 kd,.int .i64 lt,.slice bb ip.length cc] 40):=heap_alloc_new w2 _
   generalize hwd:(w2.alloc (.cells #[.int .i64 kd,.int .i64 lt,.slice bb ip.length cc] 40)).drew = wd at *
   replace hwd:=Lib.hid hwd
   (try simp only [Act.put,List.setIfInBounds_toArray,List.set_cons_zero,List.set_cons_succ])
   have hd:=h2.out.next ha
   have hind:=ownsRow_keep hin2.out (fun g c h=>ha.block g (Array.getElem?_eq_some_iff.1 h).1)
   have hxd:=(ha.block _ (Array.getElem?_eq_some_iff.1 e2.out).1).trans e2.out
   have hbd:=Lib.hid (hbe.out.trans (ha.mono hbe.out.size))
   have hsd:base≤wd.heap.size:=Nat.le_trans hb hbd.out.size
   have hca:=World.news_of_block (cs:=#[.int .i64 kd,.int .i64 lt,.slice bb ip.length cc]) (t:=40) (fr:=(0,0)) hna
   (refine wpAnyH_ready (rs:=[7]) (by kernel_rfl) (by simp) ?_)
   (refine consL rfl (fun K hK=>?_))
   (rw [if_pos (by rfl)])
   refine wp_append_own wd _ _ 22 rfl base 40 iv _ 3 40 Tryz.underlying22 hiv hzv hsv hbv rfl (by decide) (.slice ba bl.length cp) bl.length (gCells (bl.map L.ofND) us) rfl hd.2.1 ⟨w2.heap.size,0,none⟩ 1 1 [.int .i64 kd,.int .i64 lt,.slice bb ip.length cc] rfl rfl hca (by simp [Value.oneCell']) (by unfold maxLen;omega) (by omega) hsd (fun v6 w6 ho6 hg6 _=>?_)
   have hb6:=(grown_other hd.2.1 hg6 hd.1 (by decide)).trans hd.1
   have hR6:RowsOf w6 base us (bl.map fun y=>castL y.inp):=hd.2.2.1.keep (fun g c h=>grown_other hd.2.1 hg6 h (by decide))
   have hin6:=ownsRow_keep hind (fun g c h=>grown_other hd.2.1 hg6 h (by decide))
   have hx6:w6.heap[xb]? = some (.cells #[.int .i64 kd,.int .i64 lt,.slice bb ip.length cc] 40 (0,0)):=by
    refine Eq.trans (hg6.block xb (Array.getElem?_eq_some_iff.1 hxd).1 fun e=>?_) hxd
    obtain ⟨cur,hgh'⟩:=own_blk h.out.2.1 e.symm
    have:=(Array.getElem?_eq_some_iff.1 hgh').1
    have:=hxb.out
    omega
   have hB6:Below lo W w6:=Below.grown (hbd.out.mono hlw) hg6 (Nat.le_trans hlo hsd) (fun k e=>Nat.le_trans hlo (own_ge hd.2.1 e))
   have hI6:Hid (IntKeep W w6):=Lib.hid ((IntKeep.of (hbd.out)).trans fun g c h=>(grown_other hd.2.1 hg6 h (by decide)).trans h)
   have hbxb:=h.out.2.2.2
   obtain ⟨g6,c6,rfl⟩:∃ g c,v6 = .slice (some ⟨g,0,none⟩) (bl.length+1) c:=by
    obtain ⟨_,⟨_,e⟩ | ⟨g,cap,cur,h,_⟩⟩:=ho6
    ·omega
    ·exact ⟨g,cap,h⟩
   have hus:us.length = (bl.map L.ofND).length:=by have:=hd.2.2.1.1;simpa using this
   have hgc:gCells (bl.map L.ofND) us++[.int .i64 kd,.int .i64 lt,.slice bb ip.length cc] = gCells ((bl++[(⟨kd,lt,ip⟩:L.ND)]).map L.ofND) (us++[.slice bb ip.length cc]):=by
    rw [List.map_append,List.map_cons,List.map_nil,gCells_snoc hus];rfl
   have hne:∀ (g:Nat) (cs:Array Value) (ty:TypeId),w6.heap[g]? = some (.cells cs ty (0,0))→ty≠92→(w6.setCell ⟨bx,1,none⟩ (.slice (some ⟨g6,0,none⟩) (bl.length+1) c6)).heap[g]? = w6.heap[g]?:=fun g cs ty h1 h2=>by
    refine Below.heap_setCell _ _ _ _ fun e=>?_
    rw [e,hb6] at h1
    simp only [Option.some.injEq,Obj.cells.injEq] at h1
    exact h2 h1.2.1.symm
   have hRx:RowsOf w6 base (us++[.slice bb ip.length cc]) ((bl++[(⟨kd,lt,ip⟩:L.ND)]).map fun y=>castL y.inp):=by
    rw [List.map_append]
    exact hR6.snoc (c:=castL ip) (by rw [castL_len];exact hin6)
   rw [hgc] at ho6
   obtain ⟨v6,hv6⟩:∃ v,v = Value.slice (some ⟨g6,0,none⟩) (bl.length+1) c6:=⟨_,rfl⟩
   have hh7:=heap_set hb6 1 v6
   have h7row:(w6.setCell ⟨bx,1,none⟩ v6).ownsRow base 40 3 v6 (bl.length+1) (gCells ((bl++[(⟨kd,lt,ip⟩:L.ND)]).map L.ofND) (us++[.slice bb ip.length cc])):=by
    rw [hv6];exact ownsRow_keep ho6 (fun g c h=>hne g c _ h (by decide))
   have h7rows:RowsOf (w6.setCell ⟨bx,1,none⟩ v6) base (us++[.slice bb ip.length cc]) ((bl++[(⟨kd,lt,ip⟩:L.ND)]).map fun y=>castL y.inp):=by
    rw [hv6];exact hRx.keep (fun g c h=>hne g c _ h (by decide))
   have hB7:BI lo W (w6.setCell ⟨bx,1,none⟩ v6):=⟨hB6.setCell (p:=⟨bx,1,none⟩) hbxb.1 _,fun g c h=>by rw [hv6];exact (hne g c _ (hI6.out g c h) (by decide)).trans (hI6.out g c h)⟩
   have y2:w6.frozen? ⟨bx,1,none⟩ = false:=by simp [World.frozen?,hb6]
   refine hK.out _ _ trivial (fun hHeld=>?_)
   clear hK K ho6 hRx hne hgc hR6 hin6 hx6 hB6 hind hxd hca hsd hg6 hna ha hd
   (try simp only [Act.put,List.setIfInBounds_toArray,List.set_cons_zero,List.set_cons_succ])
   have x6:w6.cell? ⟨bx,1,none⟩ = some (.slice ba bl.length cp):=by rw [World.cell?,hb6];rfl
   replace hb6:=Lib.hid hb6
   clear hHeld
   (refine takeL (i:=8) (v:=?_) rfl (by kernel_rfl) (by kernel_rfl) (by kernel_rfl) (fun _ _ _ h=>h) (Or.inl ⟨by rfl,?_⟩) (by assumption) ?_)
   rotate_left
   ·(intro w hSw;(try dsimp only at hSw);go_simp;first | done | with_reducible rfl)
   (try simp only [Act.put,List.setIfInBounds_toArray,List.set_cons_zero,List.set_cons_succ])
   (refine takeL (i:=9) (v:=?_) rfl (by kernel_rfl) (by kernel_rfl) (by kernel_rfl) (fun _ _ _ h=>h) (Or.inl ⟨by rfl,?_⟩) (by assumption) ?_)
   rotate_left
   ·(intro w hSw;(try dsimp only at hSw);go_simp;first | done | with_reducible rfl)
   (try simp only [Act.put,List.setIfInBounds_toArray,List.set_cons_zero,List.set_cons_succ])
   (refine wpAnyH_ready (rs:=[10]) (by kernel_rfl) (by simp) ?_)
   (refine consL rfl (fun K hK=>?_))
   ((rw [if_pos (by rfl)]);go_simp;refine hK.out _ _ trivial (fun hHeld=>?_))
   (clear hK K)
   (try simp only [Act.put,List.setIfInBounds_toArray,List.set_cons_zero,List.set_cons_succ])
   (refine wpAnyH_done (by kernel_rfl) ?_ _)
   rw [←hv6]
   obtain ⟨w7,hw7⟩:∃ W,W = w6.setCell ⟨bx,1,none⟩ v6:=⟨_,rfl⟩
   rw [←hw7] at hh7 h7row h7rows hB7 ⊢
   replace hw7:=Lib.hid hw7
   clear hb6 x6 y2 hHeld hT
   have f1:w7.cell? ⟨bx,1,none⟩ = some v6:=by rw [World.cell?,hh7];rfl
   have f2:w7.drew.cell? ⟨bx,1,none⟩ = some v6:=f1
   have hN8:Hid (RBat fb lo base bx n (bl++[(⟨kd,lt,ip⟩:L.ND)]) v6 (us++[.slice bb ip.length cc]) w7):=Lib.hid ⟨hh7,by rw [List.length_append];exact h7row,h7rows,hbxb.1,hbxb.2.1,fun u hu=>(List.mem_append.1 hu).elim (hbxb.2.2 u) (fun e=>by rw [List.mem_singleton.1 e];exact hfbu.out)⟩
   have hB8:Hid (BI lo W w7):=Lib.hid hB7
   have hwr:IntKind.i64.wrap (bl.length:Int) = (bl.length:Int):=IntWalk.i64_in _ (by omega)
   have hwr2:IntKind.i64.wrap ((bl.length:Int)+1 - 1) = (bl.length:Int):=IntWalk.i64_in _ (by omega) |>.trans (by omega)
   clear hh7 h7row h7rows hB7 hw7
   subst hv6
   go_wp2_with fail
   go_ret2
   exact ⟨by rw [hput.out] <;> rfl,by rw [hput.out];exact ⟨_,_,hN8.out⟩,hB8.out⟩
end Go.Proofs.YtckhohpbokojdaaGreatDoor
