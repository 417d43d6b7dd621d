import Derived.Test.YtckhohpbokojdaaGreatDoorLQ6
set_option linter.unusedSimpArgs false
set_option linter.unusedVariables false
namespace Go.Proofs.YtckhohpbokojdaaGreatDoor
open Go Go.RowKit Go.Shelf
set_option maxRecDepth 100000 in
set_option maxHeartbeats 8000000 in
theorem rformed_any {n kd lt:Int} {ip:List Int} {bb:Option Addr} {cc i:Nat} {w:World} (hn:0≤n∧n≤128) (hs:SlI w (.slice bb ip.length cc) ip) (hl:ip.length≤9223372036854775807) :
  Calls Tryz.prog 64 #[.agg #[.int .i64 kd,.int .i64 lt,.slice bb ip.length cc],.int .i64 n,.int .i64 (i:Nat)] w fun e w'=>e = .returned (.bool (L.fmOk n i ⟨kd,lt,ip⟩))∧Ext w w':=by
 obtain ⟨M,hM⟩:∃ M,M = ip.length:=⟨_,rfl⟩
 rw [←hM] at hs ⊢
 have e0:=heap_alloc_new w (.cells #[.int .i64 kd,.int .i64 lt,.slice bb M cc] 40)
 have hx1:Ext w (w.alloc (.cells #[.int .i64 kd,.int .i64 lt,.slice bb M cc] 40)):=(Ext.refl w).alloc _
 obtain ⟨w1,hw1⟩:∃ W,W = w.alloc (.cells #[.int .i64 kd,.int .i64 lt,.slice bb M cc] 40):=⟨_,rfl⟩
 rw [←hw1] at e0 hx1
 have m0:w1.cell? ⟨w.heap.size,0,none⟩ = some (.int .i64 kd):=by rw [World.cell?,e0];rfl
 have m1:w1.cell? ⟨w.heap.size,1,none⟩ = some (.int .i64 lt):=by rw [World.cell?,e0];rfl
 have m2:w1.cell? ⟨w.heap.size,2,none⟩ = some (.slice bb M cc):=by rw [World.cell?,e0];rfl
 obtain ⟨_,_,e,hcs⟩:=(hs.ext hx1.below).shape
 simp only [Value.slice.injEq] at e
 obtain ⟨rfl,-,rfl⟩:=e
 have hdef:L.fmOk n i ⟨kd,lt,ip⟩ = ((ip.all fun k=>decide (0≤k) && decide (k < i)) && L.fmK n ⟨kd,lt,ip⟩):=rfl
 have hK0:L.fmK n ⟨kd,lt,ip⟩ = if kd = 0∨kd = 1 then decide (lt = 0) && decide (ip.length = 0) else if kd = 2 then L.validB n lt && decide (ip.length = 0) else if kd = 3∨kd = 4 then decide (lt = 0) else false:=rfl
 rw [hdef]
 obtain ⟨R,hR⟩:∃ R,R = L.fmK n ⟨kd,lt,ip⟩:=⟨_,rfl⟩
 rw [←hR] at hK0 ⊢
 have qv:=fun W=>valid4_any (n:=n) (l:=lt) hn.1 hn.2 W
 have hlz:((M:Int) == 0) = decide (ip.length = 0):=by rw [Bool.eq_iff_iff,beq_iff_eq,decide_eq_true_eq];omega
 have hA1:(∀ j (hj:j < ip.length),0≤ip[j]∧ip[j] < (i:Int))→(ip.all fun k=>decide (0≤k) && decide (k < i)) = true:=fun h=>List.all_eq_true.2 fun x hx=>by
  obtain ⟨j,hj,rfl⟩:=List.getElem_of_mem hx
  simpa using h j hj
 have hA0:∀ j (hj:j < ip.length),¬ (0≤ip[j]∧ip[j] < (i:Int))→(ip.all fun k=>decide (0≤k) && decide (k < i)) = false:=fun j hj h=>by
  rw [←Bool.not_eq_true,List.all_eq_true]
  exact fun h2=>h (by simpa using h2 _ (List.getElem_mem hj))
 generalize (ip.all fun k=>decide (0≤k) && decide (k < i)) = A at *
 replace hA0:=Lib.hid hA0
 replace hA1:=Lib.hid hA1
 replace hR:=Lib.hid hR
 replace hdef:=Lib.hid hdef
 replace hs:=Lib.hid hs
 replace hcs:=Lib.hid hcs
 generalize hZ:decide (ip.length = 0) = Z at *
 generalize hV:L.validB n lt = B at *
 replace hZ:=Lib.hid hZ
 replace hV:=Lib.hid hV
 replace hK0:=Lib.hid hK0
 replace hlz:=Lib.hid hlz
 have hl':M≤9223372036854775807:=by omega
 replace hM:=Lib.hid hM
 replace hl:=Lib.hid hl
 replace e0:=Lib.hid e0
 replace hx1:=Lib.hid hx1
 replace qv:=Lib.hid qv
 go_enter Tryz.func64,Tryz.ntmps64
 go_wp2_with fail
 rw [←hw1]
 replace hw1:=Lib.hid hw1
 go_loopw [7] (fun v wr=>∃ k:Nat,k≤M∧v = .int .i64 (k:Int)∧Hid (∀ j (hj:j < ip.length),j < k→0≤ip[j]∧ip[j] < (i:Int))∧w1 = wr) (fun v _=>M - (intOf v).toNat)
 case atStart=>exact ⟨0,by omega,rfl,Lib.hid (fun j _ h=>absurd h (Nat.not_lt_zero _)),rfl⟩
 case round =>
  obtain ⟨k,hk,rfl,hI,rfl⟩:=hrel
  by_cases hlt:k < M
  ·have d0:decide ((k:Int) < (M:Int)) = true:=decide_eq_true (by omega)
   have g0':(0:Int)≤(k:Int):=by omega
   have hltp:k < ip.length:=by have:=hM.out;omega
   have g1:(k:Int) < (M:Int):=by omega
   obtain ⟨b,o,rfl,hc⟩:=hcs.out k hltp
   have hbad:=hA0.out k hltp
   have hnx:(0≤ip[k]∧ip[k] < (i:Int))→Hid (∀ j (hj:j < ip.length),j < k+1→0≤ip[j]∧ip[j] < (i:Int)):=fun h=>Lib.hid fun j hj hjk=>by
    by_cases e:j = k
    ·subst e;exact h
    ·exact hI.out j hj (by omega)
   generalize ip[k] = u at *
   by_cases hu0:u < 0
   ·have du:decide (u < 0) = true:=decide_eq_true hu0
    have hr:=Lib.hid (hbad (fun h=>by omega))
    replace hu0:=Lib.hid hu0
    clear hbad hnx hlz
    go_wp2_with fail
    go_ret
    exact ⟨by rw [hr.out] <;> rfl,hx1.out⟩
   ·have du:decide (u < 0) = false:=decide_eq_false hu0
    by_cases hu1:u≥(i:Int)
    ·have dv:decide (u≥(i:Int)) = true:=decide_eq_true hu1
     have hr:=Lib.hid (hbad (fun h=>by omega))
     replace hu0:=Lib.hid hu0
     replace hu1:=Lib.hid hu1
     clear hbad hnx hlz
     go_wp2_with fail
     go_ret
     exact ⟨by rw [hr.out] <;> rfl,hx1.out⟩
    ·have dv:decide (u≥(i:Int)) = false:=decide_eq_false hu1
     have hnx2:=hnx ⟨by omega,by omega⟩
     replace hu0:=Lib.hid hu0
     replace hu1:=Lib.hid hu1
     clear hbad hnx hlz
     go_wp2_with fail
     go_roundw
     case rel=>exact ⟨k+1,by omega,by go_num,hnx2,by first | rfl | trivial⟩
     case measure=>simp [intOf];omega
  ·obtain rfl:k = M:=by omega
   have d0:decide ((k:Int) < (k:Int)) = false:=decide_eq_false (by omega)
   obtain rfl:A = true:=hA1.out fun j hj=>hI.out j hj (by have:=hM.out;omega)
   replace hlz:=hlz.out
   clear hA0 hA1 hI hlt hk hcs hs
   by_cases h0:kd = 0
   ·subst h0
    have hRr:R = (decide (lt = 0) && Z):=hK0.out.trans (if_pos (.inl rfl))
    cases hl0:decide (lt = 0)
    ·rw [hl0] at hRr
     have dl:(lt == 0) = false:=by rw [beq_eq_false_iff_ne];exact of_decide_eq_false hl0
     replace hRr:R = false:=hRr
     subst hRr
     replace hl0:=Lib.hid hl0
     go_wp2_with fail
     go_ret
     exact ⟨rfl,hx1.out⟩
    ·rw [hl0] at hRr
     have dl:(lt == 0) = true:=by rw [beq_iff_eq];exact of_decide_eq_true hl0
     replace hRr:R = Z:=hRr
     subst hRr
     replace hl0:=Lib.hid hl0
     go_wp2_with fail
     go_ret
     exact ⟨by first | rfl | (rw [Bool.true_and];try rfl),hx1.out⟩
   by_cases h1:kd = 1
   ·subst h1
    have hRr:R = (decide (lt = 0) && Z):=hK0.out.trans (if_pos (.inr rfl))
    cases hl0:decide (lt = 0)
    ·rw [hl0] at hRr
     have dl:(lt == 0) = false:=by rw [beq_eq_false_iff_ne];exact of_decide_eq_false hl0
     replace hRr:R = false:=hRr
     subst hRr
     replace hl0:=Lib.hid hl0
     replace h0:=Lib.hid h0
     go_wp2_with fail
     go_ret
     exact ⟨rfl,hx1.out⟩
    ·rw [hl0] at hRr
     have dl:(lt == 0) = true:=by rw [beq_iff_eq];exact of_decide_eq_true hl0
     replace hRr:R = Z:=hRr
     subst hRr
     replace hl0:=Lib.hid hl0
     replace h0:=Lib.hid h0
     go_wp2_with fail
     go_ret
     exact ⟨by first | rfl | (rw [Bool.true_and];try rfl),hx1.out⟩
   by_cases h2:kd = 2
   ·subst h2
    have hRr:R = (B && Z):=hK0.out.trans ((if_neg (by decide)).trans (if_pos rfl))
    have q:=qv.out w1
    replace h0:=Lib.hid h0
    replace h1:=Lib.hid h1
    cases B
    ·replace hRr:R = false:=hRr
     subst hRr
     go_wp2_with fail
     refine q.mono ?_
     rintro e w4 ⟨rfl,rfl⟩
     go_wp2_with fail
     go_ret
     exact ⟨rfl,hx1.out⟩
    ·replace hRr:R = Z:=hRr
     subst hRr
     go_wp2_with fail
     refine q.mono ?_
     rintro e w4 ⟨rfl,rfl⟩
     go_wp2_with fail
     go_ret
     exact ⟨by first | rfl | (rw [Bool.true_and];try rfl),hx1.out⟩
   have d0:(kd == 0) = false:=by simpa using h0
   have d1:(kd == 1) = false:=by simpa using h1
   have d2:(kd == 2) = false:=by simpa using h2
   have hR3:R = if kd = 3∨kd = 4 then decide (lt = 0) else false:=hK0.out.trans ((if_neg (by omega)).trans (if_neg h2))
   replace h0:=Lib.hid h0
   replace h1:=Lib.hid h1
   replace h2:=Lib.hid h2
   have hlb:(lt == 0) = decide (lt = 0):=by rw [Bool.eq_iff_iff,beq_iff_eq,decide_eq_true_eq]
   by_cases h3:kd = 3
   ·subst h3
    have hRr:Hid (R = (lt == 0)):=Lib.hid (hR3.trans ((if_pos (.inl rfl)).trans hlb.symm))
    replace hlb:=Lib.hid hlb
    replace hR3:=Lib.hid hR3
    go_wp2_with fail
    go_ret
    exact ⟨by rw [hRr.out] <;> rfl,hx1.out⟩
   by_cases h4:kd = 4
   ·subst h4
    have hRr:Hid (R = (lt == 0)):=Lib.hid (hR3.trans ((if_pos (.inr rfl)).trans hlb.symm))
    replace hlb:=Lib.hid hlb
    replace hR3:=Lib.hid hR3
    replace h3:=Lib.hid h3
    go_wp2_with fail
    go_ret
    exact ⟨by rw [hRr.out] <;> rfl,hx1.out⟩
   have d3:(kd == 3) = false:=by simpa using h3
   have d4:(kd == 4) = false:=by simpa using h4
   have hRr:R = false:=hR3.trans (if_neg (by omega))
   subst hRr
   replace hlb:=Lib.hid hlb
   replace hR3:=Lib.hid hR3
   replace h3:=Lib.hid h3
   replace h4:=Lib.hid h4
   go_wp2_with fail
   go_ret
   exact ⟨rfl,hx1.out⟩
set_option maxRecDepth 100000 in
set_option maxHeartbeats 4000000 in
theorem rvalid20_any {n:Int} {C:List L.Gt} {v:Value} {w:World} (hv:SlC w v C) (h2:∀ g∈C,g.inp.length≤9223372036854775807) (h1:C.length≤9223372036854775807) :
  Calls Tryz.prog 40 #[.agg #[.int .i64 n,v]] w fun e w'=>e = .returned (.bool (decide (L.netChk n C = 0)))∧Ext w w':=by
 obtain ⟨ba,cp,rfl,hcs⟩:=hv.shape
 have hx1:Ext w (w.alloc (.cells #[.int .i64 n,.slice ba C.length cp] 24)):=(Ext.refl w).alloc _
 have hn1:=heap_alloc_new w (.cells #[.int .i64 n,.slice ba C.length cp] 24)
 have c0:(w.alloc (.cells #[.int .i64 n,.slice ba C.length cp] 24)).cell? ⟨w.heap.size,0,none⟩ = some (.int .i64 n):=by rw [World.cell?,hn1];rfl
 have c1:(w.alloc (.cells #[.int .i64 n,.slice ba C.length cp] 24)).cell? ⟨w.heap.size,1,none⟩ = some (.slice ba C.length cp):=by rw [World.cell?,hn1];rfl
 have hbadp:n < 0∨128 < n∨C.length < 1∨65536 < C.length→Hid (decide (L.netChk n C = 0) = false):=fun h=>Lib.hid (decide_eq_false (by unfold L.netChk;rw [if_pos h];decide))
 replace hx1:=Lib.hid hx1
 replace hcs:=Lib.hid hcs
 replace h2:=Lib.hid h2
 clear hv hn1
 by_cases hn0:n < 0
 ·have d0:decide (n < 0) = true:=decide_eq_true hn0
  have hr:=hbadp (.inl hn0)
  clear hbadp hn0
  go_enter Tryz.func40,Tryz.ntmps40
  go_wp2_with fail
  go_ret
  exact ⟨by rw [hr.out] <;> rfl,hx1.out⟩
 have d0:decide (n < 0) = false:=decide_eq_false hn0
 by_cases hn1:n > 128
 ·have d1:decide (n > 128) = true:=decide_eq_true hn1
  have hr:=hbadp (.inr (.inl (by omega)))
  clear hbadp hn0 hn1
  go_enter Tryz.func40,Tryz.ntmps40
  go_wp2_with fail
  go_ret
  exact ⟨by rw [hr.out] <;> rfl,hx1.out⟩
 have d1:decide (n > 128) = false:=decide_eq_false hn1
 by_cases hl0:(C.length:Int) < 1
 ·have d2:decide ((C.length:Int) < 1) = true:=decide_eq_true hl0
  have hr:=hbadp (.inr (.inr (.inl (by omega))))
  clear hbadp hn0 hn1
  have hl1:C.length = 0:=by omega
  simp only [hl1] at *
  go_enter Tryz.func40,Tryz.ntmps40
  go_wp2_with fail
  go_ret
  exact ⟨by rw [hr.out] <;> rfl,hx1.out⟩
 have d2:decide ((C.length:Int) < 1) = false:=decide_eq_false hl0
 by_cases hl:(C.length:Int) > 65536
 ·have d3:decide ((C.length:Int) > 65536) = true:=decide_eq_true hl
  have hr:=hbadp (.inr (.inr (.inr (by omega))))
  clear hbadp hn0 hn1
  go_enter Tryz.func40,Tryz.ntmps40
  go_wp2_with fail
  go_ret
  exact ⟨by rw [hr.out] <;> rfl,hx1.out⟩
 have d3:decide ((C.length:Int) > 65536) = false:=decide_eq_false hl
 have hpre:¬ (n < 0∨128 < n∨C.length < 1∨65536 < C.length):=by omega
 have hbad:∀ j (hj:j < C.length),L.fmOk n j C[j] = false→decide (L.netChk n C = 0) = false:=fun j hj hb=>by
  rw [L.netChk_bad hj hb];rfl
 have hgood:(∀ j (hj:j < C.length),L.fmOk n j C[j] = true)→decide (L.netChk n C = 0) = true:=fun h=>decide_eq_true (by
  unfold L.netChk
  rw [if_neg hpre,if_pos (L.netScan_ok.2 fun j hj=>by rw [Nat.zero_add];exact h j hj)])
 have hnr:0≤n∧n≤128:=by omega
 replace hbad:=Lib.hid hbad
 replace hgood:=Lib.hid hgood
 clear hpre hn0 hn1 hbadp
 generalize decide (L.netChk n C = 0) = RR at *
 go_enter Tryz.func40,Tryz.ntmps40
 go_wp2_with fail
 generalize (w.alloc (.cells #[.int .i64 n,.slice ba C.length cp] 24)) = w1 at *
 clear d0 d1 d2 d3 hl0 hl
 go_loopw [3] (fun i wr=>∃ k:Nat,k≤C.length∧i = .int .i64 k∧(∀ j (hj:j < k) (hj2:j < C.length),L.fmOk n j C[j] = true)∧Hid (Ext w1 wr)) (fun i _=>C.length - (intOf i).toNat)
 case atStart=>exact ⟨0,Nat.zero_le _,rfl,(fun j hj=>by omega),Lib.hid (Ext.refl _)⟩
 case round =>
  obtain ⟨k,hk,rfl,hgd,hxr⟩:=hrel
  replace hgd:=Lib.hid hgd
  have z1:=hxr.out.cell c1
  by_cases hlt:k < C.length
  ·have g0:(0:Int)≤(k:Int):=by omega
   have g1:(k:Int) < (C.length:Int):=by omega
   have dl:decide ((k:Int) < (C.length:Int)) = true:=decide_eq_true g1
   have hb1:=hbad.out k hlt
   obtain ⟨b,o,bb,cc,rfl,f0,f1,f2,fin⟩:=hcs.out k hlt
   have hcl:=h2.out _ (List.getElem_mem hlt)
   have hg2:L.fmOk n k C[k] = true→∀ j (hj:j < k+1) (hj2:j < C.length),L.fmOk n j C[j] = true:=fun hok j hj hj2=>by
    by_cases e:j = k
    ·subst e;exact hok
    ·exact hgd.out j (by omega) hj2
   generalize C[k] = x at *
   obtain ⟨kd,lt,ip⟩:=x
   dsimp only at *
   have hS:∀ V,Ext wr V→V.cell? ⟨w.heap.size,0,none⟩ = some (.int .i64 n)∧V.cell? ⟨w.heap.size,1,none⟩ = some (.slice (some ⟨b,o,none⟩) C.length cp)∧V.cell? ⟨b,o+k * 3,none⟩ = some (.int .i64 kd)∧V.cell? ⟨b,o+k * 3+1,none⟩ = some (.int .i64 lt)∧V.cell? ⟨b,o+k * 3+2,none⟩ = some (.slice bb ip.length cc):=fun V hV=>by
    have hw:=hx1.out.trans (hxr.out.trans hV)
    exact ⟨(hxr.out.trans hV).cell c0,(hxr.out.trans hV).cell c1,hw.cell f0,hw.cell f1,hw.cell f2⟩
   have q:∀ V,Ext wr V→_:=fun V hV=>rformed_any (kd:=kd) (lt:=lt) (bb:=bb) (cc:=cc) (ip:=ip) (i:=k) hnr (fin.ext (hx1.out.trans (hxr.out.trans hV)).below) hcl
   replace hS:=Lib.hid hS
   replace hg2:=Lib.hid hg2
   replace hb1:=Lib.hid hb1
   clear f0 f1 f2 fin
   cases hok:L.fmOk n k ⟨kd,lt,ip⟩
   ·have hr:=Lib.hid (hb1.out hok)
    rw [hok] at q
    replace q:=Lib.hid q
    clear hok
    go_wp2_with fail
    clear z1
    (refine wp_region_held_drew (S:=(fun V=>V.cell? ⟨w.heap.size,0,none⟩ = some (.int .i64 n)∧V.cell? ⟨w.heap.size,1,none⟩ = some (.slice (some ⟨b,o,none⟩) C.length cp)∧V.cell? ⟨b,o+k * 3,none⟩ = some (.int .i64 kd)∧V.cell? ⟨b,o+k * 3+1,none⟩ = some (.int .i64 lt)∧V.cell? ⟨b,o+k * 3+2,none⟩ = some (.slice bb ip.length cc))) (by kernel_rfl) ?_ (fun hHeld=>?_))
    ·exact hS.out _ (Ext.refl wr).drew
    (refine takeL (i:=0) (v:=?_) rfl (by kernel_rfl) (by kernel_rfl) (by kernel_rfl) (fun _ _ _ h=>h) (Or.inl ⟨by rfl,?_⟩) (by assumption) ?_)
    rotate_left
    ·(intro w hSw;(try dsimp only at hSw);go_simp;first | done | with_reducible rfl)
    (try simp only [Act.put,List.setIfInBounds_toArray,List.set_cons_zero,List.set_cons_succ])
    (refine takeL (i:=1) (v:=?_) rfl (by kernel_rfl) (by kernel_rfl) (by kernel_rfl) (fun _ _ _ h=>h) (Or.inl ⟨by rfl,?_⟩) (by assumption) ?_)
    rotate_left
    ·(intro w hSw;(try dsimp only at hSw);go_simp;first | done | with_reducible rfl)
    (try simp only [Act.put,List.setIfInBounds_toArray,List.set_cons_zero,List.set_cons_succ])
    (refine takeL (i:=2) (v:=?_) rfl (by kernel_rfl) (by kernel_rfl) (by kernel_rfl) (fun _ _ _ h=>h) (Or.inl ⟨by rfl,?_⟩) (by assumption) ?_)
    rotate_left
    ·(intro w hSw;(try dsimp only at hSw);go_simp;first | done | with_reducible rfl)
    (try simp only [Act.put,List.setIfInBounds_toArray,List.set_cons_zero,List.set_cons_succ])
    (refine takeL (i:=3) (v:=?_) rfl (by kernel_rfl) (by kernel_rfl) (by kernel_rfl) (fun _ _ _ h=>h) (Or.inl ⟨by rfl,?_⟩) (by assumption) ?_)
    rotate_left
    ·(intro w hSw;(try dsimp only at hSw);go_simp;first | done | with_reducible rfl)
    (try simp only [Act.put,List.setIfInBounds_toArray,List.set_cons_zero,List.set_cons_succ])
    (refine takeL (i:=4) (v:=?_) rfl (by kernel_rfl) (by kernel_rfl) (by kernel_rfl) (fun _ _ _ h=>h) (Or.inl ⟨by rfl,?_⟩) (by assumption) ?_)
    rotate_left
    ·(intro w hSw;(try dsimp only at hSw);go_simp;first | done | with_reducible rfl)
    (try simp only [Act.put,List.setIfInBounds_toArray,List.set_cons_zero,List.set_cons_succ])
    (refine takeL (i:=5) (v:=?_) rfl (by kernel_rfl) (by kernel_rfl) (by kernel_rfl) (fun _ _ _ h=>h) (Or.inl ⟨by rfl,?_⟩) (by assumption) ?_)
    rotate_left
    ·(intro w hSw;(try dsimp only at hSw);go_simp;first | done | with_reducible rfl)
    (try simp only [Act.put,List.setIfInBounds_toArray,List.set_cons_zero,List.set_cons_succ])
    (refine takeL (i:=6) (v:=?_) rfl (by kernel_rfl) (by kernel_rfl) (by kernel_rfl) (fun _ _ _ h=>h) (Or.inl ⟨by rfl,?_⟩) (by assumption) ?_)
    rotate_left
    ·(intro w hSw;(try dsimp only at hSw);go_simp;first | done | with_reducible rfl)
    (try simp only [Act.put,List.setIfInBounds_toArray,List.set_cons_zero,List.set_cons_succ])
    (refine takeL (i:=7) (v:=?_) rfl (by kernel_rfl) (by kernel_rfl) (by kernel_rfl) (fun _ _ _ h=>h) (Or.inl ⟨by rfl,?_⟩) (by assumption) ?_)
    rotate_left
    ·(intro w hSw;(try dsimp only at hSw);go_simp;first | done | with_reducible rfl)
    (try simp only [Act.put,List.setIfInBounds_toArray,List.set_cons_zero,List.set_cons_succ])
    (refine wpAnyH_ready (rs:=[8]) (by kernel_rfl) (by simp) ?_)
    (refine consL rfl (fun K hK=>?_))
    ((rw [if_pos (by rfl)]);go_simp;refine (q.out _ (Ext.refl wr).drew).mono ?_;rintro e w3 ⟨rfl,hb3⟩;have hd3:=Lib.hid ((Ext.refl wr).drew.trans hb3);refine hK.out _ _ (hS.out _ hd3.out) (fun hHeld=>?_);clear hb3)
    (clear hK K)
    (try simp only [Act.put,List.setIfInBounds_toArray,List.set_cons_zero,List.set_cons_succ])
    (refine takeL (i:=9) (v:=?_) rfl (by kernel_rfl) (by kernel_rfl) (by kernel_rfl) (fun _ _ _ h=>h) (Or.inl ⟨by rfl,?_⟩) (by assumption) ?_)
    rotate_left
    ·(intro w hSw;(try dsimp only at hSw);go_simp;first | done | with_reducible rfl)
    (try simp only [Act.put,List.setIfInBounds_toArray,List.set_cons_zero,List.set_cons_succ])
    (refine wpAnyH_done (by kernel_rfl) ?_ _)
    clear hHeld
    go_wp2_with fail
    go_ret
    exact ⟨by rw [hr.out] <;> rfl,hx1.out.trans (hxr.out.trans hd3.out)⟩
   ·have hg3:=Lib.hid (hg2.out hok)
    rw [hok] at q
    replace q:=Lib.hid q
    clear hok
    go_wp2_with fail
    clear z1
    (refine wp_region_held_drew (S:=(fun V=>V.cell? ⟨w.heap.size,0,none⟩ = some (.int .i64 n)∧V.cell? ⟨w.heap.size,1,none⟩ = some (.slice (some ⟨b,o,none⟩) C.length cp)∧V.cell? ⟨b,o+k * 3,none⟩ = some (.int .i64 kd)∧V.cell? ⟨b,o+k * 3+1,none⟩ = some (.int .i64 lt)∧V.cell? ⟨b,o+k * 3+2,none⟩ = some (.slice bb ip.length cc))) (by kernel_rfl) ?_ (fun hHeld=>?_))
    ·exact hS.out _ (Ext.refl wr).drew
    (refine takeL (i:=0) (v:=?_) rfl (by kernel_rfl) (by kernel_rfl) (by kernel_rfl) (fun _ _ _ h=>h) (Or.inl ⟨by rfl,?_⟩) (by assumption) ?_)
    rotate_left
    ·(intro w hSw;(try dsimp only at hSw);go_simp;first | done | with_reducible rfl)
    (try simp only [Act.put,List.setIfInBounds_toArray,List.set_cons_zero,List.set_cons_succ])
    (refine takeL (i:=1) (v:=?_) rfl (by kernel_rfl) (by kernel_rfl) (by kernel_rfl) (fun _ _ _ h=>h) (Or.inl ⟨by rfl,?_⟩) (by assumption) ?_)
    rotate_left
    ·(intro w hSw;(try dsimp only at hSw);go_simp;first | done | with_reducible rfl)
    (try simp only [Act.put,List.setIfInBounds_toArray,List.set_cons_zero,List.set_cons_succ])
    (refine takeL (i:=2) (v:=?_) rfl (by kernel_rfl) (by kernel_rfl) (by kernel_rfl) (fun _ _ _ h=>h) (Or.inl ⟨by rfl,?_⟩) (by assumption) ?_)
    rotate_left
    ·(intro w hSw;(try dsimp only at hSw);go_simp;first | done | with_reducible rfl)
    (try simp only [Act.put,List.setIfInBounds_toArray,List.set_cons_zero,List.set_cons_succ])
    (refine takeL (i:=3) (v:=?_) rfl (by kernel_rfl) (by kernel_rfl) (by kernel_rfl) (fun _ _ _ h=>h) (Or.inl ⟨by rfl,?_⟩) (by assumption) ?_)
    rotate_left
    ·(intro w hSw;(try dsimp only at hSw);go_simp;first | done | with_reducible rfl)
    (try simp only [Act.put,List.setIfInBounds_toArray,List.set_cons_zero,List.set_cons_succ])
    (refine takeL (i:=4) (v:=?_) rfl (by kernel_rfl) (by kernel_rfl) (by kernel_rfl) (fun _ _ _ h=>h) (Or.inl ⟨by rfl,?_⟩) (by assumption) ?_)
    rotate_left
    ·(intro w hSw;(try dsimp only at hSw);go_simp;first | done | with_reducible rfl)
    (try simp only [Act.put,List.setIfInBounds_toArray,List.set_cons_zero,List.set_cons_succ])
    (refine takeL (i:=5) (v:=?_) rfl (by kernel_rfl) (by kernel_rfl) (by kernel_rfl) (fun _ _ _ h=>h) (Or.inl ⟨by rfl,?_⟩) (by assumption) ?_)
    rotate_left
    ·(intro w hSw;(try dsimp only at hSw);go_simp;first | done | with_reducible rfl)
    (try simp only [Act.put,List.setIfInBounds_toArray,List.set_cons_zero,List.set_cons_succ])
    (refine takeL (i:=6) (v:=?_) rfl (by kernel_rfl) (by kernel_rfl) (by kernel_rfl) (fun _ _ _ h=>h) (Or.inl ⟨by rfl,?_⟩) (by assumption) ?_)
    rotate_left
    ·(intro w hSw;(try dsimp only at hSw);go_simp;first | done | with_reducible rfl)
    (try simp only [Act.put,List.setIfInBounds_toArray,List.set_cons_zero,List.set_cons_succ])
    (refine takeL (i:=7) (v:=?_) rfl (by kernel_rfl) (by kernel_rfl) (by kernel_rfl) (fun _ _ _ h=>h) (Or.inl ⟨by rfl,?_⟩) (by assumption) ?_)
    rotate_left
    ·(intro w hSw;(try dsimp only at hSw);go_simp;first | done | with_reducible rfl)
    (try simp only [Act.put,List.setIfInBounds_toArray,List.set_cons_zero,List.set_cons_succ])
    (refine wpAnyH_ready (rs:=[8]) (by kernel_rfl) (by simp) ?_)
    (refine consL rfl (fun K hK=>?_))
    ((rw [if_pos (by rfl)]);go_simp;refine (q.out _ (Ext.refl wr).drew).mono ?_;rintro e w3 ⟨rfl,hb3⟩;have hd3:=Lib.hid ((Ext.refl wr).drew.trans hb3);refine hK.out _ _ (hS.out _ hd3.out) (fun hHeld=>?_);clear hb3)
    (clear hK K)
    (try simp only [Act.put,List.setIfInBounds_toArray,List.set_cons_zero,List.set_cons_succ])
    (refine takeL (i:=9) (v:=?_) rfl (by kernel_rfl) (by kernel_rfl) (by kernel_rfl) (fun _ _ _ h=>h) (Or.inl ⟨by rfl,?_⟩) (by assumption) ?_)
    rotate_left
    ·(intro w hSw;(try dsimp only at hSw);go_simp;first | done | with_reducible rfl)
    (try simp only [Act.put,List.setIfInBounds_toArray,List.set_cons_zero,List.set_cons_succ])
    (refine wpAnyH_done (by kernel_rfl) ?_ _)
    clear hHeld
    go_wp2_with fail
    have hx14:=Lib.hid (hxr.out.trans hd3.out)
    go_roundw
    case rel=>exact ⟨k+1,by omega,by go_num,hg3.out,hx14⟩
    case measure=>simp [intOf];omega
  ·obtain rfl:k = C.length:=by omega
   have dl:decide ((C.length:Int) < (C.length:Int)) = false:=decide_eq_false (by omega)
   have hr:=Lib.hid (hgood.out fun j hj=>hgd.out j hj hj)
   go_wp2_with fail
   go_ret
   exact ⟨by rw [hr.out] <;> rfl,hx1.out.trans hxr.out⟩
end Go.Proofs.YtckhohpbokojdaaGreatDoor
