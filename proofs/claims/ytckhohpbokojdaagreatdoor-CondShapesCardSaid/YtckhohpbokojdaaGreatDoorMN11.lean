import Derived.Test.YtckhohpbokojdaaGreatDoorMN10
set_option linter.unusedSimpArgs false
set_option linter.unusedVariables false
namespace Go.Proofs.YtckhohpbokojdaaGreatDoor
open Go Go.RowKit Go.Shelf
theorem newND_any {n:Int} {w:World} (hn:0≤n∧n≤128):Calls Tryz.prog 85 #[.int .i64 n] w fun e w'=>∃ bx,e = .returned (.tuple #[.pointer (some ⟨bx,0,none⟩),.int .i64 0])∧(∀ base',w.heap.size≤base'→NB w.heap.size base' bx n [] w')∧Below w.heap.size w w':=by
 have hmm:∀ w,(Instr.makeMap 110 none).run Tryz.prog w = .ok (.map (some w.heap.size)) (w.alloc (.map #[] 0)):=fun w=>rfl
 have d0:decide (n < 0) = false:=decide_eq_false (by omega)
 have d1:decide (n > 128) = false:=decide_eq_false (by omega)
 obtain ⟨e0,e1⟩:=alloc2h w (.map #[] 0) (.cells #[.int .i64 n,.slice none 0 0,.map (some w.heap.size)] 112)
 have hx:Ext w ((w.alloc (.map #[] 0)).alloc (.cells #[.int .i64 n,.slice none 0 0,.map (some w.heap.size)] 112)):=((Ext.refl w).alloc _).alloc _
 have hend:∀ base',w.heap.size≤base'→NB w.heap.size base' (w.heap.size+1) n [] ((w.alloc (.map #[] 0)).alloc (.cells #[.int .i64 n,.slice none 0 0,.map (some w.heap.size)] 112)):=fun base' hb'=>⟨w.heap.size,.slice none 0 0,[],e1,⟨rfl,.inl ⟨rfl,rfl⟩⟩,RowsOf.nil _ _,mapEmpty _ _ e0,by omega,Nat.le_refl _,hb'⟩
 replace hend:=Lib.hid hend
 replace hx:=Lib.hid hx
 clear e0 e1
 go_enter Tryz.func85,Tryz.ntmps85
 go_wp2_with fail
 go_ret2
 exact ⟨_,rfl,hend.out,hx.out.below⟩
set_option maxRecDepth 100000 in
set_option maxHeartbeats 4000000 in
theorem ncheck_any {n:Int} {C:List L.Gt} {v:Value} {w:World} (hv:SlC w v C) (h2:∀ g∈C,g.inp.length≤9223372036854775807) (h1:C.length≤9223372036854775807) :
  Calls Tryz.prog 35 #[.agg #[.int .i64 n,v]] w fun e w'=>e = .returned (.int .i64 (L.netChk n C))∧Ext w w':=by
 obtain ⟨ba,cp,rfl,hcs⟩:=hv.shape
 have hx1:Ext w (w.alloc (.cells #[.int .i64 n,.slice ba C.length cp] 24)):=(Ext.refl w).alloc _
 have hn1:=heap_alloc_new w (.cells #[.int .i64 n,.slice ba C.length cp] 24)
 have c0:(w.alloc (.cells #[.int .i64 n,.slice ba C.length cp] 24)).cell? ⟨w.heap.size,0,none⟩ = some (.int .i64 n):=by rw [World.cell?,hn1];rfl
 have c1:(w.alloc (.cells #[.int .i64 n,.slice ba C.length cp] 24)).cell? ⟨w.heap.size,1,none⟩ = some (.slice ba C.length cp):=by rw [World.cell?,hn1];rfl
 replace hx1:=Lib.hid hx1
 replace hcs:=Lib.hid hcs
 replace h2:=Lib.hid h2
 clear hv hn1
 by_cases hn0:n < 0
 ·have d0:decide (n < 0) = true:=decide_eq_true hn0
  have hr:L.netChk n C = 1:=by unfold L.netChk;rw [if_pos (.inl hn0)]
  rw [hr]
  clear hr hn0
  go_enter Tryz.func35,Tryz.ntmps35
  go_wp2_with fail
  go_ret
  exact ⟨rfl,hx1.out⟩
 have d0:decide (n < 0) = false:=decide_eq_false hn0
 by_cases hn1:n > 128
 ·have d1:decide (n > 128) = true:=decide_eq_true hn1
  have hr:L.netChk n C = 1:=by unfold L.netChk;rw [if_pos (.inr (.inl (by omega)))]
  rw [hr]
  clear hr hn0 hn1
  go_enter Tryz.func35,Tryz.ntmps35
  go_wp2_with fail
  go_ret
  exact ⟨rfl,hx1.out⟩
 have d1:decide (n > 128) = false:=decide_eq_false hn1
 by_cases hl0:(C.length:Int) < 1
 ·have d2:decide ((C.length:Int) < 1) = true:=decide_eq_true hl0
  have hr:L.netChk n C = 1:=by unfold L.netChk;rw [if_pos (.inr (.inr (.inl (by omega))))]
  rw [hr]
  clear hr hn0 hn1
  have hl1:C.length = 0:=by omega
  simp only [hl1] at *
  go_enter Tryz.func35,Tryz.ntmps35
  go_wp2_with fail
  go_ret
  exact ⟨rfl,hx1.out⟩
 have d2:decide ((C.length:Int) < 1) = false:=decide_eq_false hl0
 by_cases hl:(C.length:Int) > 65536
 ·have d3:decide ((C.length:Int) > 65536) = true:=decide_eq_true hl
  have hr:L.netChk n C = 1:=by unfold L.netChk;rw [if_pos (.inr (.inr (.inr (by omega))))]
  rw [hr]
  clear hr hn0 hn1
  go_enter Tryz.func35,Tryz.ntmps35
  go_wp2_with fail
  go_ret
  exact ⟨rfl,hx1.out⟩
 have d3:decide ((C.length:Int) > 65536) = false:=decide_eq_false hl
 have hpre:¬ (n < 0∨128 < n∨C.length < 1∨65536 < C.length):=by omega
 have hbad:∀ j (hj:j < C.length),L.fmOk n j C[j] = false→L.netChk n C = 1:=fun j hj hb=>by
  unfold L.netChk
  rw [if_neg hpre,if_neg]
  intro h
  have:=L.netScan_ok.1 h j hj
  rw [Nat.zero_add,hb] at this
  cases this
 have hgood:(∀ j (hj:j < C.length),L.fmOk n j C[j] = true)→L.netChk n C = 0:=fun h=>by
  unfold L.netChk
  rw [if_neg hpre,if_pos (L.netScan_ok.2 fun j hj=>by rw [Nat.zero_add];exact h j hj)]
 have hnr:0≤n∧n≤128:=by omega
 replace hbad:=Lib.hid hbad
 replace hgood:=Lib.hid hgood
 clear hpre hn0 hn1
 go_enter Tryz.func35,Tryz.ntmps35
 go_wp2_with fail
 generalize (w.alloc (.cells #[.int .i64 n,.slice ba C.length cp] 24)) = w1 at *
 clear d0 d1 d2 d3 hl0 hl
 go_loopw [28] (fun i wr=>∃ k:Nat,k≤C.length∧i = .int .i64 k∧(∀ j (hj:j < k) (hj2:j < C.length),L.fmOk n j C[j] = true)∧Hid (Ext w1 wr)) (fun i _=>C.length - (intOf i).toNat)
 case atStart=>exact ⟨0,Nat.zero_le _,rfl,(fun j hj=>by omega),Lib.hid (Ext.refl _)⟩
 case round =>
  obtain ⟨k,hk,rfl,hgd,hxr⟩:=hrel
  replace hgd:=Lib.hid hgd
  by_cases hlt:k < C.length
  ·have g0:(0:Int)≤(k:Int):=by omega
   have g1:(k:Int) < (C.length:Int):=by omega
   have hb1:=hbad.out k hlt
   obtain ⟨b,o,bb,cc,rfl,f0,f1,f2,fin⟩:=hcs.out k hlt
   have hxw:=hx1.out.trans hxr.out
   have r0:=(hxw.below.cell (World.block_lt_of_cell? w _ f0)).trans f0
   have r1:=(hxw.below.cell (World.block_lt_of_cell? w _ f1)).trans f1
   have r2:=(hxw.below.cell (World.block_lt_of_cell? w _ f2)).trans f2
   have fin2:=fin.ext hxw.below
   have hcl:=h2.out _ (List.getElem_mem hlt)
   have hg2:L.fmOk n k C[k] = true→∀ j (hj:j < k+1) (hj2:j < C.length),L.fmOk n j C[j] = true:=fun hok j hj hj2=>by
    by_cases e:j = k
    ·subst e;exact hok
    ·exact hgd.out j (by omega) hj2
   generalize C[k] = x at *
   obtain ⟨kd,lt,ip⟩:=x
   dsimp only at *
   have hxa:Ext wr (wr.alloc (.cells #[.int .i64 kd,.int .i64 lt,.slice bb ip.length cc] 40)):=(Ext.refl wr).alloc _
   have hna:=heap_alloc_new wr (.cells #[.int .i64 kd,.int .i64 lt,.slice bb ip.length cc] 40)
   have x0:(wr.alloc (.cells #[.int .i64 kd,.int .i64 lt,.slice bb ip.length cc] 40)).cell? ⟨wr.heap.size,0,none⟩ = some (.int .i64 kd):=by rw [World.cell?,hna];rfl
   have x1:(wr.alloc (.cells #[.int .i64 kd,.int .i64 lt,.slice bb ip.length cc] 40)).cell? ⟨wr.heap.size,1,none⟩ = some (.int .i64 lt):=by rw [World.cell?,hna];rfl
   have x2:(wr.alloc (.cells #[.int .i64 kd,.int .i64 lt,.slice bb ip.length cc] 40)).cell? ⟨wr.heap.size,2,none⟩ = some (.slice bb ip.length cc):=by rw [World.cell?,hna];rfl
   have b0:=(hxr.out.trans hxa).cell c0
   have q:=formed_any (kd:=kd) (lt:=lt) (bb:=bb) (cc:=cc) (ip:=ip) (i:=k) hnr (fin2.ext hxa.below) hcl
   replace hxa:=Lib.hid hxa
   replace hg2:=Lib.hid hg2
   replace hb1:=Lib.hid hb1
   clear f0 f1 f2 fin fin2 hna hxw
   cases hok:L.fmOk n k ⟨kd,lt,ip⟩
   ·have hr:=Lib.hid (hb1.out hok)
    rw [hok] at q
    clear hok
    go_wp2_with fail
    refine q.mono ?_
    rintro e w4 ⟨rfl,hx4⟩
    replace hx4:=Lib.hid hx4
    clear q
    go_wp2_with fail
    go_ret
    exact ⟨by rw [hr.out] <;> rfl,hx1.out.trans (hxr.out.trans (hxa.out.trans hx4.out))⟩
   ·have hg3:=Lib.hid (hg2.out hok)
    rw [hok] at q
    clear hok
    go_wp2_with fail
    refine q.mono ?_
    rintro e w4 ⟨rfl,hx4⟩
    have hx14:=Lib.hid (hxr.out.trans (hxa.out.trans hx4))
    clear q hx4
    go_wp2_with fail
    go_roundw
    case rel=>exact ⟨k+1,by omega,by go_num,hg3.out,hx14⟩
    case measure=>simp [intOf];omega
  ·obtain rfl:k = C.length:=by omega
   have hr:=Lib.hid (hgood.out fun j hj=>hgd.out j hj hj)
   go_wp2_with fail
   go_ret
   exact ⟨by rw [hr.out] <;> rfl,hx1.out.trans hxr.out⟩
end Go.Proofs.YtckhohpbokojdaaGreatDoor
