import Derived.Test.YtckhohpbokojdaaGreatDoorLQ9
set_option linter.unusedSimpArgs false
set_option linter.unusedVariables false
namespace Go.Proofs.YtckhohpbokojdaaGreatDoor
open Go Go.RowKit Go.Shelf
set_option maxRecDepth 100000 in
set_option maxHeartbeats 40000000 in
theorem rnet_any {fb lo base bx root:Nat} {n:Int} {bl:List L.ND} {W:World} (h:RB fb lo base bx n bl W) (hB:L.BOK n bl) (hr:root < bl.length) (hbl:bl.length≤60000) :
  Calls Tryz.prog 68 #[.pointer (some ⟨bx,0,none⟩),.int .i64 (root:Nat)] W fun e W'=>∃ vL us,e = .returned (.agg #[.int .i64 n,vL])∧W'.ownsRow (W.heap.size+2) 40 3 vL (L.netL bl root).length (gCells ((L.netL bl root).map L.ofND) us)∧RowsOf W' (W.heap.size+2) us ((L.netL bl root).map fun y=>castL y.inp)∧Below W.heap.size W W':=by
 obtain ⟨vL,us,h⟩:=h
 obtain ⟨na,ncp,rfl,hnd⟩:=h.nd
 obtain ⟨i0,hi0,hz0,hz1,hz2⟩:=info_parts int_info
 have hbox:∀ V,Below W.heap.size W V→V.cell? ⟨bx,0,none⟩ = some (.int .i64 n)∧V.cell? ⟨bx,1,none⟩ = some (.slice na bl.length ncp):=fun V hV=>by
  have f0:=(hV.block _ (Array.getElem?_eq_some_iff.1 h.1).1).trans h.1
  exact ⟨by rw [World.cell?,f0];rfl,by rw [World.cell?,f0];rfl⟩
 have hkids:=hB.kids
 have hin:∀ i,i < bl.length→(L.ndAt bl i).inp.length≤60000∧∀ k∈(L.ndAt bl i).inp,k < i:=fun i hi=>by
  rw [L.ndAt_lt hi]
  have:=L.bok_inp hB hi
  exact ⟨by omega,hkids i hi⟩
 have hmkb:∀ w,(Instr.makeSlice 69 (.int .i64 (bl.length:Nat)) (.int .i64 (bl.length:Nat))).run Tryz.prog w = .ok (.slice (some ⟨w.heap.size,0,none⟩) bl.length bl.length) (w.alloc (.cells (madeCells #[.bool false] bl.length) 4)):=fun w=>make_row (by_:=1) Tryz.underlying69 (show (Tryz.prog.info? 4).map (fun i=>(i.zero,i.size,i.bytes)) = some (some (.bool false),1,1) by kernel_rfl) rfl bl.length (by omega) (by omega) w
 have hmki:∀ w,(Instr.makeSlice 25 (.int .i64 (bl.length:Nat)) (.int .i64 (bl.length:Nat))).run Tryz.prog w = .ok (.slice (some ⟨w.heap.size,0,none⟩) bl.length bl.length) (w.alloc (.cells (madeCells #[.int .i64 0] bl.length) 3)):=fun w=>make_row (by_:=8) Tryz.underlying25 int_info rfl bl.length (by omega) (by omega) w
 have hbA:Below W.heap.size W (W.alloc (.cells #[.int .i64 0,.slice none 0 0] 24)):=(Below.refl _ W).alloc (Nat.le_refl _) _
 have hbB:Below W.heap.size W ((W.alloc (.cells #[.int .i64 0,.slice none 0 0] 24)).alloc (.cells (madeCells #[.bool false] bl.length) 4)):=hbA.alloc (by simp) _
 have hrow:RowF ((W.alloc (.cells #[.int .i64 0,.slice none 0 0] 24)).alloc (.cells (madeCells #[.bool false] bl.length) 4)) (W.heap.size+1) 4 bl.length (fun _=>.bool false):=rowNew (W.alloc (.cells #[.int .i64 0,.slice none 0 0] 24)) bl.length _ _ (W.heap.size+1) (by simp)
 have hz0':=(hrow.cell (j:=root) (by omega)).1
 have hz1':=(hrow.cell (j:=root) (by omega)).2
 have hres:((W.alloc (.cells #[.int .i64 0,.slice none 0 0] 24)).alloc (.cells (madeCells #[.bool false] bl.length) 4)).heap[W.heap.size]? = some (.cells #[.int .i64 0,.slice none 0 0] 24 (0,0)):=(((Ext.refl (W.alloc (.cells #[.int .i64 0,.slice none 0 0] 24))).alloc _).below.block _ (by simp)).trans (heap_alloc_new W _)
 have hI0:Hid (UseI W bl.length (fun k=>decide (k = root)) (((W.alloc (.cells #[.int .i64 0,.slice none 0 0] 24)).alloc (.cells (madeCells #[.bool false] bl.length) 4)).setCell ⟨W.heap.size+1,root,none⟩ (.bool true))):=Lib.hid ⟨hbB.setCell (p:=⟨W.heap.size+1,root,none⟩) (Nat.le_succ _) _,(hrow.set root _).congr fun j _=>by
  unfold putF useV
  by_cases h:j = root <;> simp [h],(Below.heap_setCell _ _ _ _ (show W.heap.size≠W.heap.size+1 by omega)).trans hres⟩
 rw [show (((W.alloc (.cells #[.int .i64 0,.slice none 0 0] 24)).alloc (.cells (madeCells #[.bool false] bl.length) 4)).setCell ⟨W.heap.size+1,root,none⟩ (.bool true)) = ((W.alloc (.cells #[.int .i64 0,.slice none 0 0] 24)).alloc (.cells ((madeCells #[.bool false] bl.length).setIfInBounds root (.bool true)) 4)) from World.setCell_alloc_at _ _ (W.heap.size+1) root _ (by simp)] at hI0
 obtain ⟨c0,c1⟩:=hbox _ hbA
 have hU:L.useF bl root = L.marksF bl (root+1) fun k=>decide (k = root):=rfl
 obtain ⟨U,hUe⟩:∃ U,U = L.useF bl root:=⟨_,rfl⟩
 have hnl:L.netL bl root = (L.netF bl U (root+1)).1:=by rw [hUe];rfl
 rw [hnl]
 rw [←hUe] at hU
 have g0:(0:Int)≤(root:Int):=by omega
 have g1:(root:Int) < (bl.length:Int):=by omega
 replace h:=Lib.hid h
 replace hnd:=Lib.hid hnd
 replace hbox:=Lib.hid hbox
 replace hin:=Lib.hid hin
 replace hU:=Lib.hid hU
 replace hr:=Lib.hid hr
 clear hkids hrow hres hbA hbB hnl hUe hB
 go_enter Tryz.func68,Tryz.ntmps68
 go_wp2_with fail
 generalize ((W.alloc (.cells #[.int .i64 0,.slice none 0 0] 24)).alloc (.cells ((madeCells #[.bool false] bl.length).setIfInBounds root (.bool true)) 4)) = W1 at *
 clear hz0' hz1' c0 c1
 go_loopw [6] (fun i wr=>∃ (z:Int) (u:Nat→Bool),(-1≤z∧z≤(root:Int))∧i = .int .i64 z∧Hid (U = L.marksF bl (z+1).toNat u)∧Hid (UseI W bl.length u wr)) (fun i _=>(intOf i+1).toNat)
 case atStart=>exact ⟨root,_,by omega,rfl,Lib.hid (by rw [show ((root:Int)+1).toNat = root+1 by omega];exact hU.out),hI0⟩
 case round =>
  clear hI0
  obtain ⟨z,u,hz,rfl,hus,hI⟩:=hrel
  by_cases hz0:0≤z
  ·obtain ⟨k,rfl⟩:∃ k:Nat,z = (k:Int):=⟨z.toNat,by omega⟩
   have dk:decide ((k:Int)≥0) = true:=decide_eq_true (by omega)
   have hro:=hr.out
   have hk:k < bl.length:=by omega
   have q0:(0:Int)≤(k:Int):=by omega
   have q1:(k:Int) < (bl.length:Int):=by omega
   obtain ⟨g',o',bb,cc,ev,-,-,f2,fsl⟩:=hnd.out k hk
   obtain ⟨hil,hik⟩:=hin.out k hk
   have hstep:U = L.marksF bl k (if u k = true then fun c=>u c || decide (c∈(L.ndAt bl k).inp) else u):=by
    have:=hus.out
    rwa [show ((k:Int)+1).toNat = k+1 by omega] at this
   obtain ⟨_,_,e,hip⟩:=slI_castN fsl
   generalize (L.ndAt bl k).inp = ip at *
   simp only [Value.slice.injEq] at e
   obtain ⟨rfl,-,rfl⟩:=e
   subst ev
   have hzz:Hid (((k:Int) - 1+1).toNat = k):=Lib.hid (by omega)
   replace hip:=Lib.hid hip
   replace hik:=Lib.hid hik
   replace hro:=Lib.hid hro
   replace fsl:=Lib.hid fsl
   have f2:=Lib.hid fun V (hV:Below W.heap.size W V)=>(hV.cell (World.block_lt_of_cell? W _ f2)).trans f2
   clear hus
   cases huk:u k with
   | false =>
     rw [huk,if_neg (by decide)] at hstep
     have hus3:Hid (U = L.marksF bl ((k:Int) - 1+1).toNat u):=Lib.hid (by rw [hzz.out];exact hstep)
     replace hstep:=Lib.hid hstep
     have y0:=(hI.out.2.1.cell hk).1
     unfold useV at y0
     rw [huk] at y0
     replace huk:=Lib.hid huk
     have c1:=(hbox.out _ hI.out.1).2
     have f2w:=f2.out _ hI.out.1
     go_wp2_with fail
     go_loopw [7] (fun i wr'=>i = .int .i64 0∧wr' = wr) (fun _ _=>0)
     case atStart=>exact ⟨rfl,rfl⟩
     case round =>
      obtain ⟨rfl,rfl⟩:=hrel
      by_cases hl0:0 < ip.length
      ·have dl:decide ((0:Int) < (ip.length:Int)) = true:=decide_eq_true (by omega)
       go_wp2_with fail
       go_roundw
       case rel=>exact ⟨(k:Int) - 1,u,by omega,by go_num,hus3,hI⟩
       case measure=>simp [intOf] <;> omega
      ·have dl:decide ((0:Int) < (ip.length:Int)) = false:=decide_eq_false (by omega)
       go_wp2_with fail
       go_roundw
       case rel=>exact ⟨(k:Int) - 1,u,by omega,by go_num,hus3,hI⟩
       case measure=>simp [intOf] <;> omega
   | true =>
     rw [huk,if_pos rfl,←useJ_all] at hstep
     have hus3:Hid (U = L.marksF bl ((k:Int) - 1+1).toNat (useJ u ip ip.length)):=Lib.hid (by rw [hzz.out];exact hstep)
     replace hstep:=Lib.hid hstep
     replace huk:=Lib.hid huk
     go_wp2_with fail
     go_loopw [7] (fun i wr=>∃ j:Nat,j≤ip.length∧i = .int .i64 (j:Nat)∧Hid (UseI W bl.length (useJ u ip j) wr)) (fun i _=>ip.length - (intOf i).toNat)
     case atStart=>exact ⟨0,Nat.zero_le _,rfl,by rw [useJ_zero];exact hI⟩
     case round =>
      clear hI
      obtain ⟨j,hj,rfl,hJ⟩:=hrel
      have c1:=(hbox.out _ hJ.out.1).2
      have f2w:=f2.out _ hJ.out.1
      by_cases hlt:j < ip.length
      ·have p0:(0:Int)≤(j:Int):=by omega
       have p1:(j:Int) < (ip.length:Int):=by omega
       have dj:decide ((j:Int) < (ip.length:Int)) = true:=decide_eq_true p1
       obtain ⟨b,o2,rfl,hbl0,x0⟩:=hip.out j hlt
       have x1:=(hJ.out.1.cell hbl0).trans x0
       have hck:=hik.out _ (List.getElem_mem hlt)
       have y0:=(hJ.out.2.1.cell hk).1
       unfold useV at y0
       rw [useJ_old huk.out] at y0
       have hnx:=Lib.hid (hJ.out.set (useJ_set (u:=u) hlt))
       clear x0
       generalize ip[j] = c at *
       have yf:=(hJ.out.2.1.cell (j:=c) (by omega)).2
       have y1:=(hJ.out.2.1.cell (j:=c) (by omega)).1
       unfold useV at y1
       have m0:(0:Int)≤(c:Int):=by omega
       have m1:(c:Int) < (bl.length:Int):=by omega
       go_wp2_with fail
       go_roundw
       case rel=>exact ⟨j+1,by omega,by go_num,hnx⟩
       case measure=>simp [intOf];omega
      ·obtain rfl:j = ip.length:=by omega
       have dj:decide ((ip.length:Int) < (ip.length:Int)) = false:=decide_eq_false (by omega)
       go_wp2_with fail
       go_roundw
       case rel=>exact ⟨(k:Int) - 1,useJ u ip ip.length,by omega,by go_num,hus3,hJ⟩
       case measure=>simp [intOf] <;> omega
  ·obtain rfl:z = -1:=by omega
   obtain rfl:U = u:=hus.out
   clear hus hz hz0
   obtain ⟨hIb,hIr,hIz⟩:=hI.out
   obtain ⟨c0,c1⟩:=hbox.out _ hIb
   obtain ⟨c0',c1'⟩:=hbox.out (wr.alloc (.cells #[.int .i64 n,.slice none 0 0] 24)) (hIb.alloc hIb.size _)
   have hlow:W.heap.size+2≤wr.heap.size:=by have:=hIr.lt;omega
   have hj0:Hid (NetR W n bl.length wr.heap.size (wr.heap.size+1) (wr.heap.size+2) U (L.netF bl U 0).2 (.slice none 0 0) (L.netF bl U 0).1 [] ((wr.alloc (.cells #[.int .i64 n,.slice none 0 0] 24)).alloc (.cells (madeCells #[.int .i64 0] bl.length) 3))):=Lib.hid (by
    have hx:=((Ext.refl wr).alloc (.cells #[.int .i64 n,.slice none 0 0] 24)).alloc (.cells (madeCells #[.int .i64 0] bl.length) 3)
    obtain ⟨e0,-⟩:=alloc2h wr (.cells #[.int .i64 n,.slice none 0 0] 24) (.cells (madeCells #[.int .i64 0] bl.length) 3)
    exact ⟨hIb.trans (hx.below.mono hIb.size),hIr.ext hx,(rowNew (wr.alloc (.cells #[.int .i64 n,.slice none 0 0] 24)) bl.length _ _ (wr.heap.size+1) (by simp)).congr fun _ _=>rfl,(hx.below.block _ (Array.getElem?_eq_some_iff.1 hIz).1).trans hIz,e0,⟨rfl,.inl ⟨rfl,rfl⟩⟩,RowsOf.nil _ _,by omega,by simp⟩)
   clear hIb hIr hIz hI
   go_wp2_with fail
   generalize hob:wr.heap.size = ob at *
   generalize hw2:((wr.alloc (.cells #[.int .i64 n,.slice none 0 0] 24)).alloc (.cells (madeCells #[.int .i64 0] bl.length) 3)) = W2 at *
   clear c0 c1 c0' c1' hw2 hmkb hmki
   generalize ob+1 = ga at *
   generalize ob+2 = b0 at *
   clear hob
   go_loopw [10] (fun i wr=>∃ (i':Nat) (vO:Value) (us':List Value),i'≤root+1∧i = .int .i64 (i':Nat)∧Hid (NetR W n bl.length ob ga b0 U (L.netF bl U i').2 vO (L.netF bl U i').1 us' wr)) (fun i _=>root+1 - (intOf i).toNat)
   case atStart=>exact ⟨0,_,_,Nat.zero_le _,rfl,hj0⟩
   case round =>
    clear hj0
    obtain ⟨i,vO,us',hi,rfl,hJ⟩:=hrel
    by_cases hlt:i≤root
    ·have di:decide ((i:Int)≤(root:Int)) = true:=decide_eq_true (by omega)
     have hib:i < bl.length:=by have:=hr.out;omega
     have q0:(0:Int)≤(i:Int):=by omega
     have q2:(i:Int) < (bl.length:Int):=by omega
     obtain ⟨y0,-⟩:=hJ.out.2.1.cell hib
     unfold useV at y0
     cases hu:U i with
     | false =>
       rw [hu] at y0
       have hno:=netF_no (bl:=bl) hu
       have hnx:Hid (NetR W n bl.length ob ga b0 U (L.netF bl U (i+1)).2 vO (L.netF bl U (i+1)).1 us' wr):=Lib.hid (by rw [hno];exact hJ.out)
       replace hno:=Lib.hid hno
       replace hu:=Lib.hid hu
       go_wp2_with fail
       go_roundw
       case rel=>exact ⟨i+1,_,_,by omega,by go_num,hnx⟩
       case measure=>simp [intOf];omega
     | true =>
       rw [hu] at y0
       obtain ⟨hy1,hy2⟩:=netF_yes (bl:=bl) hu
       obtain ⟨F,hF⟩:∃ F,F = (L.netF bl U i).2:=⟨_,rfl⟩
       obtain ⟨O,hO⟩:∃ O,O = (L.netF bl U i).1:=⟨_,rfl⟩
       rw [←hF,←hO] at hJ hy1
       rw [←hF,←hO] at hy2
       replace hu:=Lib.hid hu
       replace hF:=Lib.hid hF
       replace hO:=Lib.hid hO
       replace hy1:=Lib.hid hy1
       replace hy2:=Lib.hid hy2
       obtain ⟨g',o',bb,cc,ev,f0,f1,f2,fsl⟩:=hnd.out i hib
       obtain ⟨hil,hik⟩:=hin.out i hib
       obtain ⟨cp',hcp⟩:∃ cp',cp' = ncp:=⟨_,rfl⟩
       obtain ⟨_,_,e,hip⟩:=slI_castN fsl
       generalize (L.ndAt bl i).kind = kd at *
       generalize (L.ndAt bl i).lit = lt at *
       generalize (L.ndAt bl i).inp = ip at *
       simp only [Value.slice.injEq] at e
       obtain ⟨rfl,-,rfl⟩:=e
       subst ev
       rw [←hcp] at hbox
       rename World=>wr
       have kp:∀ V,Below wr.heap.size wr V→∀ {a:Addr} {v:Value},W.cell? a = some v→V.cell? a = some v:=fun V hV {a v} e=>((hJ.out.1.trans (hV.mono hJ.out.1.size)).cell (World.block_lt_of_cell? W _ e)).trans e
       have hS:∀ V,Below wr.heap.size wr V→V.cell? ⟨bx,1,none⟩ = some (.slice (some ⟨g',o',none⟩) bl.length cp')∧V.cell? ⟨g',o'+i * 3,none⟩ = some (.int .i64 kd)∧V.cell? ⟨g',o'+i * 3+1,none⟩ = some (.int .i64 lt):=fun V hV=>⟨(hbox.out V (hJ.out.1.trans (hV.mono hJ.out.1.size))).2,kp V hV f0,kp V hV f1⟩
       have hf2:=Lib.hid fun V (hV:Below wr.heap.size wr V)=>And.intro (kp V hV f2) (hbox.out V (hJ.out.1.trans (hV.mono hJ.out.1.size))).2
       have hE:=Lib.hid ((Below.refl wr.heap.size wr).drew)
       obtain ⟨k3,k0,k1⟩:=hS wr.drew hE.out
       have hip2:Hid (∀ V,Below wr.heap.size wr V→∀ (j:Nat) (hj:j < ip.length),∃ b o,bb = some ⟨b,o,none⟩∧V.cell? ⟨b,o+j,none⟩ = some (.int .i64 ((ip[j]:Nat):Int))):=Lib.hid fun V hV j hj=>by
        obtain ⟨b,o,e,hb,hc⟩:=hip j hj
        exact ⟨b,o,e,kp V hV hc⟩
       replace hS:=Lib.hid hS
       replace hip:=Lib.hid hip
       replace fsl:=Lib.hid fsl
       replace hcp:=Lib.hid hcp
       replace hik:=Lib.hid hik
       clear f0 f1 f2 kp
       go_wp2_with fail
       clear y0
       (refine wp_region_held_drew (S:=(fun V=>V.cell? ⟨bx,1,none⟩ = some (.slice (some ⟨g',o',none⟩) bl.length cp')∧V.cell? ⟨g',o'+i * 3,none⟩ = some (.int .i64 kd)∧V.cell? ⟨g',o'+i * 3+1,none⟩ = some (.int .i64 lt))) (by kernel_rfl) ?_ (fun hHeld=>?_))
       ·exact hS.out _ hE.out
       (refine takeL (i:=0) (v:=?_) rfl (by kernel_rfl) (by kernel_rfl) (by kernel_rfl) (fun _ _ _ h=>h) (Or.inl ⟨by rfl,?_⟩) (by assumption) ?_)
       rotate_left
       ·(intro w hSw;(try dsimp only at hSw);go_simp;first | done | with_reducible rfl)
       (try simp only [Act.put,List.setIfInBounds_toArray,List.set_cons_zero,List.set_cons_succ])
       (refine takeL (i:=1) (v:=?_) rfl (by kernel_rfl) (by kernel_rfl) (by kernel_rfl) (fun _ _ _ h=>h) (Or.inl ⟨by rfl,?_⟩) (by assumption) ?_)
       rotate_left
       ·(intro w hSw;(try dsimp only at hSw);go_simp;first | done | with_reducible rfl)
       (try simp only [Act.put,List.setIfInBounds_toArray,List.set_cons_zero,List.set_cons_succ])
       (refine takeL (i:=2) (v:=?_) rfl (by kernel_rfl) (by kernel_rfl) (by kernel_rfl) (fun _ _ _ h=>h) (Or.inl ⟨by rfl,?_⟩) (by assumption) ?_)
       rotate_left
       ·(intro w hSw;(try dsimp only at hSw);go_simp;first | done | with_reducible rfl)
       (try simp only [Act.put,List.setIfInBounds_toArray,List.set_cons_zero,List.set_cons_succ])
       (refine takeL (i:=3) (v:=?_) rfl (by kernel_rfl) (by kernel_rfl) (by kernel_rfl) (fun _ _ _ h=>h) (Or.inl ⟨by rfl,?_⟩) (by assumption) ?_)
       rotate_left
       ·(intro w hSw;(try dsimp only at hSw);go_simp;first | done | with_reducible rfl)
       (try simp only [Act.put,List.setIfInBounds_toArray,List.set_cons_zero,List.set_cons_succ])
       (refine takeL (i:=4) (v:=?_) rfl (by kernel_rfl) (by kernel_rfl) (by kernel_rfl) (fun _ _ _ h=>h) (Or.inl ⟨by rfl,?_⟩) (by assumption) ?_)
       rotate_left
       ·(intro w hSw;(try dsimp only at hSw);go_simp;first | done | with_reducible rfl)
       (try simp only [Act.put,List.setIfInBounds_toArray,List.set_cons_zero,List.set_cons_succ])
       (refine takeL (i:=5) (v:=?_) rfl (by kernel_rfl) (by kernel_rfl) (by kernel_rfl) (fun _ _ _ h=>h) (Or.inl ⟨by rfl,?_⟩) (by assumption) ?_)
       rotate_left
       ·(intro w hSw;(try dsimp only at hSw);go_simp;first | done | with_reducible rfl)
       (try simp only [Act.put,List.setIfInBounds_toArray,List.set_cons_zero,List.set_cons_succ])
       (refine takeL (i:=6) (v:=?_) rfl (by kernel_rfl) (by kernel_rfl) (by kernel_rfl) (fun _ _ _ h=>h) (Or.inl ⟨by rfl,?_⟩) (by assumption) ?_)
       rotate_left
       ·(intro w hSw;(try dsimp only at hSw);go_simp;first | done | with_reducible rfl)
       (try simp only [Act.put,List.setIfInBounds_toArray,List.set_cons_zero,List.set_cons_succ])
       (refine takeL (i:=7) (v:=?_) rfl (by kernel_rfl) (by kernel_rfl) (by kernel_rfl) (fun _ _ _ h=>h) (Or.inl ⟨by rfl,?_⟩) (by assumption) ?_)
       rotate_left
       ·(intro w hSw;(try dsimp only at hSw);go_simp;first | done | with_reducible rfl)
       (try simp only [Act.put,List.setIfInBounds_toArray,List.set_cons_zero,List.set_cons_succ])
       (refine takeL (i:=8) (v:=?_) rfl (by kernel_rfl) (by kernel_rfl) (by kernel_rfl) (fun _ _ _ h=>h) (Or.inl ⟨by rfl,?_⟩) (by assumption) ?_)
       rotate_left
       ·(intro w hSw;(try dsimp only at hSw);go_simp;first | done | with_reducible rfl)
       (try simp only [Act.put,List.setIfInBounds_toArray,List.set_cons_zero,List.set_cons_succ])
       (refine takeL (i:=9) (v:=?_) rfl (by kernel_rfl) (by kernel_rfl) (by kernel_rfl) (fun _ _ _ h=>h) (Or.inl ⟨by rfl,?_⟩) (by assumption) ?_)
       rotate_left
       ·(intro w hSw;(try dsimp only at hSw);go_simp;first | done | with_reducible rfl)
       (try simp only [Act.put,List.setIfInBounds_toArray,List.set_cons_zero,List.set_cons_succ])
       (refine takeL (i:=10) (v:=?_) rfl (by kernel_rfl) (by kernel_rfl) (by kernel_rfl) (fun _ _ _ h=>h) (Or.inl ⟨by rfl,?_⟩) (by assumption) ?_)
       rotate_left
       ·(intro w hSw;(try dsimp only at hSw);go_simp;first | done | with_reducible rfl)
       (try simp only [Act.put,List.setIfInBounds_toArray,List.set_cons_zero,List.set_cons_succ])
       (refine takeL (i:=11) (v:=?_) rfl (by kernel_rfl) (by kernel_rfl) (by kernel_rfl) (fun _ _ _ h=>h) (Or.inl ⟨by rfl,?_⟩) (by assumption) ?_)
       rotate_left
       ·(intro w hSw;(try dsimp only at hSw);go_simp;first | done | with_reducible rfl)
       (try simp only [Act.put,List.setIfInBounds_toArray,List.set_cons_zero,List.set_cons_succ])
       (refine takeL (i:=12) (v:=?_) rfl (by kernel_rfl) (by kernel_rfl) (by kernel_rfl) (fun _ _ _ h=>h) (Or.inl ⟨by rfl,?_⟩) (by assumption) ?_)
       rotate_left
       ·(intro w hSw;(try dsimp only at hSw);go_simp;first | done | with_reducible rfl)
       (try simp only [Act.put,List.setIfInBounds_toArray,List.set_cons_zero,List.set_cons_succ])
       (refine takeL (i:=13) (v:=?_) rfl (by kernel_rfl) (by kernel_rfl) (by kernel_rfl) (fun _ _ _ h=>h) (Or.inl ⟨by rfl,?_⟩) (by assumption) ?_)
       rotate_left
       ·(intro w hSw;(try dsimp only at hSw);go_simp;first | done | with_reducible rfl)
       (try simp only [Act.put,List.setIfInBounds_toArray,List.set_cons_zero,List.set_cons_succ])
       (refine takeL (i:=14) (v:=?_) rfl (by kernel_rfl) (by kernel_rfl) (by kernel_rfl) (fun _ _ _ h=>h) (Or.inl ⟨by rfl,?_⟩) (by assumption) ?_)
       rotate_left
       ·(intro w hSw;(try dsimp only at hSw);go_simp;first | done | with_reducible rfl)
       (try simp only [Act.put,List.setIfInBounds_toArray,List.set_cons_zero,List.set_cons_succ])
       (refine takeL (i:=15) (v:=?_) rfl (by kernel_rfl) (by kernel_rfl) (by kernel_rfl) (fun _ _ _ h=>h) (Or.inl ⟨by rfl,?_⟩) (by assumption) ?_)
       rotate_left
       ·(intro w hSw;(try dsimp only at hSw);go_simp;first | done | with_reducible rfl)
       (try simp only [Act.put,List.setIfInBounds_toArray,List.set_cons_zero,List.set_cons_succ])
       (refine takeL (i:=16) (v:=?_) rfl (by kernel_rfl) (by kernel_rfl) (by kernel_rfl) (fun _ _ _ h=>h) (Or.inl ⟨by rfl,?_⟩) (by assumption) ?_)
       rotate_left
       ·(intro w hSw;(try dsimp only at hSw);go_simp;first | done | with_reducible rfl)
       (try simp only [Act.put,List.setIfInBounds_toArray,List.set_cons_zero,List.set_cons_succ])
       clear k0 k1 k3
       generalize wr.drew = wd at *
       (refine wpAnyH_ready (rs:=[17]) (by kernel_rfl) (by simp) ?_)
       (refine consL rfl (fun K hK=>?_))
       ((rw [if_pos (by rfl)]);go_simp;obtain ⟨xb,wv,hx',hW,hE2,hobxb,hoblxb,hbv⟩:=belAllocQ hE.out (.cells #[.int .i64 0,.int .i64 0,.slice none 0 0] 40);rw [←hW,←hx'];replace hE:=Lib.hid hE2;replace hx':=Lib.hid hx';replace hW:=Lib.hid hW;refine hK.out _ _ (hS.out _ hE.out) (fun hHeld=>?_);clear hE2 hbv)
       (clear hK K)
       (try simp only [Act.put,List.setIfInBounds_toArray,List.set_cons_zero,List.set_cons_succ])
       obtain ⟨⟨z0,z1,z2⟩,y0,y1,y2⟩:=bx3q hobxb
       obtain ⟨hF1,hF2⟩:=store3q (a0:=.int .i64 kd) (a1:=.int .i64 lt) (a2:=.slice none 0 0) hE.out hoblxb hobxb
       have hXs:=Lib.hid (XIn.start hF1 hF2 hoblxb)
       replace hF1:=Lib.hid hF1
       replace hF2:=Lib.hid hF2
       replace hobxb:=Lib.hid hobxb
       (refine wpAnyH_ready (rs:=[18]) (by kernel_rfl) (by simp) ?_)
       (refine consL rfl (fun K hK=>?_))
       ((rw [if_pos (by rfl)]);go_simp;refine hK.out _ _ (hS.out _ hF1.out) (fun hHeld=>?_))
       (clear hK K)
       (try simp only [Act.put,List.setIfInBounds_toArray,List.set_cons_zero,List.set_cons_succ])
       (refine wpAnyH_done (by kernel_rfl) ?_ _)
       clear z0 z1 z2 y0 y1 y2 hHeld hF1 hF2 hW hobxb hx'
       go_wp2_with fail
       generalize wr = wo at *
       generalize (((wv.setCell ⟨xb,0,none⟩ (.int .i64 kd)).setCell ⟨xb,1,none⟩ (.int .i64 lt)).setCell ⟨xb,2,none⟩ (.slice none 0 0)) = w4 at *
       clear hE
       go_loopw [12] (fun j' wr=>∃ (j:Nat) (vx:Value),j≤ip.length∧j' = .int .i64 (j:Nat)∧Hid (XIn wo xb kd lt ((ip.take j).map F) vx wr)) (fun j' _=>ip.length - (intOf j').toNat)
       case atStart=>exact ⟨0,_,Nat.zero_le _,rfl,hXs⟩
       case round =>
        clear hXs
        obtain ⟨j,vx,hj,rfl,hM⟩:=hrel
        obtain ⟨f2w,c1w⟩:=hf2.out _ hM.out.1
        by_cases hjl:j < ip.length
        ·have p0:(0:Int)≤(j:Int):=by omega
         have p1:(j:Int) < (ip.length:Int):=by omega
         have dj:decide ((j:Int) < (ip.length:Int)) = true:=decide_eq_true p1
         obtain ⟨lj,hlj0⟩:∃ lj,lj = (ip.take j).map F:=⟨_,rfl⟩
         have hlj:Hid (lj.length = j):=Lib.hid (by rw [hlj0,List.length_map,List.length_take];omega)
         have hck:=hik.out _ (List.getElem_mem hjl)
         have hnl:(ip.take (j+1)).map F = lj++[F ip[j]]:=by rw [List.take_succ_eq_append_getElem hjl,List.map_append,hlj0];rfl
         rw [←hlj0] at hM
         replace hlj0:=Lib.hid hlj0
         have hip3:=fun V hV=>hip2.out V hV j hjl
         obtain ⟨b,o2,hbb,-⟩:=hip3 wo (Below.refl _ _)
         have hx0:∀ V,Below wo.heap.size wo V→V.cell? ⟨b,o2+j,none⟩ = some (.int .i64 ((ip[j]:Nat):Int)):=fun V hV=>by
          obtain ⟨b',o',e,h⟩:=hip3 V hV
          rw [hbb] at e
          simp only [Option.some.injEq,Addr.mk.injEq] at e
          rw [e.1,e.2.1];exact h
         clear hip3
         generalize ip[j] = c at *
         obtain ⟨fc,hfc⟩:∃ fc,fc = F c:=⟨_,rfl⟩
         rw [←hfc] at hnl
         subst hbb
         obtain ⟨vb,vc,hvx⟩:=hM.out.shape
         rw [hlj.out] at hvx
         subst hvx
         have hS:∀ V,XIn wo xb kd lt lj (.slice vb j vc) V→V.cell? ⟨xb,2,none⟩ = some (.slice vb j vc)∧V.cell? ⟨bx,1,none⟩ = some (.slice (some ⟨g',o',none⟩) bl.length cp')∧V.cell? ⟨g',o'+i * 3+2,none⟩ = some (.slice (some ⟨b,o2,none⟩) ip.length cc)∧V.cell? ⟨b,o2+j,none⟩ = some (.int .i64 (c:Nat))∧V.cell? ⟨ga,c,none⟩ = some (.int .i64 (fc:Nat)):=fun V hV=>by
          obtain ⟨a1,a2⟩:=hf2.out V hV.1
          have a3:=((hJ.out.next hV.1).2.2.1.cell (j:=c) (by omega)).1
          unfold idxV at a3
          rw [←hfc] at a3
          exact ⟨(bx3q hV.2.1).1.2.2,a2,a1,hx0 V hV.1,a3⟩
         have hS2:∀ V,Below wo.heap.size wo V→V.heap[xb]? = some (.cells #[.int .i64 kd,.int .i64 lt,.slice vb j vc] 40 (0,0))→V.cell? ⟨xb,2,none⟩ = some (.slice vb j vc)∧V.cell? ⟨bx,1,none⟩ = some (.slice (some ⟨g',o',none⟩) bl.length cp')∧V.cell? ⟨g',o'+i * 3+2,none⟩ = some (.slice (some ⟨b,o2,none⟩) ip.length cc)∧V.cell? ⟨b,o2+j,none⟩ = some (.int .i64 (c:Nat))∧V.cell? ⟨ga,c,none⟩ = some (.int .i64 (fc:Nat)):=fun V hV hx=>by
          obtain ⟨a1,a2⟩:=hf2.out V hV
          have a3:=((hJ.out.next hV).2.2.1.cell (j:=c) (by omega)).1
          unfold idxV at a3
          rw [←hfc] at a3
          exact ⟨(bx3q hx).1.2.2,a2,a1,hx0 V hV,a3⟩
         have hMd:=Lib.hid (hM.out.next (Below.refl wr.heap.size wr).drew)
         obtain ⟨x2,-,f2j,x0,-⟩:=hS _ hMd.out
         have m0:(0:Int)≤(c:Int):=by omega
         have m1:(c:Int) < (bl.length:Int):=by omega
         replace hS:=Lib.hid hS
         replace hS2:=Lib.hid hS2
         replace hfc:=Lib.hid hfc
         replace hnl:=Lib.hid hnl
         replace hx0:=Lib.hid hx0
         go_wp2_with fail
         clear f2w c1w
         (refine wp_region_z (S:=(fun V=>V.cell? ⟨xb,2,none⟩ = some (.slice vb j vc)∧V.cell? ⟨bx,1,none⟩ = some (.slice (some ⟨g',o',none⟩) bl.length cp')∧V.cell? ⟨g',o'+i * 3+2,none⟩ = some (.slice (some ⟨b,o2,none⟩) ip.length cc)∧V.cell? ⟨b,o2+j,none⟩ = some (.int .i64 (c:Nat))∧V.cell? ⟨ga,c,none⟩ = some (.int .i64 (fc:Nat)))) 19 (by kernel_rfl) ?_ (fun hHeld=>?_))
         ·exact hS.out _ hMd.out
         clear x2 f2j x0
         (refine wpZ_take (i:=0) (v:=?_) rfl (by kernel_rfl) (by decide) (by kernel_rfl) (by kernel_rfl) (by kernel_rfl) (fun _ _ _ h=>h) (Or.inl ⟨by rfl,?_⟩) (by assumption) ?_)
         rotate_left
         ·(intro w hSw;(try dsimp only at hSw);skip;go_simp;first | done | with_reducible rfl)
         (try simp only [Act.put,List.setIfInBounds_toArray,List.set_cons_zero,List.set_cons_succ])
         (refine wpZ_take (i:=1) (v:=?_) rfl (by kernel_rfl) (by decide) (by kernel_rfl) (by kernel_rfl) (by kernel_rfl) (fun _ _ _ h=>h) (Or.inl ⟨by rfl,?_⟩) (by assumption) ?_)
         rotate_left
         ·(intro w hSw;(try dsimp only at hSw);obtain ⟨s0,s1,s2,s3,s4⟩:=hSw;go_simp;first | done | with_reducible rfl)
         (try simp only [Act.put,List.setIfInBounds_toArray,List.set_cons_zero,List.set_cons_succ])
         (refine wpZ_take (i:=2) (v:=?_) rfl (by kernel_rfl) (by decide) (by kernel_rfl) (by kernel_rfl) (by kernel_rfl) (fun _ _ _ h=>h) (Or.inl ⟨by rfl,?_⟩) (by assumption) ?_)
         rotate_left
         ·(intro w hSw;(try dsimp only at hSw);skip;go_simp;first | done | with_reducible rfl)
         (try simp only [Act.put,List.setIfInBounds_toArray,List.set_cons_zero,List.set_cons_succ])
         (refine wpZ_take (i:=3) (v:=?_) rfl (by kernel_rfl) (by decide) (by kernel_rfl) (by kernel_rfl) (by kernel_rfl) (fun _ _ _ h=>h) (Or.inl ⟨by rfl,?_⟩) (by assumption) ?_)
         rotate_left
         ·(intro w hSw;(try dsimp only at hSw);skip;go_simp;first | done | with_reducible rfl)
         (try simp only [Act.put,List.setIfInBounds_toArray,List.set_cons_zero,List.set_cons_succ])
         (refine wpZ_take (i:=4) (v:=?_) rfl (by kernel_rfl) (by decide) (by kernel_rfl) (by kernel_rfl) (by kernel_rfl) (fun _ _ _ h=>h) (Or.inl ⟨by rfl,?_⟩) (by assumption) ?_)
         rotate_left
         ·(intro w hSw;(try dsimp only at hSw);skip;go_simp;first | done | with_reducible rfl)
         (try simp only [Act.put,List.setIfInBounds_toArray,List.set_cons_zero,List.set_cons_succ])
         (refine wpZ_take (i:=5) (v:=?_) rfl (by kernel_rfl) (by decide) (by kernel_rfl) (by kernel_rfl) (by kernel_rfl) (fun _ _ _ h=>h) (Or.inl ⟨by rfl,?_⟩) (by assumption) ?_)
         rotate_left
         ·(intro w hSw;(try dsimp only at hSw);skip;go_simp;first | done | with_reducible rfl)
         (try simp only [Act.put,List.setIfInBounds_toArray,List.set_cons_zero,List.set_cons_succ])
         (refine wpZ_take (i:=6) (v:=?_) rfl (by kernel_rfl) (by decide) (by kernel_rfl) (by kernel_rfl) (by kernel_rfl) (fun _ _ _ h=>h) (Or.inl ⟨by rfl,?_⟩) (by assumption) ?_)
         rotate_left
         ·(intro w hSw;(try dsimp only at hSw);obtain ⟨s0,s1,s2,s3,s4⟩:=hSw;go_simp;first | done | with_reducible rfl)
         (try simp only [Act.put,List.setIfInBounds_toArray,List.set_cons_zero,List.set_cons_succ])
         (refine wpZ_take (i:=7) (v:=?_) rfl (by kernel_rfl) (by decide) (by kernel_rfl) (by kernel_rfl) (by kernel_rfl) (fun _ _ _ h=>h) (Or.inl ⟨by rfl,?_⟩) (by assumption) ?_)
         rotate_left
         ·(intro w hSw;(try dsimp only at hSw);skip;go_simp;first | done | with_reducible rfl)
         (try simp only [Act.put,List.setIfInBounds_toArray,List.set_cons_zero,List.set_cons_succ])
         (refine wpZ_take (i:=8) (v:=?_) rfl (by kernel_rfl) (by decide) (by kernel_rfl) (by kernel_rfl) (by kernel_rfl) (fun _ _ _ h=>h) (Or.inl ⟨by rfl,?_⟩) (by assumption) ?_)
         rotate_left
         ·(intro w hSw;(try dsimp only at hSw);skip;go_simp;first | done | with_reducible rfl)
         (try simp only [Act.put,List.setIfInBounds_toArray,List.set_cons_zero,List.set_cons_succ])
         (refine wpZ_take (i:=9) (v:=?_) rfl (by kernel_rfl) (by decide) (by kernel_rfl) (by kernel_rfl) (by kernel_rfl) (fun _ _ _ h=>h) (Or.inl ⟨by rfl,?_⟩) (by assumption) ?_)
         rotate_left
         ·(intro w hSw;(try dsimp only at hSw);skip;go_simp;first | done | with_reducible rfl)
         (try simp only [Act.put,List.setIfInBounds_toArray,List.set_cons_zero,List.set_cons_succ])
         (refine wpZ_take (i:=10) (v:=?_) rfl (by kernel_rfl) (by decide) (by kernel_rfl) (by kernel_rfl) (by kernel_rfl) (fun _ _ _ h=>h) (Or.inl ⟨by rfl,?_⟩) (by assumption) ?_)
         rotate_left
         ·(intro w hSw;(try dsimp only at hSw);obtain ⟨s0,s1,s2,s3,s4⟩:=hSw;go_simp;first | done | with_reducible rfl)
         (try simp only [Act.put,List.setIfInBounds_toArray,List.set_cons_zero,List.set_cons_succ])
         (refine wpZ_take (i:=11) (v:=?_) rfl (by kernel_rfl) (by decide) (by kernel_rfl) (by kernel_rfl) (by kernel_rfl) (fun _ _ _ h=>h) (Or.inl ⟨by rfl,?_⟩) (by assumption) ?_)
         rotate_left
         ·(intro w hSw;(try dsimp only at hSw);skip;go_simp;first | done | with_reducible rfl)
         (try simp only [Act.put,List.setIfInBounds_toArray,List.set_cons_zero,List.set_cons_succ])
         (refine wpZ_take (i:=12) (v:=?_) rfl (by kernel_rfl) (by decide) (by kernel_rfl) (by kernel_rfl) (by kernel_rfl) (fun _ _ _ h=>h) (Or.inl ⟨by rfl,?_⟩) (by assumption) ?_)
         rotate_left
         ·(intro w hSw;(try dsimp only at hSw);skip;go_simp;first | done | with_reducible rfl)
         (try simp only [Act.put,List.setIfInBounds_toArray,List.set_cons_zero,List.set_cons_succ])
         (refine wpZ_take (i:=13) (v:=?_) rfl (by kernel_rfl) (by decide) (by kernel_rfl) (by kernel_rfl) (by kernel_rfl) (fun _ _ _ h=>h) (Or.inl ⟨by rfl,?_⟩) (by assumption) ?_)
         rotate_left
         ·(intro w hSw;(try dsimp only at hSw);obtain ⟨s0,s1,s2,s3,s4⟩:=hSw;go_simp;first | done | with_reducible rfl)
         (try simp only [Act.put,List.setIfInBounds_toArray,List.set_cons_zero,List.set_cons_succ])
         (refine wpZ_take (i:=14) (v:=?_) rfl (by kernel_rfl) (by decide) (by kernel_rfl) (by kernel_rfl) (by kernel_rfl) (fun _ _ _ h=>h) (Or.inl ⟨by rfl,?_⟩) (by assumption) ?_)
         rotate_left
         ·(intro w hSw;(try dsimp only at hSw);skip;go_simp;first | done | with_reducible rfl)
         (try simp only [Act.put,List.setIfInBounds_toArray,List.set_cons_zero,List.set_cons_succ])
         (refine wpZ_take (i:=15) (v:=?_) rfl (by kernel_rfl) (by decide) (by kernel_rfl) (by kernel_rfl) (by kernel_rfl) (fun _ _ _ h=>h) (Or.inl ⟨by rfl,?_⟩) (by assumption) ?_)
         rotate_left
         ·(intro w hSw;(try dsimp only at hSw);obtain ⟨s0,s1,s2,s3,s4⟩:=hSw;go_simp;first | done | with_reducible rfl)
         (try simp only [Act.put,List.setIfInBounds_toArray,List.set_cons_zero,List.set_cons_succ])
         generalize hwd:wr.drew = wd at *
         clear hwd
         have hMa:=Lib.hid (hMd.out.next ((Below.refl _ wd).alloc (Nat.le_refl _) (.cells #[.int .i64 (fc:Nat)] 3)))
         (refine wpZ_one (i:=16) (by kernel_rfl) rfl (fun K hK=>?_))
         ((rw [if_pos (by rfl)]);go_simp;refine hK.out _ _ (hS.out _ hMa.out) (fun hHeld=>?_))
         (clear hK K)
         (try simp only [Act.put,List.setIfInBounds_toArray,List.set_cons_zero,List.set_cons_succ])
         clear hHeld
         (refine wpZ_one (i:=17) (by kernel_rfl) rfl (fun K hK=>?_))
         (rw [if_pos (by rfl)])
         refine wp_append_own _ _ _ 25 rfl wo.heap.size 3 i0 (.int .i64 0) 1 8 Tryz.underlying25 hi0 hz0 hz1 hz2 rfl (by decide) (.slice vb j vc) j ((castL lj).map encZ) rfl (by have:=hMa.out.2.2.1;rwa [hlj.out] at this) ⟨wd.heap.size,0,none⟩ 1 1 [.int .i64 (fc:Nat)] rfl rfl (cell_one_at _ _ _ _ rfl) (by simp [Value.oneCell']) (by unfold maxLen;omega) (by omega) hMa.out.1.size (fun v6 w6 ho6 hg6 _=>?_)
         obtain ⟨hb6,h26,hM6⟩:=hMd.out.push (x:=fc) (by rw [hlj.out];exact ho6) hg6
         obtain ⟨g6,c6,rfl⟩:∃ g c,v6 = .slice (some ⟨g,0,none⟩) (j+1) c:=by
          obtain ⟨_,⟨_,e⟩ | ⟨g,cap,cur,h,_⟩⟩:=ho6
          ·omega
          ·exact ⟨g,cap,h⟩
         have y2:w6.frozen? ⟨xb,2,none⟩ = false:=by simp [World.frozen?,h26]
         have hS6:=Lib.hid (hS2.out w6 hb6 h26)
         replace hb6:=Lib.hid hb6
         replace h26:=Lib.hid h26
         replace hM6:=Lib.hid hM6
         refine hK.out _ _ hS6.out (fun hHeld=>?_)
         clear hK K ho6 hg6
         (try simp only [Act.put,List.setIfInBounds_toArray,List.set_cons_zero,List.set_cons_succ])
         (refine wpZ_take (i:=18) (v:=?_) rfl (by kernel_rfl) (by decide) (by kernel_rfl) (by kernel_rfl) (by kernel_rfl) (fun _ _ _ h=>h) (Or.inl ⟨by rfl,?_⟩) (by assumption) ?_)
         rotate_left
         ·(intro w hSw;(try dsimp only at hSw);skip;go_simp;first | done | with_reducible rfl)
         (try simp only [Act.put,List.setIfInBounds_toArray,List.set_cons_zero,List.set_cons_succ])
         clear hHeld
         have z6:w6.cell? ⟨xb,2,none⟩ = some (.slice vb j vc):=hS6.out.1
         (refine wpZ_last (by kernel_rfl) rfl (by kernel_rfl) (fun K hK=>?_))
         ((rw [if_pos (by rfl)]);go_simp;refine hK.out _ _ ?_)
         (clear hK K)
         (try simp only [Act.put,List.setIfInBounds_toArray,List.set_cons_zero,List.set_cons_succ])
         go_wp2_with fail
         go_roundw
         case rel=>exact ⟨j+1,_,by omega,by go_num,by rw [hnl.out];exact hM6⟩
         case measure=>simp [intOf];omega
        ·obtain rfl:j = ip.length:=by omega
         have dj:decide ((ip.length:Int) < (ip.length:Int)) = false:=decide_eq_false (by omega)
         rw [List.take_length] at hM
         obtain ⟨hMb,hMx,hMo,-⟩:=hM.out
         have hJ5:=hJ.out.next hMb
         have hbo:b0≤wo.heap.size:=hJ.out.2.2.2.2.2.2.2.2
         obtain ⟨b4,c4,rfl⟩:=hM.out.shape
         have hml:((ip.map F).length) = ip.length:=List.length_map ..
         rw [hml] at hMo hMx
         have hMo5:=own_weak hMo hbo
         obtain ⟨n0,n1,bO,cO,rfl⟩:=hJ5.cells
         obtain ⟨-,yf⟩:=hJ5.2.2.1.cell hib
         have hyc:=(hJ5.2.2.1.cell hib).1
         have hJ6:=hJ5.setAt (i:=i) (x:=O.length) (F':=(L.netF bl U (i+1)).2) (by intro k;have:=hy2.out k;exact this)
         have hbt:ga < b0:=hJ.out.2.2.2.2.2.2.2.1.2.2.2
         have hMo6:=ownsRow_setCell_below hMo5 (a:=⟨ga,i,none⟩) hbt (.int .i64 (O.length:Nat))
         obtain ⟨sc,s1,-⟩:=id hJ5.2.2.1
         have hMx6:(wr.setCell ⟨ga,i,none⟩ (.int .i64 (O.length:Nat))).heap[xb]? = some (.cells #[.int .i64 kd,.int .i64 lt,.slice b4 ip.length c4] 40 (0,0)):=(Below.heap_setCell _ _ _ _ (ne_type hMx s1 (by decide))).trans hMx
         obtain ⟨⟨x0,x1,x2⟩,-⟩:=bx3q hMx6
         obtain ⟨-,n1',-⟩:=hJ6.cells
         replace hJ5:=Lib.hid hJ5
         replace hJ6:=Lib.hid hJ6
         replace hMo6:=Lib.hid hMo6
         replace hMo:=Lib.hid hMo
         clear hMb hMx hMo5 hMx6 hM s1
         obtain ⟨iv,hiv,hzv,hsv,hbv⟩:=info_parts nd_info
         have hOl:O.length≤60000:=by have:=netF_len bl U i;rw [←hO.out] at this;omega
         have hx7:=(Ext.refl (wr.setCell ⟨ga,i,none⟩ (.int .i64 (O.length:Nat)))).alloc (.cells #[.int .i64 kd,.int .i64 lt,.slice b4 ip.length c4] 40)
         have hn7:=heap_alloc_new (wr.setCell ⟨ga,i,none⟩ (.int .i64 (O.length:Nat))) (.cells #[.int .i64 kd,.int .i64 lt,.slice b4 ip.length c4] 40)
         rw [show (wr.setCell ⟨ga,i,none⟩ (.int .i64 (O.length:Nat))).heap.size = wr.heap.size from by simp [World.setCell]] at hn7
         have hca:=World.news_of_block (cs:=#[.int .i64 kd,.int .i64 lt,.slice b4 ip.length c4]) (t:=40) (fr:=(0,0)) hn7
         clear hn7
         have hJ7:=hJ6.out.next hx7.below
         have hMo7:=ownsRow_keep hMo6.out (fun g c h=>hx7.below.block g (Array.getElem?_eq_some_iff.1 h).1)
         have hpush:=Lib.hid fun v6 w6 ho hg=>hJ7.push (kd:=kd) (lt:=lt) (ip:=ip.map F) (m:=ip.length) (b4:=b4) (c4:=c4) (v6:=v6) (w6:=w6) (by simp) hMo7 ho hg
         replace hJ7:=Lib.hid hJ7
         replace hca:=Lib.hid hca
         have n7:=hx7.cell n1'
         have hsz7:b0≤((wr.setCell ⟨ga,i,none⟩ (.int .i64 (O.length:Nat))).alloc (.cells #[.int .i64 kd,.int .i64 lt,.slice b4 ip.length c4] 40)).heap.size:=hJ7.out.2.2.2.2.2.2.2.2
         clear hx7 hMo7 hMo6 hJ6
         go_wp2_with (at_builtin;refine wpList_append_own _ rfl _ _ 22 rfl b0 40 iv _ 3 40 Tryz.underlying22 hiv hzv hsv hbv rfl (by decide) _ O.length (gCells (O.map L.ofND) us') rfl hJ7.out.2.2.2.2.2.1 ⟨wr.heap.size,0,none⟩ 1 1 [.int .i64 kd,.int .i64 lt,.slice b4 ip.length c4] rfl rfl hca.out (by simp [Value.oneCell']) (by unfold maxLen;omega) (by omega) hsz7 ?_;intro v6 w6 ho6 hg6 _;obtain ⟨⟨g6,cp6,rfl⟩,n6,nf6,hJ8⟩:=hpush.out _ _ ho6 hg6;replace hJ8:Hid (NetR W n bl.length ob ga b0 U (L.netF bl U (i+1)).2 _ (L.netF bl U (i+1)).1 _ _):=Lib.hid (by rw [hy1.out];exact hJ8);clear ho6 hg6)
         go_roundw
         case rel=>exact ⟨i+1,_,_,by omega,by go_num,hJ8⟩
         case measure=>simp [intOf];omega
    ·obtain rfl:i = root+1:=by omega
     have di:decide (((root+1:Nat):Int)≤(root:Int)) = false:=decide_eq_false (by omega)
     obtain ⟨n0,n1,bO,cO,rfl⟩:=hJ.out.cells
     obtain ⟨hB9,-,-,hz,-,ho9,hR9,hord,-⟩:=hJ.out
     have hb02:W.heap.size+2≤b0:=by omega
     obtain ⟨O,hO⟩:∃ O,O = (L.netF bl U (root+1)).1:=⟨_,rfl⟩
     rw [←hO] at n1 ho9 hR9
     have z0:wr.cell? ⟨W.heap.size,0,none⟩ = some (.int .i64 0):=by rw [World.cell?,hz];rfl
     have z1:wr.cell? ⟨W.heap.size,1,none⟩ = some (.slice none 0 0):=by rw [World.cell?,hz];rfl
     have y0:wr.frozen? ⟨W.heap.size,0,none⟩ = false:=by simp [World.frozen?,hz]
     have y1:wr.frozen? ⟨W.heap.size,1,none⟩ = false:=by simp [World.frozen?,hz]
     obtain ⟨r0,r1⟩:=box2_set hz (.int .i64 n) (.slice bO O.length cO)
     have hlt2:W.heap.size < b0:=by omega
     have hfin:=Lib.hid (And.intro (own_weak (ownsRow_setCell_below (ownsRow_setCell_below ho9 (a:=⟨W.heap.size,0,none⟩) hlt2 (.int .i64 n)) (a:=⟨W.heap.size,1,none⟩) hlt2 (.slice bO O.length cO)) hb02) (And.intro (((hR9.setLow (a:=⟨W.heap.size,0,none⟩) hlt2 (.int .i64 n)).setLow (a:=⟨W.heap.size,1,none⟩) hlt2 (.slice bO O.length cO)).weak hb02) ((hB9.setCell (p:=⟨W.heap.size,0,none⟩) (Nat.le_refl _) (.int .i64 n)).setCell (p:=⟨W.heap.size,1,none⟩) (Nat.le_refl _) (.slice bO O.length cO))))
     replace r0:=Lib.hid r0
     replace r1:=Lib.hid r1
     replace hO:=Lib.hid hO
     clear hz ho9 hR9 hB9 hJ hord hlt2 hb02
     go_wp2_with fail
     have hOo:=hO.out
     subst hOo
     exact bodyPost_ret (v:=.agg #[.int .i64 n,.slice bO (L.netF bl U (root+1)).1.length cO]) (by simp [results,Tryz.results68,go_sem,r0.out,r1.out]) rfl ⟨_,us',rfl,hfin.out.1,hfin.out.2.1,hfin.out.2.2⟩
end Go.Proofs.YtckhohpbokojdaaGreatDoor
