import Derived.Test.YtckhohpbokojdaaGreatDoorMN26
import Derived.Test.YtckhohpbokojdaaGreatDoorMN13
set_option linter.unusedSimpArgs false
set_option linter.unusedVariables false
namespace Go.Proofs.YtckhohpbokojdaaGreatDoor
open Go Go.RowKit Go.Shelf
def NetI (W:World) (R:Nat) (u:Nat→Bool) (V:World):Prop:=Below W.heap.size W V∧RowF V (W.heap.size+1) 3 R (mkV u)∧V.heap[W.heap.size]? = some (.cells #[.int .i64 0,.slice none 0 0] 24 (0,0))
theorem NetI.set {W V:World} {R i:Nat} {u u':Nat→Bool} {v:Value} (h:NetI W R u V) (hu:∀ k,putF (mkV u) i v k = mkV u' k):NetI W R u' (V.setCell ⟨W.heap.size+1,i,none⟩ v).drew :=
 ⟨(h.1.trans ((Below.refl _ V).drew)).setCell (p:=⟨W.heap.size+1,i,none⟩) (Nat.le_succ _) _,(RowF.set (w:=V.drew) (h.2.1.same rfl) i v).congr fun j _=>hu j,(Below.heap_setCell _ _ _ _ (show W.heap.size≠W.heap.size+1 by omega)).trans h.2.2⟩
theorem or_bits2 (x y:Bool):bits BinOp.or IntKind.i64 (if x then 1 else 0) (if y then 1 else 0) = if (x || y) then 1 else 0:=by
 cases x <;> cases y <;> rfl
theorem run_slice_to {root R bln cp g o:Nat} (hR:R = root+1) (h:R≤cp) (w:World):(Instr.slice 22 (.slice (some ⟨g,o,none⟩) bln cp) none (some (.int .i64 ((root:Int)+1))) none).run Tryz.prog w = .ok (.slice (some ⟨g,o,none⟩) R cp) w:=by
 have e:((root:Int)+1).toNat = R:=by omega
 have h1:(root:Int)+1≤(cp:Int):=by omega
 have h0:(0:Int)≤(root:Int)+1:=by omega
 obtain ⟨iv,hiv,hzv,hsv,hbv⟩:=info_parts nd_info
 have q:=run_slice_h (P:=Tryz.prog) (w:=w) (t:=22) (a:=some ⟨g,o,none⟩) (len:=bln) (cap:=cp) (by kernel_rfl) .i64 ((root:Int)+1) h0 h1
 rw [q,e]
 simp [go_sem,sliced]
set_option maxRecDepth 100000 in
set_option maxHeartbeats 40000000 in
theorem bnet_any {lo base bx root:Nat} {n:Int} {bl:List L.ND} {W:World} (h:NB lo base bx n bl W) (hB:L.BOK n bl) (hr:root < bl.length) (hbl:bl.length≤60000) :
  Calls Tryz.prog 87 #[.pointer (some ⟨bx,0,none⟩),.int .i64 (root:Nat)] W fun e W'=>∃ vL us,e = .returned (.tuple #[.agg #[.int .i64 n,vL],.int .i64 0])∧W'.ownsRow (W.heap.size+2) 40 3 vL (L.netL bl root).length (gCells ((L.netL bl root).map L.ofND) us)∧RowsOf W' (W.heap.size+2) us ((L.netL bl root).map fun y=>castL y.inp)∧Below W.heap.size W W':=by
 obtain ⟨pm,vL,us,hN⟩:=h
 obtain ⟨g,o,cp,_,_,rfl,_⟩:=hN.node hr
 have hcap:bl.length≤cp:=by
  obtain ⟨_,⟨h,_⟩ | ⟨g',cap',cur,h,_,_,hn,_⟩⟩:=hN.2.1
  ·cases h
  ·cases h;exact hn
 obtain ⟨R,hR⟩:∃ R,R = root+1:=⟨_,rfl⟩
 have hkids:=hB.kids
 have hin:∀ i,i < bl.length→(L.ndAt bl i).inp.length≤60000∧∀ k∈(L.ndAt bl i).inp,k < i:=fun i hi=>by
  rw [L.ndAt_lt hi]
  have:=L.bok_inp hB hi
  exact ⟨by omega,hkids i hi⟩
 have hmq:∀ w,(binOp BinOp.eql 110 (.map (some pm)) (.map none)).run Tryz.prog w = .ok (.bool false) w:=fun w=>by have e:(Op.equalIn Op.maxDepth 110 (.map (some pm)) (.map none)).run Tryz.prog w = .ok (some pm).isNone w:=run_equalIn_map_nil (P:=Tryz.prog) w (Op.maxDepth - 1) 110 _ _ (some pm) Tryz.underlying110;simp only [binOp,Op.equal,Sem.run_bind,Sem.run_map];(try simp [go_sem]);rw [e];rfl
 have hmk:∀ w,(Instr.makeSlice 25 (.int .i64 ((root:Int)+1)) (.int .i64 ((root:Int)+1))).run Tryz.prog w = .ok (.slice (some ⟨w.heap.size,0,none⟩) R R) (w.alloc (.cells (madeCells #[.int .i64 0] R) 3)):=fun w=>by
  have:=make_row (by_:=8) Tryz.underlying25 int_info rfl R (by omega) (by omega) w
  have e:((R:Nat):Int) = (root:Int)+1:=by omega
  rw [e] at this
  exact this
 have hsl:=fun w=>run_slice_to (bln:=bl.length) (g:=g) (o:=o) hR (show R≤cp by omega) w
 have hbA:Below W.heap.size W (W.alloc (.cells #[.int .i64 0,.slice none 0 0] 24)):=(Below.refl _ W).alloc (Nat.le_refl _) _
 have hbB:Below W.heap.size W ((W.alloc (.cells #[.int .i64 0,.slice none 0 0] 24)).alloc (.cells (madeCells #[.int .i64 0] R) 3)):=hbA.alloc (by simp) _
 have hrow:RowF ((W.alloc (.cells #[.int .i64 0,.slice none 0 0] 24)).alloc (.cells (madeCells #[.int .i64 0] R) 3)) (W.heap.size+1) 3 R (fun _=>.int .i64 0):=rowNew (W.alloc (.cells #[.int .i64 0,.slice none 0 0] 24)) R _ _ (W.heap.size+1) (by simp)
 have hz0:=(hrow.cell (j:=root) (by omega)).1
 have hz1:=(hrow.cell (j:=root) (by omega)).2
 have hres:((W.alloc (.cells #[.int .i64 0,.slice none 0 0] 24)).alloc (.cells (madeCells #[.int .i64 0] R) 3)).heap[W.heap.size]? = some (.cells #[.int .i64 0,.slice none 0 0] 24 (0,0)):=(((Ext.refl (W.alloc (.cells #[.int .i64 0,.slice none 0 0] 24))).alloc _).below.block _ (by simp)).trans (heap_alloc_new W _)
 have hI0:Hid (NetI W R (fun k=>decide (k = root)) (((W.alloc (.cells #[.int .i64 0,.slice none 0 0] 24)).alloc (.cells (madeCells #[.int .i64 0] R) 3)).setCell ⟨W.heap.size+1,root,none⟩ (.int .i64 1))):=Lib.hid ⟨hbB.setCell (p:=⟨W.heap.size+1,root,none⟩) (Nat.le_succ _) _,(hrow.set root _).congr fun j _=>by
  unfold putF mkV
  by_cases h:j = root <;> simp [h],(Below.heap_setCell _ _ _ _ (show W.heap.size≠W.heap.size+1 by omega)).trans hres⟩
 rw [show (((W.alloc (.cells #[.int .i64 0,.slice none 0 0] 24)).alloc (.cells (madeCells #[.int .i64 0] R) 3)).setCell ⟨W.heap.size+1,root,none⟩ (.int .i64 1)) = ((W.alloc (.cells #[.int .i64 0,.slice none 0 0] 24)).alloc (.cells ((madeCells #[.int .i64 0] R).setIfInBounds root (.int .i64 1)) 3)) from World.setCell_alloc_at _ _ (W.heap.size+1) root _ (by simp)] at hI0
 obtain ⟨c0,c1,c2⟩:=(hN.next hbA).cells
 have hU:L.useF bl root = L.marksF bl (root+1) fun k=>decide (k = root):=rfl
 obtain ⟨U,hUe⟩:∃ U,U = L.useF bl root:=⟨_,rfl⟩
 have hnl:L.netL bl root = (L.netF bl U (root+1)).1:=by rw [hUe];rfl
 rw [hnl,←hR]
 rw [←hUe] at hU
 have g0:(0:Int)≤(root:Int):=by omega
 have g1:(root:Int) < (R:Int):=by omega
 have d0:decide ((root:Int) < 0) = false:=decide_eq_false (by omega)
 have d1:decide ((root:Int)≥(bl.length:Int)) = false:=decide_eq_false (by omega)
 have d2:decide (bl.length≤root) = false:=decide_eq_false (by omega)
 replace hN:=Lib.hid hN
 replace hin:=Lib.hid hin
 replace hU:=Lib.hid hU
 replace hR:=Lib.hid hR
 replace hcap:=Lib.hid hcap
 clear hkids hrow hres hbA hbB hnl hUe hB
 go_enter Tryz.func87,Tryz.ntmps87
 go_wp2_with fail
 generalize ((W.alloc (.cells #[.int .i64 0,.slice none 0 0] 24)).alloc (.cells ((madeCells #[.int .i64 0] R).setIfInBounds root (.int .i64 1)) 3)) = W1 at *
 clear hz0 hz1 c0 c1 c2 d0 d1 d2
 go_loopw [7] (fun i wr=>∃ (z:Int) (u:Nat→Bool),(-1≤z∧z≤(root:Int))∧i = .int .i64 z∧Hid (U = L.marksF bl (z+1).toNat u)∧Hid (NetI W R u wr)) (fun i _=>(intOf i+1).toNat)
 case atStart=>exact ⟨root,_,by omega,rfl,Lib.hid (by rw [show ((root:Int)+1).toNat = root+1 by omega];exact hU.out),hI0⟩
 case round =>
  clear hI0
  obtain ⟨z,u,hz,rfl,hus,hI⟩:=hrel
  by_cases hz0:0≤z
  ·obtain ⟨k,rfl⟩:∃ k:Nat,z = (k:Int):=⟨z.toNat,by omega⟩
   have dk:decide ((k:Int)≥0) = true:=decide_eq_true (by omega)
   have hRo:=hR.out
   have hk:k < bl.length:=by omega
   have hkR:k < R:=by omega
   have q0:(0:Int)≤(k:Int):=by omega
   have q1:(k:Int) < (bl.length:Int):=by omega
   have q2:(k:Int) < (R:Int):=by omega
   obtain ⟨g',o',cp',bb,cc,ev,-,-,f2,fo⟩:=hN.out.node hk
   cases ev
   have f2w:=(hI.out.1.cell (World.block_lt_of_cell? W _ f2)).trans f2
   obtain ⟨hil,hik⟩:=hin.out k hk
   have hus2:U = L.marksF bl k (mkU u k (L.ndAt bl k).inp (L.ndAt bl k).inp.length):=by
    rw [←mkU_all]
    have:=hus.out
    rwa [show ((k:Int)+1).toNat = k+1 by omega] at this
   have hsI:=owns_slI (l:=castL (L.ndAt bl k).inp) (by rw [castL_len];exact fo)
   generalize (L.ndAt bl k).inp = ip at *
   have hip:∀ j (hj:j < ip.length),∃ b o,bb = some ⟨b,o,none⟩∧W.cell? ⟨b,o+j,none⟩ = some (.int .i64 (ip[j]:Nat)):=fun j hj=>by
    obtain ⟨b,o,h1,h2⟩:=slI_cell hsI (k:=j) (by rw [castL_len];exact hj)
    rw [castL_at _ hj] at h2
    exact ⟨b,o,h1,h2⟩
   obtain ⟨-,c1,-⟩:=(hN.out.next hI.out.1).cells
   replace hip:=Lib.hid hip
   replace hus2:=Lib.hid hus2
   replace hik:=Lib.hid hik
   replace hRo:=Lib.hid hRo
   clear f2 fo hsI hus
   go_wp2_with fail
   clear f2w c1
   go_loopw [56] (fun i wr=>∃ j:Nat,j≤ip.length∧i = .int .i64 (j:Nat)∧Hid (NetI W R (mkU u k ip j) wr)) (fun i _=>ip.length - (intOf i).toNat)
   case atStart=>exact ⟨0,Nat.zero_le _,rfl,by rw [mkU_zero];exact hI⟩
   case round =>
    clear hI
    obtain ⟨j,hj,rfl,hJ⟩:=hrel
    by_cases hlt:j < ip.length
    ·have p0:(0:Int)≤(j:Int):=by omega
     have p1:(j:Int) < (ip.length:Int):=by omega
     obtain ⟨b,o2,rfl,x0⟩:=hip.out j hlt
     have x1:=(hJ.out.1.cell (World.block_lt_of_cell? W _ x0)).trans x0
     have hck:=hik.out _ (List.getElem_mem hlt)
     have hset:=mkV_set (u:=u) hik.out hlt
     clear x0
     obtain ⟨c,hc⟩:∃ c,c = ip[j]:=⟨_,rfl⟩
     rw [←hc] at x1 hck hset
     have y0:=hJ.out.2.1.cell (j:=c) (by omega)
     have y1:=(hJ.out.2.1.cell (j:=k) (by omega)).1
     obtain ⟨y0,yf⟩:=y0
     have hor:=or_bits2 (mkU u k ip j c) (mkU u k ip j k)
     unfold mkV at y0 y1
     obtain ⟨a,ha⟩:∃ a:Int,a = if (mkU u k ip j c) = true then 1 else 0:=⟨_,rfl⟩
     obtain ⟨b2,hb2⟩:∃ a:Int,a = if (mkU u k ip j k) = true then 1 else 0:=⟨_,rfl⟩
     rw [←ha] at y0
     rw [←hb2] at y1
     rw [←ha,←hb2] at hor
     rw [←hor] at hset
     have hnx:=Lib.hid (hJ.out.set hset)
     have m0:(0:Int)≤(c:Int):=by omega
     have m1:(c:Int) < (R:Int):=by omega
     replace hc:=Lib.hid hc
     replace ha:=Lib.hid ha
     replace hb2:=Lib.hid hb2
     clear hset hor
     go_wp2_with fail
     have z0:wr.drew.cell? ⟨W.heap.size+1,c,none⟩ = some (.int .i64 a):=y0
     have z1:wr.drew.frozen? ⟨W.heap.size+1,c,none⟩ = false:=yf
     (refine wp_region_z (S:=(fun V=>V.cell? ⟨W.heap.size+1,c,none⟩ = some (.int .i64 a)∧V.cell? ⟨W.heap.size+1,k,none⟩ = some (.int .i64 b2))) 10 (by kernel_rfl) ?_ (fun hHeld=>?_))
     ·exact ⟨y0,y1⟩
     clear y0 y1 yf x1
     (refine wpZ_take (i:=0) (v:=?_) rfl (by kernel_rfl) (by decide) (by kernel_rfl) (by kernel_rfl) (by kernel_rfl) (fun _ _ _ h=>h) (Or.inl ⟨by rfl,?_⟩) (by assumption) ?_)
     rotate_left
     ·(intro w hSw;(try dsimp only at hSw);skip;go_simp;first | done | with_reducible rfl)
     (try simp only [Act.put,List.setIfInBounds_toArray,List.set_cons_zero,List.set_cons_succ])
     (refine wpZ_take (i:=1) (v:=?_) rfl (by kernel_rfl) (by decide) (by kernel_rfl) (by kernel_rfl) (by kernel_rfl) (fun _ _ _ h=>h) (Or.inl ⟨by rfl,?_⟩) (by assumption) ?_)
     rotate_left
     ·(intro w hSw;(try dsimp only at hSw);skip;go_simp;first | done | with_reducible rfl)
     (try simp only [Act.put,List.setIfInBounds_toArray,List.set_cons_zero,List.set_cons_succ])
     (refine wpZ_take (i:=2) (v:=?_) rfl (by kernel_rfl) (by decide) (by kernel_rfl) (by kernel_rfl) (by kernel_rfl) (fun _ _ _ h=>h) (Or.inl ⟨by rfl,?_⟩) (by assumption) ?_)
     rotate_left
     ·(intro w hSw;(try dsimp only at hSw);skip;go_simp;first | done | with_reducible rfl)
     (try simp only [Act.put,List.setIfInBounds_toArray,List.set_cons_zero,List.set_cons_succ])
     (refine wpZ_take (i:=3) (v:=?_) rfl (by kernel_rfl) (by decide) (by kernel_rfl) (by kernel_rfl) (by kernel_rfl) (fun _ _ _ h=>h) (Or.inl ⟨by rfl,?_⟩) (by assumption) ?_)
     rotate_left
     ·(intro w hSw;(try dsimp only at hSw);obtain ⟨s0,s1⟩:=hSw;go_simp;first | done | with_reducible rfl)
     (try simp only [Act.put,List.setIfInBounds_toArray,List.set_cons_zero,List.set_cons_succ])
     (refine wpZ_take (i:=4) (v:=?_) rfl (by kernel_rfl) (by decide) (by kernel_rfl) (by kernel_rfl) (by kernel_rfl) (fun _ _ _ h=>h) (Or.inl ⟨by rfl,?_⟩) (by assumption) ?_)
     rotate_left
     ·(intro w hSw;(try dsimp only at hSw);skip;go_simp;first | done | with_reducible rfl)
     (try simp only [Act.put,List.setIfInBounds_toArray,List.set_cons_zero,List.set_cons_succ])
     (refine wpZ_take (i:=5) (v:=?_) rfl (by kernel_rfl) (by decide) (by kernel_rfl) (by kernel_rfl) (by kernel_rfl) (fun _ _ _ h=>h) (Or.inl ⟨by rfl,?_⟩) (by assumption) ?_)
     rotate_left
     ·(intro w hSw;(try dsimp only at hSw);skip;go_simp;first | done | with_reducible rfl)
     (try simp only [Act.put,List.setIfInBounds_toArray,List.set_cons_zero,List.set_cons_succ])
     (refine wpZ_take (i:=6) (v:=?_) rfl (by kernel_rfl) (by decide) (by kernel_rfl) (by kernel_rfl) (by kernel_rfl) (fun _ _ _ h=>h) (Or.inl ⟨by rfl,?_⟩) (by assumption) ?_)
     rotate_left
     ·(intro w hSw;(try dsimp only at hSw);skip;go_simp;first | done | with_reducible rfl)
     (try simp only [Act.put,List.setIfInBounds_toArray,List.set_cons_zero,List.set_cons_succ])
     (refine wpZ_take (i:=7) (v:=?_) rfl (by kernel_rfl) (by decide) (by kernel_rfl) (by kernel_rfl) (by kernel_rfl) (fun _ _ _ h=>h) (Or.inl ⟨by rfl,?_⟩) (by assumption) ?_)
     rotate_left
     ·(intro w hSw;(try dsimp only at hSw);obtain ⟨s0,s1⟩:=hSw;go_simp;first | done | with_reducible rfl)
     (try simp only [Act.put,List.setIfInBounds_toArray,List.set_cons_zero,List.set_cons_succ])
     (refine wpZ_take (i:=8) (v:=?_) rfl (by kernel_rfl) (by decide) (by kernel_rfl) (by kernel_rfl) (by kernel_rfl) (fun _ _ _ h=>h) (Or.inl ⟨by rfl,?_⟩) (by assumption) ?_)
     rotate_left
     ·(intro w hSw;(try dsimp only at hSw);skip;go_simp;first | done | with_reducible rfl)
     (try simp only [Act.put,List.setIfInBounds_toArray,List.set_cons_zero,List.set_cons_succ])
     (refine wpZ_take (i:=9) (v:=?_) rfl (by kernel_rfl) (by decide) (by kernel_rfl) (by kernel_rfl) (by kernel_rfl) (fun _ _ _ h=>h) (Or.inl ⟨by rfl,?_⟩) (by assumption) ?_)
     rotate_left
     ·(intro w hSw;(try dsimp only at hSw);skip;go_simp;first | done | with_reducible rfl)
     (try simp only [Act.put,List.setIfInBounds_toArray,List.set_cons_zero,List.set_cons_succ])
     clear hHeld
     (refine wpZ_last (by kernel_rfl) rfl (by kernel_rfl) (fun K hK=>?_))
     ((rw [if_pos (by rfl)]);go_simp;refine hK.out _ _ ?_)
     (clear hK K)
     (try simp only [Act.put,List.setIfInBounds_toArray,List.set_cons_zero,List.set_cons_succ])
     go_wp2_with fail
     go_roundw
     case rel=>exact ⟨j+1,by omega,by go_num,hnx⟩
     case measure=>simp [intOf];omega
    ·obtain rfl:j = ip.length:=by omega
     have hus3:Hid (U = L.marksF bl ((k:Int) - 1+1).toNat (mkU u k ip ip.length)):=Lib.hid (by rw [show ((k:Int) - 1+1).toNat = k by omega];exact hus2.out)
     go_wp2_with fail
     go_roundw
     case rel=>exact ⟨(k:Int) - 1,mkU u k ip ip.length,by omega,by go_num,hus3,hJ⟩
     case measure=>simp [intOf] <;> omega
  ·obtain rfl:z = -1:=by omega
   obtain rfl:U = u:=hus.out
   have hkids:=fun i hi=>(hin.out i hi).2
   clear hus hz hz0
   have hb0:W.heap.size+2≤wr.heap.size:=by have:=hI.out.2.1.lt;omega
   obtain ⟨hIb,hIr,hIz⟩:=hI.out
   obtain ⟨c0,c1,-⟩:=(hN.out.next hIb).cells
   have hj0:Hid (NetJ W n R (atV U (L.netF bl U 0).2 0) wr.heap.size (.slice none 0 0) (L.netF bl U 0).1 [] (wr.alloc (.cells #[.int .i64 n,.slice none 0 0] 24))):=Lib.hid (by
    have hx:=(Ext.refl wr).alloc (.cells #[.int .i64 n,.slice none 0 0] 24)
    exact ⟨hIb.trans (hx.below.mono hIb.size),by rw [mkV_at];exact hIr.ext hx,(hx.below.block _ (Array.getElem?_eq_some_iff.1 hIz).1).trans hIz,heap_alloc_new wr _,⟨rfl,.inl ⟨rfl,rfl⟩⟩,RowsOf.nil _ _,hb0,Nat.le_trans hb0 hx.size⟩)
   have c1':=(((Ext.refl wr).alloc (.cells #[.int .i64 n,.slice none 0 0] 24)).cell c1)
   clear hIb hIr hIz hI
   go_wp2_with fail
   generalize hob:wr.heap.size = ob at *
   generalize (wr.alloc (.cells #[.int .i64 n,.slice none 0 0] 24)) = W2 at *
   clear c0 c1 c1' hob hsl hmk hmq
   go_loopw [84] (fun i wr=>∃ (i':Nat) (vO:Value) (us':List Value),i'≤R∧i = .int .i64 (i':Nat)∧Hid (NetJ W n R (atV U (L.netF bl U i').2 i') ob vO (L.netF bl U i').1 us' wr)) (fun i _=>R - (intOf i).toNat)
   case atStart=>exact ⟨0,_,_,Nat.zero_le _,rfl,hj0⟩
   case round =>
    clear hj0
    obtain ⟨i,vO,us',hi,rfl,hJ⟩:=hrel
    by_cases hlt:i < R
    ·have hRo:=hR.out
     have q0:(0:Int)≤(i:Int):=by omega
     have q1:(i:Int) < (R:Int):=by omega
     have hib:i < bl.length:=by omega
     have q2:(i:Int) < (bl.length:Int):=by omega
     obtain ⟨g',o',cp',bb,cc,ev,f0,f1,f2,fo⟩:=hN.out.node hib
     cases ev
     have hcellW:=hJ.out.1
     have k0:=(hcellW.cell (World.block_lt_of_cell? W _ f0)).trans f0
     have k1:=(hcellW.cell (World.block_lt_of_cell? W _ f1)).trans f1
     have k2:=(hcellW.cell (World.block_lt_of_cell? W _ f2)).trans f2
     obtain ⟨hil,hik⟩:=hin.out i hib
     have hsI:=owns_slI (l:=castL (L.ndAt bl i).inp) (by rw [castL_len];exact fo)
     replace hRo:=Lib.hid hRo
     clear f0 f1 f2 fo
     cases hu:U i with
     | false =>
       have hno:=netF_no (bl:=bl) hu
       have hat:=atV_no (bl:=bl) hu
       generalize (L.ndAt bl i).kind = kd at *
       generalize (L.ndAt bl i).lit = lt at *
       generalize (L.ndAt bl i).inp = ip at *
       have hx:=(Ext.refl wr).alloc (.cells #[.int .i64 kd,.int .i64 lt,.slice bb ip.length cc] 40)
       have y0:=(hJ.out.2.1.ext hx).cell (j:=i) hlt
       have ea:atV U (L.netF bl U i).2 i i = .int .i64 0:=by unfold atV;rw [if_neg (Nat.lt_irrefl _),hu];rfl
       rw [ea] at y0
       have hnx:Hid (NetJ W n R (atV U (L.netF bl U (i+1)).2 (i+1)) ob vO (L.netF bl U (i+1)).1 us' (wr.alloc (.cells #[.int .i64 kd,.int .i64 lt,.slice bb ip.length cc] 40))):=Lib.hid (by
        have:=(hJ.out.next hx.below).congr hat
        rw [hno] at this ⊢
        exact this)
       obtain ⟨y0,-⟩:=y0
       clear hno hat hx hsI hik ea hJ hcellW
       replace hu:=Lib.hid hu
       go_wp2_with fail
       go_roundw
       case rel=>exact ⟨i+1,_,_,by omega,by go_num,hnx⟩
       case measure=>simp [intOf];omega
     | true =>
       obtain ⟨hy1,hy2⟩:=netF_yes (bl:=bl) hu
       have hat:=atV_yes (bl:=bl) hu
       obtain ⟨F,hF⟩:∃ F,F = (L.netF bl U i).2:=⟨_,rfl⟩
       obtain ⟨O,hO⟩:∃ O,O = (L.netF bl U i).1:=⟨_,rfl⟩
       rw [←hF,←hO] at hat hJ hy2
       rw [←hF,←hO] at hy1
       replace hF:=Lib.hid hF
       replace hO:=Lib.hid hO
       clear hy2
       generalize (L.ndAt bl i).kind = kd at *
       generalize (L.ndAt bl i).lit = lt at *
       generalize (L.ndAt bl i).inp = ip at *
       have hx:=(Ext.refl wr).alloc (.cells #[.int .i64 kd,.int .i64 lt,.slice bb ip.length cc] 40)
       have hxn:=heap_alloc_new wr (.cells #[.int .i64 kd,.int .i64 lt,.slice bb ip.length cc] 40)
       have y0:=(hJ.out.2.1.ext hx).cell (j:=i) hlt
       have ea:atV U F i i = .int .i64 1:=by unfold atV;rw [if_neg (Nat.lt_irrefl _),hu];rfl
       rw [ea] at y0
       have b2:(wr.alloc (.cells #[.int .i64 kd,.int .i64 lt,.slice bb ip.length cc] 40)).cell? ⟨wr.heap.size,2,none⟩ = some (.slice bb ip.length cc):=by rw [World.cell?,hxn];rfl
       have q:=cloneI_any (l:=castL ip) (v:=.slice bb ip.length cc) (w:=wr.alloc (.cells #[.int .i64 kd,.int .i64 lt,.slice bb ip.length cc] 40)) ((hsI.ext hcellW).ext hx.below) (by rw [castL_len];omega)
       rw [castL_len] at q
       obtain ⟨y0,-⟩:=y0
       replace hu:=Lib.hid hu
       replace hat:=Lib.hid hat
       replace hy1:=Lib.hid hy1
       replace hik:=Lib.hid hik
       replace hx:=Lib.hid hx
       replace hxn:=Lib.hid hxn
       clear hsI hcellW ea
       go_wp2_with fail
       refine q.mono ?_
       rintro e w4 ⟨v4,rfl,ho4,hb4⟩
       have hsz:(wr.alloc (.cells #[.int .i64 kd,.int .i64 lt,.slice bb ip.length cc] 40)).heap.size = wr.heap.size+1:=by simp
       rw [hsz] at ho4 hb4
       obtain ⟨b4,c4,e4⟩:∃ b c,v4 = .slice b ip.length c:=by
        obtain ⟨ba,cp,h,_⟩:=owns_slI (l:=castL ip) (by rw [castL_len];exact ho4)
        rw [castL_len] at h
        exact ⟨ba,cp,h⟩
       subst e4
       have hM0:=Lib.hid (MvI.start (f:=F) hb4 ho4)
       have hb4':Below (wr.alloc (.cells #[.int .i64 kd,.int .i64 lt,.slice bb ip.length cc] 40)).heap.size (wr.alloc (.cells #[.int .i64 kd,.int .i64 lt,.slice bb ip.length cc] 40)) w4:=by rw [hsz];exact hb4
       have e2:=(hb4'.block wr.heap.size (by rw [hsz];exact Nat.lt_succ_self _)).trans hxn.out
       have b2':w4.cell? ⟨wr.heap.size,2,none⟩ = some (.slice bb ip.length cc):=by rw [World.cell?,e2];rfl
       have bf:w4.frozen? ⟨wr.heap.size,2,none⟩ = false:=by simp [World.frozen?,e2]
       have b2s:=hM0.out.box.2.2
       clear q hsz hb4 hb4' ho4 e2 y0 b2 k0 k1 k2
       clear hx hxn
       go_wp2_with fail
       generalize (w4.setCell ⟨wr.heap.size,2,none⟩ (.slice b4 ip.length c4)) = W5 at *
       generalize wr = wo at *
       clear b2' bf b2s
       go_loopw [101] (fun j' wr=>∃ j:Nat,j≤ip.length∧j' = .int .i64 (j:Nat)∧Hid (MvI wo kd lt b4 c4 F ip j wr)) (fun j' _=>ip.length - (intOf j').toNat)
       case atStart=>exact ⟨0,Nat.zero_le _,rfl,hM0⟩
       case round =>
        clear hM0
        obtain ⟨j,hj,rfl,hM⟩:=hrel
        by_cases hjl:j < ip.length
        ·have p0:(0:Int)≤(j:Int):=by omega
         have p1:(j:Int) < (ip.length:Int):=by omega
         obtain ⟨g4,rfl,x0,xf⟩:=hM.out.at_ hjl
         have x2:=hM.out.box.2.2
         have hck:=hik.out _ (List.getElem_mem hjl)
         have hnx:=Lib.hid ((hM.out.drew).set hjl)
         obtain ⟨c,hc⟩:∃ c,c = ip[j]:=⟨_,rfl⟩
         rw [←hc] at x0 hck hnx
         have y0:=((hJ.out.next hM.out.1).2.1.cell (j:=c) (by omega)).1
         have ea:atV U F i c = .int .i64 (F c:Nat):=by unfold atV;rw [if_pos hck]
         rw [ea] at y0
         have m0:(0:Int)≤(c:Int):=by omega
         have m1:(c:Int) < (R:Int):=by omega
         replace hc:=Lib.hid hc
         generalize F c = fc at *
         clear ea
         go_wp2_with fail
         have z0:wr.drew.cell? ⟨g4,j,none⟩ = some (.int .i64 (c:Nat)):=x0
         have z1:wr.drew.frozen? ⟨g4,j,none⟩ = false:=xf
         (refine wp_region_z (S:=(fun V=>V.cell? ⟨wo.heap.size,2,none⟩ = some (.slice (some ⟨g4,0,none⟩) ip.length c4)∧V.cell? ⟨g4,j,none⟩ = some (.int .i64 (c:Nat))∧V.cell? ⟨W.heap.size+1,c,none⟩ = some (.int .i64 (fc:Nat)))) 12 (by kernel_rfl) ?_ (fun hHeld=>?_))
         ·exact ⟨x2,x0,y0⟩
         clear x2 x0 y0 xf
         (refine wpZ_take (i:=0) (v:=?_) rfl (by kernel_rfl) (by decide) (by kernel_rfl) (by kernel_rfl) (by kernel_rfl) (fun _ _ _ h=>h) (Or.inl ⟨by rfl,?_⟩) (by assumption) ?_)
         rotate_left
         ·(intro w hSw;(try dsimp only at hSw);skip;go_simp;first | done | with_reducible rfl)
         (try simp only [Act.put,List.setIfInBounds_toArray,List.set_cons_zero,List.set_cons_succ])
         (refine wpZ_take (i:=1) (v:=?_) rfl (by kernel_rfl) (by decide) (by kernel_rfl) (by kernel_rfl) (by kernel_rfl) (fun _ _ _ h=>h) (Or.inl ⟨by rfl,?_⟩) (by assumption) ?_)
         rotate_left
         ·(intro w hSw;(try dsimp only at hSw);obtain ⟨s0,s1,s2⟩:=hSw;go_simp;first | done | with_reducible rfl)
         (try simp only [Act.put,List.setIfInBounds_toArray,List.set_cons_zero,List.set_cons_succ])
         (refine wpZ_take (i:=2) (v:=?_) rfl (by kernel_rfl) (by decide) (by kernel_rfl) (by kernel_rfl) (by kernel_rfl) (fun _ _ _ h=>h) (Or.inl ⟨by rfl,?_⟩) (by assumption) ?_)
         rotate_left
         ·(intro w hSw;(try dsimp only at hSw);skip;go_simp;first | done | with_reducible rfl)
         (try simp only [Act.put,List.setIfInBounds_toArray,List.set_cons_zero,List.set_cons_succ])
         (refine wpZ_take (i:=3) (v:=?_) rfl (by kernel_rfl) (by decide) (by kernel_rfl) (by kernel_rfl) (by kernel_rfl) (fun _ _ _ h=>h) (Or.inl ⟨by rfl,?_⟩) (by assumption) ?_)
         rotate_left
         ·(intro w hSw;(try dsimp only at hSw);skip;go_simp;first | done | with_reducible rfl)
         (try simp only [Act.put,List.setIfInBounds_toArray,List.set_cons_zero,List.set_cons_succ])
         (refine wpZ_take (i:=4) (v:=?_) rfl (by kernel_rfl) (by decide) (by kernel_rfl) (by kernel_rfl) (by kernel_rfl) (fun _ _ _ h=>h) (Or.inl ⟨by rfl,?_⟩) (by assumption) ?_)
         rotate_left
         ·(intro w hSw;(try dsimp only at hSw);skip;go_simp;first | done | with_reducible rfl)
         (try simp only [Act.put,List.setIfInBounds_toArray,List.set_cons_zero,List.set_cons_succ])
         (refine wpZ_take (i:=5) (v:=?_) rfl (by kernel_rfl) (by decide) (by kernel_rfl) (by kernel_rfl) (by kernel_rfl) (fun _ _ _ h=>h) (Or.inl ⟨by rfl,?_⟩) (by assumption) ?_)
         rotate_left
         ·(intro w hSw;(try dsimp only at hSw);obtain ⟨s0,s1,s2⟩:=hSw;go_simp;first | done | with_reducible rfl)
         (try simp only [Act.put,List.setIfInBounds_toArray,List.set_cons_zero,List.set_cons_succ])
         (refine wpZ_take (i:=6) (v:=?_) rfl (by kernel_rfl) (by decide) (by kernel_rfl) (by kernel_rfl) (by kernel_rfl) (fun _ _ _ h=>h) (Or.inl ⟨by rfl,?_⟩) (by assumption) ?_)
         rotate_left
         ·(intro w hSw;(try dsimp only at hSw);skip;go_simp;first | done | with_reducible rfl)
         (try simp only [Act.put,List.setIfInBounds_toArray,List.set_cons_zero,List.set_cons_succ])
         (refine wpZ_take (i:=7) (v:=?_) rfl (by kernel_rfl) (by decide) (by kernel_rfl) (by kernel_rfl) (by kernel_rfl) (fun _ _ _ h=>h) (Or.inl ⟨by rfl,?_⟩) (by assumption) ?_)
         rotate_left
         ·(intro w hSw;(try dsimp only at hSw);skip;go_simp;first | done | with_reducible rfl)
         (try simp only [Act.put,List.setIfInBounds_toArray,List.set_cons_zero,List.set_cons_succ])
         (refine wpZ_take (i:=8) (v:=?_) rfl (by kernel_rfl) (by decide) (by kernel_rfl) (by kernel_rfl) (by kernel_rfl) (fun _ _ _ h=>h) (Or.inl ⟨by rfl,?_⟩) (by assumption) ?_)
         rotate_left
         ·(intro w hSw;(try dsimp only at hSw);obtain ⟨s0,s1,s2⟩:=hSw;go_simp;first | done | with_reducible rfl)
         (try simp only [Act.put,List.setIfInBounds_toArray,List.set_cons_zero,List.set_cons_succ])
         (refine wpZ_take (i:=9) (v:=?_) rfl (by kernel_rfl) (by decide) (by kernel_rfl) (by kernel_rfl) (by kernel_rfl) (fun _ _ _ h=>h) (Or.inl ⟨by rfl,?_⟩) (by assumption) ?_)
         rotate_left
         ·(intro w hSw;(try dsimp only at hSw);skip;go_simp;first | done | with_reducible rfl)
         (try simp only [Act.put,List.setIfInBounds_toArray,List.set_cons_zero,List.set_cons_succ])
         (refine wpZ_take (i:=10) (v:=?_) rfl (by kernel_rfl) (by decide) (by kernel_rfl) (by kernel_rfl) (by kernel_rfl) (fun _ _ _ h=>h) (Or.inl ⟨by rfl,?_⟩) (by assumption) ?_)
         rotate_left
         ·(intro w hSw;(try dsimp only at hSw);obtain ⟨s0,s1,s2⟩:=hSw;go_simp;first | done | with_reducible rfl)
         (try simp only [Act.put,List.setIfInBounds_toArray,List.set_cons_zero,List.set_cons_succ])
         (refine wpZ_take (i:=11) (v:=?_) rfl (by kernel_rfl) (by decide) (by kernel_rfl) (by kernel_rfl) (by kernel_rfl) (fun _ _ _ h=>h) (Or.inl ⟨by rfl,?_⟩) (by assumption) ?_)
         rotate_left
         ·(intro w hSw;(try dsimp only at hSw);skip;go_simp;first | done | with_reducible rfl)
         (try simp only [Act.put,List.setIfInBounds_toArray,List.set_cons_zero,List.set_cons_succ])
         clear hHeld
         (refine wpZ_last (by kernel_rfl) rfl (by kernel_rfl) (fun K hK=>?_))
         ((rw [if_pos (by rfl)]);go_simp;refine hK.out _ _ ?_)
         (clear hK K)
         (try simp only [Act.put,List.setIfInBounds_toArray,List.set_cons_zero,List.set_cons_succ])
         go_wp2_with fail
         go_roundw
         case rel=>exact ⟨j+1,by omega,by go_num,hnx⟩
         case measure=>simp [intOf];omega
        ·obtain rfl:j = ip.length:=by omega
         obtain ⟨hMb,hMx,hMo⟩:=hM.out
         rw [mvL_all] at hMo
         have hJ5:=hJ.out.next hMb
         have hMo5:=own_weak hMo (show W.heap.size+2≤wo.heap.size+1 by have:=hJ.out.2.2.2.2.2.2.2;omega)
         obtain ⟨-,n1,bO,cO,rfl⟩:=hJ5.cells
         have y0:=hJ5.2.1.cell (j:=i) hlt
         have ea:atV U F i i = .int .i64 1:=by unfold atV;rw [if_neg (Nat.lt_irrefl _),hu.out];rfl
         rw [ea] at y0
         obtain ⟨y0,yf⟩:=y0
         have hJ6:=(hJ5.setAt i (.int .i64 (O.length:Nat))).congr hat.out
         have hMo6:=ownsRow_setCell_below hMo5 (a:=⟨W.heap.size+1,i,none⟩) (show W.heap.size+1 < W.heap.size+2 by omega) (.int .i64 (O.length:Nat))
         have hMx6:(wr.setCell ⟨W.heap.size+1,i,none⟩ (.int .i64 (O.length:Nat))).heap[wo.heap.size]? = _:=(Below.heap_setCell _ _ _ _ (show wo.heap.size≠W.heap.size+1 by have:=hJ.out.2.2.2.2.2.2.2;omega)).trans hMx
         have x0:(wr.setCell ⟨W.heap.size+1,i,none⟩ (.int .i64 (O.length:Nat))).cell? ⟨wo.heap.size,0,none⟩ = some (.int .i64 kd):=by rw [World.cell?,hMx6];rfl
         have x1:(wr.setCell ⟨W.heap.size+1,i,none⟩ (.int .i64 (O.length:Nat))).cell? ⟨wo.heap.size,1,none⟩ = some (.int .i64 lt):=by rw [World.cell?,hMx6];rfl
         have x2:(wr.setCell ⟨W.heap.size+1,i,none⟩ (.int .i64 (O.length:Nat))).cell? ⟨wo.heap.size,2,none⟩ = some (.slice b4 ip.length c4):=by rw [World.cell?,hMx6];rfl
         obtain ⟨-,n1',-⟩:=hJ6.cells
         replace hJ5:=Lib.hid hJ5
         replace hJ6:=Lib.hid hJ6
         replace hMo6:=Lib.hid hMo6
         replace hMo:=Lib.hid hMo
         clear hMb hMx hMo5 hMx6 ea hM
         obtain ⟨iv,hiv,hzv,hsv,hbv⟩:=info_parts nd_info
         have hOl:O.length≤60000:=by have:=netF_len bl U i;rw [←hO.out] at this;omega
         have hx7:=(Ext.refl (wr.setCell ⟨W.heap.size+1,i,none⟩ (.int .i64 (O.length:Nat)))).alloc (.cells #[.int .i64 kd,.int .i64 lt,.slice b4 ip.length c4] 40)
         have hn7:=heap_alloc_new (wr.setCell ⟨W.heap.size+1,i,none⟩ (.int .i64 (O.length:Nat))) (.cells #[.int .i64 kd,.int .i64 lt,.slice b4 ip.length c4] 40)
         rw [show (wr.setCell ⟨W.heap.size+1,i,none⟩ (.int .i64 (O.length:Nat))).heap.size = wr.heap.size from by simp [World.setCell]] at hn7
         have hca:=World.news_of_block (cs:=#[.int .i64 kd,.int .i64 lt,.slice b4 ip.length c4]) (t:=40) (fr:=(0,0)) hn7
         clear hn7
         have hJ7:=hJ6.out.next hx7.below
         have hMo7:=ownsRow_keep hMo6.out (fun g c h=>hx7.below.block g (Array.getElem?_eq_some_iff.1 h).1)
         have hpush:=Lib.hid fun v6 w6 ho hg=>hJ7.push (kd:=kd) (lt:=lt) (ip:=ip.map F) (m:=ip.length) (b4:=b4) (c4:=c4) (v6:=v6) (w6:=w6) (by simp) hMo7 ho hg
         replace hJ7:=Lib.hid hJ7
         replace hca:=Lib.hid hca
         have n7:=hx7.cell n1'
         clear hx7 hMo7 hMo6 hJ6
         go_wp2_with (at_builtin;refine wpList_append_own _ rfl _ _ 22 rfl (W.heap.size+2) 40 iv _ 3 40 Tryz.underlying22 hiv hzv hsv hbv rfl (by decide) _ O.length (gCells (O.map L.ofND) us') rfl hJ7.out.2.2.2.2.1 ⟨wr.heap.size,0,none⟩ 1 1 [.int .i64 kd,.int .i64 lt,.slice b4 ip.length c4] rfl rfl hca.out (by simp [Value.oneCell']) (by unfold maxLen;omega) (by omega) hJ7.out.2.2.2.2.2.2.2 ?_;intro v6 w6 ho6 hg6 _;obtain ⟨⟨g6,c6,rfl⟩,n6,nf6,hJ8⟩:=hpush.out v6 w6 ho6 hg6;rw [←hy1.out] at hJ8;replace hJ8:=Lib.hid hJ8;clear ho6 hg6)
         go_roundw
         case rel=>exact ⟨i+1,_,_,by omega,by go_num,hJ8⟩
         case measure=>simp [intOf];omega
    ·obtain rfl:i = R:=by omega
     obtain ⟨n0,n1,bO,cO,rfl⟩:=hJ.out.cells
     obtain ⟨hB9,-,hz,-,ho9,hR9,-⟩:=hJ.out
     obtain ⟨O,hO⟩:∃ O,O = (L.netF bl U i).1:=⟨_,rfl⟩
     rw [←hO] at n1 ho9 hR9
     have z0:wr.cell? ⟨W.heap.size,0,none⟩ = some (.int .i64 0):=by rw [World.cell?,hz];rfl
     have z1:wr.cell? ⟨W.heap.size,1,none⟩ = some (.slice none 0 0):=by rw [World.cell?,hz];rfl
     have y0:wr.frozen? ⟨W.heap.size,0,none⟩ = false:=by simp [World.frozen?,hz]
     have y1:wr.frozen? ⟨W.heap.size,1,none⟩ = false:=by simp [World.frozen?,hz]
     obtain ⟨r0,r1⟩:=box2_set hz (.int .i64 n) (.slice bO O.length cO)
     have hfin:=Lib.hid (And.intro (ownsRow_setCell_below (ownsRow_setCell_below ho9 (a:=⟨W.heap.size,0,none⟩) (show W.heap.size < W.heap.size+2 by omega) (.int .i64 n)) (a:=⟨W.heap.size,1,none⟩) (show W.heap.size < W.heap.size+2 by omega) (.slice bO O.length cO)) (And.intro ((hR9.setLow (a:=⟨W.heap.size,0,none⟩) (show W.heap.size < W.heap.size+2 by omega) (.int .i64 n)).setLow (a:=⟨W.heap.size,1,none⟩) (show W.heap.size < W.heap.size+2 by omega) (.slice bO O.length cO)) ((hB9.setCell (Nat.le_refl _) (.int .i64 n) (p:=⟨W.heap.size,0,none⟩)).setCell (Nat.le_refl _) (.slice bO O.length cO) (p:=⟨W.heap.size,1,none⟩))))
     replace r0:=Lib.hid r0
     replace r1:=Lib.hid r1
     replace hO:=Lib.hid hO
     clear hz ho9 hR9 hB9 hJ
     go_wp2_with fail
     have hOo:=hO.out
     subst hOo
     exact bodyPost_ret (v:=.tuple #[.agg #[.int .i64 n,.slice bO (L.netF bl U i).1.length cO],.int .i64 0]) (by simp [results,Tryz.results87,go_sem,r0.out,r1.out]) rfl ⟨_,us',rfl,hfin.out.1,hfin.out.2.1,hfin.out.2.2⟩
end Go.Proofs.YtckhohpbokojdaaGreatDoor
