import Derived.Test.YtckhohpbokojdaaGreatDoorMN8
import Derived.BigQuiet
set_option linter.unusedSimpArgs false
set_option linter.unusedVariables false
namespace Go.Proofs.YtckhohpbokojdaaGreatDoor
open Go Go.RowKit Go.Shelf
theorem InII.cells {bx:Nat} {drop fin:Int} {bl:List L.ND} {w:World} {m:List Nat} {W:World} (h:InII bx drop fin bl w m W):∃ vo,W.cell? ⟨w.heap.size,0,none⟩ = some (.pointer (some ⟨bx,0,none⟩))∧W.cell? ⟨w.heap.size+1+1+1,0,none⟩ = some vo∧W.cell? ⟨w.heap.size+1+1+1+1+1+1,0,none⟩ = some (.bool (L.inRun bl drop fin m).opn)∧W.ownsRow (w.heap.size+7) 3 1 vo (L.inRun bl drop fin m).out.length ((castL (L.inRun bl drop fin m).out).map encZ):=by
 obtain ⟨vo,h5,h8,h9,h13,h14,h12,ho⟩:=h.2.cells
 exact ⟨vo,h5,h12,h14,ho⟩
set_option maxRecDepth 100000 in
set_option maxHeartbeats 8000000 in
theorem binputs_any {lo base bx cp:Nat} {ba:Option Addr} {n kd drop fin:Int} {bl:List L.ND} {l:List Nat} {w:World} (hN:NB lo base bx n bl w) (hB:L.BOK n bl) (hn:0≤n∧n≤128) (hbl:bl.length≤60000) (hl:SlI w (.slice ba l.length cp) (castL l)) (hll:l.length≤100000) (hk:∀ k∈l,k < bl.length) (hf2:fin≠2) (hd2:drop≠2) :
  Calls Tryz.prog 99 #[.pointer (some ⟨bx,0,none⟩),.slice ba l.length cp,.int .i64 kd,.int .i64 drop,.int .i64 fin] w fun e w'=>∃ v,e = .returned (.tuple #[v,.bool (L.inRun bl drop fin (L.flatND bl kd l)).opn])∧Below w.heap.size w w'∧w'.ownsRow w.heap.size 3 1 v (L.inRun bl drop fin (L.flatND bl kd l)).out.length ((castL (L.sortN (L.inRun bl drop fin (L.flatND bl kd l)).out)).map encZ):=by
 obtain ⟨pm,vL,us,hN⟩:=hN
 have hmf:∀ (fn:Fn) (first cap:Array Value) (w:World),(Instr.makeFunc fn first cap).run Tryz.prog w = .ok (.func fn first cap) w:=fun _ _ _ _=>rfl
 have hmm:∀ w,(Instr.makeMap 125 none).run Tryz.prog w = .ok (.map (some w.heap.size)) (w.alloc (.map #[] 0)):=fun w=>rfl
 have hK1:∀ (c:Array Value) (w:World),(callFunc 113 c).run Tryz.prog w = .ok (.enter 113 c) w:=fun c w=>by simp [go_sem,Tryz.func113]
 have hcs:∀ j (hj:j < l.length),∃ b o,ba = some ⟨b,o,none⟩∧w.cell? ⟨b,o+j,none⟩ = some (.int .i64 ((l[j]:Nat):Int)):=fun j hj=>by
  obtain ⟨ba',cp',e,h⟩:=hl
  rw [castL_len] at e
  cases e
  rcases h with ⟨_,h,_⟩ | ⟨b,o,h1,h2⟩
  ·have:=congrArg List.length h
   rw [castL_len] at this
   simp at this;rw [this] at hj;simp at hj
  ·have:=h2 j (by rw [castL_len];exact hj)
   unfold castL at this
   rw [List.getElem_map] at this
   exact ⟨b,o,h1,this⟩
 have hflt:∀ k,k≤l.length→∀ x∈L.flatND bl kd (l.take k),x < bl.length:=fun k _=>hB.flat_lt fun x hx=>hk x (List.mem_of_mem_take hx)
 have hout:∀ m:List Nat,(∀ x∈m,x < bl.length)→(L.inRun bl drop fin m).out.length < 100000:=fun m hm=>by
  have:=L.nodup_lt _ bl.length (inRun_out bl drop fin m).1 fun x hx=>hm x ((inRun_out bl drop fin m).2 x hx)
  omega
 have hone:∀ (m:List Nat) (i:Nat) (W:World),InII bx drop fin bl w m W→(∀ x∈m,x < bl.length)→i < bl.length→Calls Tryz.prog 113 #[.int .i64 (i:Nat),.pointer (some ⟨w.heap.size,0,none⟩),.pointer (some ⟨w.heap.size+1+1,0,none⟩),.pointer (some ⟨w.heap.size+1+1+1+1+1,0,none⟩),.pointer (some ⟨w.heap.size+1+1+1+1+1+1,0,none⟩),.pointer (some ⟨w.heap.size+1,0,none⟩),.pointer (some ⟨w.heap.size+1+1+1,0,none⟩)] W fun e W'=>e = .returned (.tuple #[])∧InII bx drop fin bl w (m++[i]) W':=fun m i W hI hm hi=>by
  have hlt:=bok_lit hB hn hi
  refine (one_any hN hI.1 hI.2 hi hf2 hd2 (hout m hm) (by omega) (by omega)).mono ?_
  rintro e W' ⟨rfl,h1,h2⟩
  exact ⟨rfl,h1,by rw [L.inRun_snoc];exact h2⟩
 have hcell:∀ (m:List Nat) (W:World),InII bx drop fin bl w m W→W.cell? ⟨bx,1,none⟩ = some vL:=fun m W hI=>(hN.next hI.1).cells.2.1
 have hinit:Hid (InII bx drop fin bl w (L.flatND bl kd (l.take 0)) (((((((w.alloc (.cells #[.pointer (some ⟨bx,0,none⟩)] 102)).alloc (.cells #[.int .i64 drop] 3)).alloc (.cells #[.int .i64 fin] 3)).alloc (.cells #[.slice none 0 0] 25)).alloc (.map #[] 0)).alloc (.cells #[.map (some (w.heap.size+1+1+1+1))] 125)).alloc (.cells #[.bool true] 4))):=Lib.hid (by
  obtain ⟨h0,h1,h2,h3,h4,h5,h6⟩:=seven_all w (.cells #[.pointer (some ⟨bx,0,none⟩)] 102) (.cells #[.int .i64 drop] 3) (.cells #[.int .i64 fin] 3) (.cells #[.slice none 0 0] 25) (.map #[] 0) (.cells #[.map (some (w.heap.size+1+1+1+1))] 125) (.cells #[.bool true] 4)
  refine ⟨(((((((Ext.refl w).alloc _).alloc _).alloc _).alloc _).alloc _).alloc _).alloc _ |>.below,⟨h0,h1,h2,h5,h6⟩,?_,⟨_,h3,⟨rfl,.inl ⟨rfl,rfl⟩⟩⟩,⟨by dsimp only;omega,by dsimp only;omega,by dsimp only;omega,by omega,by simp⟩,by dsimp only;omega,by dsimp only;omega,by dsimp only;omega,by dsimp only;omega,by dsimp only;omega,by dsimp only;omega,by dsimp only;omega⟩
  exact mapEmpty _ _ h4)
 have hft:=fun k (hk:k < l.length)=>flat_take bl kd l hk
 replace hcs:=Lib.hid hcs
 replace hflt:=Lib.hid hflt
 replace hone:=Lib.hid hone
 replace hcell:=Lib.hid hcell
 replace hft:=Lib.hid hft
 replace hout:=Lib.hid hout
 replace hk:=Lib.hid hk
 replace hN:=Lib.hid hN
 replace hB:=Lib.hid hB
 clear hl hf2 hd2
 go_enter Tryz.func99,Tryz.ntmps99
 go_wp2_with fail
 generalize (((((((w.alloc (.cells #[.pointer (some ⟨bx,0,none⟩)] 102)).alloc (.cells #[.int .i64 drop] 3)).alloc (.cells #[.int .i64 fin] 3)).alloc (.cells #[.slice none 0 0] 25)).alloc (.map #[] 0)).alloc (.cells #[.map (some (w.heap.size+1+1+1+1))] 125)).alloc (.cells #[.bool true] 4)) = W7 at *
 go_loopw [24] (fun i wr=>∃ k:Nat,k≤l.length∧i = .int .i64 (k:Nat)∧Hid (InII bx drop fin bl w (L.flatND bl kd (l.take k)) wr)) (fun i _=>l.length - (intOf i).toNat)
 case atStart=>exact ⟨0,Nat.zero_le _,rfl,hinit⟩
 case round =>
  clear hinit
  obtain ⟨k,hk',rfl,hI⟩:=hrel
  obtain ⟨vo,d0,d1,d2,hro⟩:=hI.out.cells
  by_cases hlt:k < l.length
  ·clear d1 d2 hro
   have d3:=hcell.out _ _ hI.out
   have hil:=hk.out _ (List.getElem_mem hlt)
   have hfl:=hflt.out k hk'
   have hnx:=hft.out k hlt
   obtain ⟨b,o,rfl,e0⟩:=hcs.out k hlt
   have e1:=(hI.out.1.cell (World.block_lt_of_cell? w _ e0)).trans e0
   clear e0
   generalize l[k] = i at *
   generalize L.flatND bl kd (l.take k) = m at *
   obtain ⟨g,o1,cp1,bb,cc,rfl,n0,-,n2,hrow⟩:=hN.out.node hil
   have m0:=(hI.out.1.cell (World.block_lt_of_cell? w _ n0)).trans n0
   have m2:=(hI.out.1.cell (World.block_lt_of_cell? w _ n2)).trans n2
   obtain ⟨hil1,hil2⟩:=bok_inp hB.out hil
   have g0:(0:Int)≤(i:Int):=by omega
   have g1:(i:Int) < (bl.length:Int):=by omega
   have g2:(0:Int)≤(k:Int):=by omega
   have g3:(k:Int) < (l.length:Int):=by omega
   have hcx:∀ j (hj:j < (L.ndAt bl i).inp.length),∃ b o,bb = some ⟨b,o,none⟩∧w.cell? ⟨b,o+j,none⟩ = some (.int .i64 (((L.ndAt bl i).inp[j]:Nat):Int)):=fun j hj=>by
    obtain ⟨g4,cp4,e,h⟩:=ownsRow_cellN hrow (k:=j) (by rw [List.length_map,castL_len];exact hj)
    cases e
    have:=h j (by rw [List.length_map,castL_len];exact hj)
    unfold castL at this
    rw [List.getElem_map,List.getElem_map] at this
    exact ⟨g4,0,rfl,this⟩
   clear n0 n2 hrow
   by_cases hkk:(L.ndAt bl i).kind = kd
   ·rw [if_pos hkk] at hnx
    rw [hkk] at m0
    generalize (L.ndAt bl i).inp = ip at *
    clear hkk
    have hI0:Hid (InII bx drop fin bl w (m++ip.take 0) wr):=by rw [List.take_zero,List.append_nil];exact hI
    replace hnx:=Lib.hid hnx
    replace hcx:=Lib.hid hcx
    replace hfl:=Lib.hid hfl
    replace hil2:=Lib.hid hil2
    go_wp2_with fail
    go_loopw [50] (fun i wr=>∃ j:Nat,j≤ip.length∧i = .int .i64 (j:Nat)∧Hid (InII bx drop fin bl w (m++ip.take j) wr)) (fun i _=>ip.length - (intOf i).toNat)
    case atStart=>exact ⟨0,Nat.zero_le _,rfl,hI0⟩
    case round =>
     clear hI hI0 d0 d3 e1 m0 m2
     obtain ⟨j,hj',rfl,hI⟩:=hrel
     by_cases hlt2:j < ip.length
     ·have g4:(0:Int)≤(j:Int):=by omega
      have g5:(j:Int) < (ip.length:Int):=by omega
      obtain ⟨b2,o2,rfl,e2⟩:=hcx.out j hlt2
      have e3:=(hI.out.1.cell (World.block_lt_of_cell? w _ e2)).trans e2
      have htk:ip.take (j+1) = ip.take j++[ip[j]]:=List.take_succ_eq_append_getElem hlt2
      have q:=hone.out _ ip[j] _ hI.out (fun x hx=>(List.mem_append.1 hx).elim (hfl.out x) fun h=>hil2.out x (List.mem_of_mem_take h)) (hil2.out _ (List.getElem_mem hlt2))
      rw [List.append_assoc,←htk] at q
      clear e2 htk
      generalize ip[j] = y at *
      go_wp2_with fail
      refine q.mono ?_
      rintro e w6 ⟨rfl,hI6⟩
      replace hI6:=Lib.hid hI6
      clear q e3
      go_wp2_with fail
      go_roundw
      case rel=>exact ⟨j+1,by omega,by go_num,hI6⟩
      case measure=>simp [intOf];omega
     ·obtain rfl:j = ip.length:=by omega
      rw [List.take_length,←hnx.out] at hI
      go_wp2_with fail
      go_roundw
      case rel=>exact ⟨k+1,by omega,by go_num,hI⟩
      case measure=>simp [intOf];omega
   ·rw [if_neg hkk] at hnx
    have q1:((L.ndAt bl i).kind == kd) = false:=beq_eq_false_iff_ne.2 hkk
    have q:=hone.out m i wr hI.out hfl hil
    rw [←hnx] at q
    generalize (L.ndAt bl i).kind = kx at *
    generalize (L.ndAt bl i).inp = ip at *
    replace hnx:=Lib.hid hnx
    replace hkk:=Lib.hid hkk
    replace hcx:=Lib.hid hcx
    replace hfl:=Lib.hid hfl
    replace hil2:=Lib.hid hil2
    go_wp2_with fail
    refine q.mono ?_
    rintro e w6 ⟨rfl,hI6⟩
    replace hI6:=Lib.hid hI6
    clear q e1 m0 m2 d0 d3
    go_wp2_with fail
    go_roundw
    case rel=>exact ⟨k+1,by omega,by go_num,hI6⟩
    case measure=>simp [intOf];omega
  ·obtain rfl:k = l.length:=by omega
   rw [List.take_length] at hI d2 hro
   have hol:=hout.out _ (by have:=hflt.out l.length (Nat.le_refl _);rwa [List.take_length] at this)
   have q:=sort_anyN hro (by omega)
   generalize hop:(L.inRun bl drop fin (L.flatND bl kd l)).opn = op at *
   replace hop:=Lib.hid hop
   have hend:∀ W,W.ownsRow (w.heap.size+7) 3 1 vo (L.inRun bl drop fin (L.flatND bl kd l)).out.length ((castL (L.sortN (L.inRun bl drop fin (L.flatND bl kd l)).out)).map encZ)→wr.grownBy W vo.ownBlock→W.cell? ⟨w.heap.size+1+1+1,0,none⟩ = some vo∧W.cell? ⟨w.heap.size+1+1+1+1+1+1,0,none⟩ = some (.bool op)∧Below w.heap.size w W∧W.ownsRow w.heap.size 3 1 vo (L.inRun bl drop fin (L.flatND bl kd l)).out.length ((castL (L.sortN (L.inRun bl drop fin (L.flatND bl kd l)).out)).map encZ):=fun W h1 hg=>by
    have hsz:=hI.out.2.2.2.2.1.2.2.2.2
    have hlow:∀ j,j < w.heap.size+7→W.heap[j]? = wr.heap[j]?:=fun j hj=>hg.block j (by omega) fun e=>by
     have:=own_ge hro e.symm
     omega
    refine ⟨(World.cell?_of_block (a:=⟨w.heap.size+1+1+1,0,none⟩) (hlow _ (by show w.heap.size+1+1+1 < _;omega))).trans d1,(World.cell?_of_block (a:=⟨w.heap.size+1+1+1+1+1+1,0,none⟩) (hlow _ (by show w.heap.size+1+1+1+1+1+1 < _;omega))).trans d2,Below.grown hI.out.1 hg (by omega) (fun k e=>by have:=own_ge hro e;omega),h1.1,?_⟩
    obtain ⟨_,⟨e1,e2⟩ | ⟨g,cap,cur,e1,hgb,hr⟩⟩:=h1
    ·exact .inl ⟨e1,e2⟩
    ·exact .inr ⟨g,cap,cur,e1,by omega,hr⟩
   replace hend:=Lib.hid hend
   replace hro:=Lib.hid hro
   obtain ⟨ba2,cp2,hvo,_⟩:=owns_slI (l:=castL (L.inRun bl drop fin (L.flatND bl kd l)).out) (by rw [castL_len];exact hro.out)
   replace hvo:=Lib.hid hvo
   go_wp2_with fail
   refine q.mono ?_
   rintro e w6 ⟨rfl,h1,hg⟩
   obtain ⟨f1,f2,f3,f4⟩:=hend.out w6 h1 hg
   have fd1:w6.drew.cell? ⟨w.heap.size+1+1+1,0,none⟩ = some vo:=f1
   have fd2:w6.drew.cell? ⟨w.heap.size+1+1+1+1+1+1,0,none⟩ = some (.bool op):=f2
   replace f3:=Lib.hid f3
   replace f4:=Lib.hid f4
   clear q h1 hg d0 d1 d2
   go_wp2_with fail
   go_quiet (fail)
   all_goals
    go_wp2_with fail
    go_ret2
    refine ⟨vo,?_,⟨f3.out.os,f3.out.tape,f3.out.output,f3.out.size,f3.out.block⟩,f4.out⟩
    first | rfl | (simp [hop.out];done)
end Go.Proofs.YtckhohpbokojdaaGreatDoor
