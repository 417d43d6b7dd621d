import Derived.Test.YtckhohpbokojdaaGreatDoorLQ4
set_option linter.unusedSimpArgs false
set_option linter.unusedVariables false
namespace Go.Proofs.YtckhohpbokojdaaGreatDoor
open Go Go.RowKit Go.Shelf
theorem heap_set3 {w:World} {b:Nat} {a0 a1 a2:Value} {t:TypeId} (h:w.heap[b]? = some (.cells #[a0,a1,a2] t (0,0))) (x y z:Value):(((w.setCell ⟨b,0,none⟩ x).setCell ⟨b,1,none⟩ y).setCell ⟨b,2,none⟩ z).heap[b]? = some (.cells #[x,y,z] t (0,0)):=by
 have h1:=heap_set h 0 x
 have h2:=heap_set h1 1 y
 exact heap_set h2 2 z
theorem belAllocQ {a w:World} (h:Below a.heap.size a w) (o:Obj):∃ x W',x = w.heap.size∧W' = w.alloc o∧Below a.heap.size a W'∧W'.heap[x]? = some o∧a.heap.size≤x∧Below w.heap.size w W':=⟨_,_,rfl,rfl,h.alloc h.size o,heap_alloc_new w o,h.size,(Below.refl _ w).alloc (Nat.le_refl _) o⟩
theorem bx3q {W:World} {ob:Nat} {a0 a1 a2:Value} {t:TypeId} (h:W.heap[ob]? = some (.cells #[a0,a1,a2] t (0,0))):(W.cell? ⟨ob,0,none⟩ = some a0∧W.cell? ⟨ob,1,none⟩ = some a1∧W.cell? ⟨ob,2,none⟩ = some a2)∧W.frozen? ⟨ob,0,none⟩ = false∧W.frozen? ⟨ob,1,none⟩ = false∧W.frozen? ⟨ob,2,none⟩ = false:=⟨⟨by rw [World.cell?,h];rfl,by rw [World.cell?,h];rfl,by rw [World.cell?,h];rfl⟩,by simp [World.frozen?,h],by simp [World.frozen?,h],by simp [World.frozen?,h]⟩
theorem store33 {a W:World} {x y:Nat} {z0 z1 z2 u0 u1 u2 a0 a1 a2 b0 b1 b2:Value} {t:TypeId} (hE:Below a.heap.size a W) (hx:a.heap.size≤x) (hy:a.heap.size≤y) (hne:x≠y) (h1:W.heap[x]? = some (.cells #[z0,z1,z2] t (0,0))) (h2:W.heap[y]? = some (.cells #[u0,u1,u2] t (0,0))) :
  (Below a.heap.size a (((W.setCell ⟨x,0,none⟩ a0).setCell ⟨x,1,none⟩ a1).setCell ⟨x,2,none⟩ a2)∧(((W.setCell ⟨x,0,none⟩ a0).setCell ⟨x,1,none⟩ a1).setCell ⟨x,2,none⟩ a2).heap[y]? = some (.cells #[u0,u1,u2] t (0,0))) ∧
  Below a.heap.size a ((((((W.setCell ⟨x,0,none⟩ a0).setCell ⟨x,1,none⟩ a1).setCell ⟨x,2,none⟩ a2).setCell ⟨y,0,none⟩ b0).setCell ⟨y,1,none⟩ b1).setCell ⟨y,2,none⟩ b2) ∧
  ((((((W.setCell ⟨x,0,none⟩ a0).setCell ⟨x,1,none⟩ a1).setCell ⟨x,2,none⟩ a2).setCell ⟨y,0,none⟩ b0).setCell ⟨y,1,none⟩ b1).setCell ⟨y,2,none⟩ b2).heap[x]? = some (.cells #[a0,a1,a2] t (0,0)) ∧
  ((((((W.setCell ⟨x,0,none⟩ a0).setCell ⟨x,1,none⟩ a1).setCell ⟨x,2,none⟩ a2).setCell ⟨y,0,none⟩ b0).setCell ⟨y,1,none⟩ b1).setCell ⟨y,2,none⟩ b2).heap[y]? = some (.cells #[b0,b1,b2] t (0,0)):=by
 have e1:=heap_set3 h1 a0 a1 a2
 have e2:(((W.setCell ⟨x,0,none⟩ a0).setCell ⟨x,1,none⟩ a1).setCell ⟨x,2,none⟩ a2).heap[y]? = some (.cells #[u0,u1,u2] t (0,0)):=by
  rw [Below.heap_setCell _ _ _ _ (Ne.symm hne),Below.heap_setCell _ _ _ _ (Ne.symm hne),Below.heap_setCell _ _ _ _ (Ne.symm hne)];exact h2
 have hb:=((hE.setCell (p:=⟨x,0,none⟩) hx a0).setCell (p:=⟨x,1,none⟩) hx a1).setCell (p:=⟨x,2,none⟩) hx a2
 have e3:=heap_set3 e2 b0 b1 b2
 refine ⟨⟨hb,e2⟩,((hb.setCell (p:=⟨y,0,none⟩) hy b0).setCell (p:=⟨y,1,none⟩) hy b1).setCell (p:=⟨y,2,none⟩) hy b2,?_,e3⟩
 rw [Below.heap_setCell _ _ _ _ hne,Below.heap_setCell _ _ _ _ hne,Below.heap_setCell _ _ _ _ hne];exact e1
set_option maxRecDepth 100000 in
set_option maxHeartbeats 8000000 in
theorem rdecided_any {fb lo base bx:Nat} {n kd:Int} {bl:List L.ND} {l:List Nat} {lv:Value} {w:World} (h:RB fb lo base bx n bl w) (hs:SlI w lv (castL l)) (hk:∀ k∈l,k < bl.length) (hB:L.BOK n bl) (hn:0≤n∧n≤128) (hbl:bl.length≤60000) (hll:l.length≤100000) :
  Calls Tryz.prog 91 #[.pointer (some ⟨bx,0,none⟩),lv,.int .i64 kd] w fun e w'=>e = .returned (.bool (decide (L.decidedP bl kd l)))∧Below w.heap.size w w':=by
 obtain ⟨vL,us,h⟩:=h
 obtain ⟨ba,cp,rfl,hcs⟩:=slI_castN hs
 obtain ⟨na,ncp,rfl,hnd⟩:=h.nd
 have hbox:∀ V,Below w.heap.size w V→V.cell? ⟨bx,1,none⟩ = some (.slice na bl.length ncp):=fun V hV=>by
  have f0:=(hV.block _ (Array.getElem?_eq_some_iff.1 h.1).1).trans h.1
  rw [World.cell?,f0];rfl
 have hlt:=fun (i:Nat) (hi:i < bl.length)=>bok_lit hB hn hi
 replace h:=Lib.hid h
 replace hcs:=Lib.hid hcs
 replace hnd:=Lib.hid hnd
 replace hbox:=Lib.hid hbox
 replace hk:=Lib.hid hk
 replace hB:=Lib.hid hB
 replace hlt:=Lib.hid hlt
 clear hs
 go_enter Tryz.func91,Tryz.ntmps91
 go_wp2_with fail
 go_loopw [7] (fun i wr=>∃ k:Nat,k≤l.length∧i = .int .i64 (k:Nat)∧Hid (∀ j (hj:j < l.length),j < k→¬ ((L.ndAt bl l[j]).kind = kd∨∃ q∈l,(L.ndAt bl l[j]).kind = 2∧(L.ndAt bl q).kind = 2∧(L.ndAt bl l[j]).lit = -(L.ndAt bl q).lit))∧Hid (Below w.heap.size w wr)) (fun i _=>l.length - (intOf i).toNat)
 case atStart=>exact ⟨0,Nat.zero_le _,rfl,Lib.hid (fun j _ h=>absurd h (Nat.not_lt_zero _)),Lib.hid (Below.refl _ _)⟩
 case round =>
  obtain ⟨k,hk',rfl,hI,hX⟩:=hrel
  by_cases hlt1:k < l.length
  ·have hil:=hk.out _ (List.getElem_mem hlt1)
   obtain ⟨b,o,rfl,hbl',hc⟩:=hcs.out k hlt1
   have hfnd:((L.ndAt bl l[k]).kind = kd∨∃ q∈l,(L.ndAt bl l[k]).kind = 2∧(L.ndAt bl q).kind = 2∧(L.ndAt bl l[k]).lit = -(L.ndAt bl q).lit)→Hid (decide (L.decidedP bl kd l) = true):=fun h=>Lib.hid (decide_eq_true ⟨l[k],List.getElem_mem hlt1,h⟩)
   have hnx:¬ ((L.ndAt bl l[k]).kind = kd∨∃ q∈l,(L.ndAt bl l[k]).kind = 2∧(L.ndAt bl q).kind = 2∧(L.ndAt bl l[k]).lit = -(L.ndAt bl q).lit)→Hid (∀ j (hj:j < l.length),j < k+1→¬ ((L.ndAt bl l[j]).kind = kd∨∃ q∈l,(L.ndAt bl l[j]).kind = 2∧(L.ndAt bl q).kind = 2∧(L.ndAt bl l[j]).lit = -(L.ndAt bl q).lit)):=fun h=>Lib.hid fun j hj hjk=>by
    by_cases e:j = k
    ·subst e;exact h
    ·exact hI.out j hj (by omega)
   generalize l[k] = i at *
   obtain ⟨nb,no,ab,ac,rfl,n0,n1,n2,-⟩:=hnd.out i hil
   generalize (L.ndAt bl i).kind = kx at *
   generalize (L.ndAt bl i).lit = lx at *
   generalize (L.ndAt bl i).inp.length = il at *
   have hS:∀ V,Below w.heap.size w V→V.cell? ⟨bx,1,none⟩ = some (.slice (some ⟨nb,no,none⟩) bl.length ncp)∧V.cell? ⟨b,o+k,none⟩ = some (.int .i64 (i:Nat))∧V.cell? ⟨nb,no+i * 3,none⟩ = some (.int .i64 kx):=fun V hw=>⟨hbox.out V hw,(hw.cell hbl').trans hc,(hw.cell (World.block_lt_of_cell? w _ n0)).trans n0⟩
   have g0:(0:Int)≤(i:Int):=by omega
   have g1:(i:Int) < (bl.length:Int):=by omega
   have g2:(0:Int)≤(k:Int):=by omega
   have g3:(k:Int) < (l.length:Int):=by omega
   replace hS:=Lib.hid hS
   replace n0:=Lib.hid n0
   replace n1:=Lib.hid n1
   replace n2:=Lib.hid n2
   replace hc:=Lib.hid hc
   rename World=>wr
   by_cases hkk:kx = kd
   ·have dk:(kx == kd) = true:=by simpa using hkk
    have hr:=hfnd (.inl hkk)
    replace hkk:=Lib.hid hkk
    clear hfnd hnx
    go_wp2_with fail
    (refine wp_region_held_drew (S:=(fun V=>V.cell? ⟨bx,1,none⟩ = some (.slice (some ⟨nb,no,none⟩) bl.length ncp)∧V.cell? ⟨b,o+k,none⟩ = some (.int .i64 (i:Nat))∧V.cell? ⟨nb,no+i * 3,none⟩ = some (.int .i64 kx))) (by kernel_rfl) ?_ (fun hHeld=>?_))
    ·exact hS.out _ hX.out.drew
    (refine takeL (i:=0) (v:=?_) rfl (by kernel_rfl) (by kernel_rfl) (by kernel_rfl) (fun _ _ _ h=>h) (Or.inl ⟨by rfl,?_⟩) (by assumption) ?_)
    rotate_left
    ·(intro w hSw;(try dsimp only at hSw);go_simp;first | done | with_reducible rfl)
    (try simp only [Act.put,List.setIfInBounds_toArray,List.set_cons_zero,List.set_cons_succ])
    (refine takeL (i:=1) (v:=?_) rfl (by kernel_rfl) (by kernel_rfl) (by kernel_rfl) (fun _ _ _ h=>h) (Or.inl ⟨by rfl,?_⟩) (by assumption) ?_)
    rotate_left
    ·(intro w hSw;(try dsimp only at hSw);go_simp;first | done | with_reducible rfl)
    (try simp only [Act.put,List.setIfInBounds_toArray,List.set_cons_zero,List.set_cons_succ])
    (refine takeL (i:=2) (v:=?_) rfl (by kernel_rfl) (by kernel_rfl) (by kernel_rfl) (fun _ _ _ h=>h) (Or.inl ⟨by rfl,?_⟩) (by assumption) ?_)
    rotate_left
    ·(intro w hSw;(try dsimp only at hSw);go_simp;first | done | with_reducible rfl)
    (try simp only [Act.put,List.setIfInBounds_toArray,List.set_cons_zero,List.set_cons_succ])
    (refine takeL (i:=3) (v:=?_) rfl (by kernel_rfl) (by kernel_rfl) (by kernel_rfl) (fun _ _ _ h=>h) (Or.inl ⟨by rfl,?_⟩) (by assumption) ?_)
    rotate_left
    ·(intro w hSw;(try dsimp only at hSw);go_simp;first | done | with_reducible rfl)
    (try simp only [Act.put,List.setIfInBounds_toArray,List.set_cons_zero,List.set_cons_succ])
    (refine takeL (i:=4) (v:=?_) rfl (by kernel_rfl) (by kernel_rfl) (by kernel_rfl) (fun _ _ _ h=>h) (Or.inl ⟨by rfl,?_⟩) (by assumption) ?_)
    rotate_left
    ·(intro w hSw;(try dsimp only at hSw);go_simp;first | done | with_reducible rfl)
    (try simp only [Act.put,List.setIfInBounds_toArray,List.set_cons_zero,List.set_cons_succ])
    (refine takeL (i:=5) (v:=?_) rfl (by kernel_rfl) (by kernel_rfl) (by kernel_rfl) (fun _ _ _ h=>h) (Or.inl ⟨by rfl,?_⟩) (by assumption) ?_)
    rotate_left
    ·(intro w hSw;(try dsimp only at hSw);go_simp;first | done | with_reducible rfl)
    (try simp only [Act.put,List.setIfInBounds_toArray,List.set_cons_zero,List.set_cons_succ])
    (refine takeL (i:=6) (v:=?_) rfl (by kernel_rfl) (by kernel_rfl) (by kernel_rfl) (fun _ _ _ h=>h) (Or.inl ⟨by rfl,?_⟩) (by assumption) ?_)
    rotate_left
    ·(intro w hSw;(try dsimp only at hSw);go_simp;first | done | with_reducible rfl)
    (try simp only [Act.put,List.setIfInBounds_toArray,List.set_cons_zero,List.set_cons_succ])
    (refine takeL (i:=7) (v:=?_) rfl (by kernel_rfl) (by kernel_rfl) (by kernel_rfl) (fun _ _ _ h=>h) (Or.inl ⟨by rfl,?_⟩) (by assumption) ?_)
    rotate_left
    ·(intro w hSw;(try dsimp only at hSw);go_simp;first | done | with_reducible rfl)
    (try simp only [Act.put,List.setIfInBounds_toArray,List.set_cons_zero,List.set_cons_succ])
    (refine takeL (i:=8) (v:=?_) rfl (by kernel_rfl) (by kernel_rfl) (by kernel_rfl) (fun _ _ _ h=>h) (Or.inl ⟨by rfl,?_⟩) (by assumption) ?_)
    rotate_left
    ·(intro w hSw;(try dsimp only at hSw);go_simp;first | done | with_reducible rfl)
    (try simp only [Act.put,List.setIfInBounds_toArray,List.set_cons_zero,List.set_cons_succ])
    (refine takeL (i:=9) (v:=?_) rfl (by kernel_rfl) (by kernel_rfl) (by kernel_rfl) (fun _ _ _ h=>h) (Or.inl ⟨by rfl,?_⟩) (by assumption) ?_)
    rotate_left
    ·(intro w hSw;(try dsimp only at hSw);go_simp;first | done | with_reducible rfl)
    (try simp only [Act.put,List.setIfInBounds_toArray,List.set_cons_zero,List.set_cons_succ])
    (refine takeL (i:=10) (v:=?_) rfl (by kernel_rfl) (by kernel_rfl) (by kernel_rfl) (fun _ _ _ h=>h) (Or.inl ⟨by rfl,?_⟩) (by assumption) ?_)
    rotate_left
    ·(intro w hSw;(try dsimp only at hSw);go_simp;first | done | with_reducible rfl)
    (try simp only [Act.put,List.setIfInBounds_toArray,List.set_cons_zero,List.set_cons_succ])
    (refine takeL (i:=11) (v:=?_) rfl (by kernel_rfl) (by kernel_rfl) (by kernel_rfl) (fun _ _ _ h=>h) (Or.inl ⟨by rfl,?_⟩) (by assumption) ?_)
    rotate_left
    ·(intro w hSw;(try dsimp only at hSw);go_simp;first | done | with_reducible rfl)
    (try simp only [Act.put,List.setIfInBounds_toArray,List.set_cons_zero,List.set_cons_succ])
    (refine takeL (i:=12) (v:=?_) rfl (by kernel_rfl) (by kernel_rfl) (by kernel_rfl) (fun _ _ _ h=>h) (Or.inl ⟨by rfl,?_⟩) (by assumption) ?_)
    rotate_left
    ·(intro w hSw;(try dsimp only at hSw);go_simp;first | done | with_reducible rfl)
    (try simp only [Act.put,List.setIfInBounds_toArray,List.set_cons_zero,List.set_cons_succ])
    (refine wpAnyH_done (by kernel_rfl) ?_ _)
    clear hHeld
    have hXd:=Lib.hid hX.out.drew
    clear hX
    generalize wr.drew = wd at *
    rename World=>wr
    rename Hid (Below w.heap.size w wr)=>hX
    go_wp2_with fail
    go_ret
    exact ⟨by rw [hr.out] <;> rfl,hX.out⟩
   ·have dk:(kx == kd) = false:=by simpa using hkk
    have hfnd2:(∃ q∈l,kx = 2∧(L.ndAt bl q).kind = 2∧lx = -(L.ndAt bl q).lit)→Hid (decide (L.decidedP bl kd l) = true):=fun h=>hfnd (.inr h)
    have hnx2:(∀ q∈l,¬ (kx = 2∧(L.ndAt bl q).kind = 2∧lx = -(L.ndAt bl q).lit))→_:=fun h=>hnx (fun e=>e.elim hkk fun ⟨q,hq,e⟩=>h q hq e)
    replace hkk:=Lib.hid hkk
    replace hnx2:=Lib.hid hnx2
    replace hfnd2:=Lib.hid hfnd2
    clear hfnd hnx
    go_wp2_with fail
    (refine wp_region_held_drew (S:=(fun V=>V.cell? ⟨bx,1,none⟩ = some (.slice (some ⟨nb,no,none⟩) bl.length ncp)∧V.cell? ⟨b,o+k,none⟩ = some (.int .i64 (i:Nat))∧V.cell? ⟨nb,no+i * 3,none⟩ = some (.int .i64 kx))) (by kernel_rfl) ?_ (fun hHeld=>?_))
    ·exact hS.out _ hX.out.drew
    (refine takeL (i:=0) (v:=?_) rfl (by kernel_rfl) (by kernel_rfl) (by kernel_rfl) (fun _ _ _ h=>h) (Or.inl ⟨by rfl,?_⟩) (by assumption) ?_)
    rotate_left
    ·(intro w hSw;(try dsimp only at hSw);go_simp;first | done | with_reducible rfl)
    (try simp only [Act.put,List.setIfInBounds_toArray,List.set_cons_zero,List.set_cons_succ])
    (refine takeL (i:=1) (v:=?_) rfl (by kernel_rfl) (by kernel_rfl) (by kernel_rfl) (fun _ _ _ h=>h) (Or.inl ⟨by rfl,?_⟩) (by assumption) ?_)
    rotate_left
    ·(intro w hSw;(try dsimp only at hSw);go_simp;first | done | with_reducible rfl)
    (try simp only [Act.put,List.setIfInBounds_toArray,List.set_cons_zero,List.set_cons_succ])
    (refine takeL (i:=2) (v:=?_) rfl (by kernel_rfl) (by kernel_rfl) (by kernel_rfl) (fun _ _ _ h=>h) (Or.inl ⟨by rfl,?_⟩) (by assumption) ?_)
    rotate_left
    ·(intro w hSw;(try dsimp only at hSw);go_simp;first | done | with_reducible rfl)
    (try simp only [Act.put,List.setIfInBounds_toArray,List.set_cons_zero,List.set_cons_succ])
    (refine takeL (i:=3) (v:=?_) rfl (by kernel_rfl) (by kernel_rfl) (by kernel_rfl) (fun _ _ _ h=>h) (Or.inl ⟨by rfl,?_⟩) (by assumption) ?_)
    rotate_left
    ·(intro w hSw;(try dsimp only at hSw);go_simp;first | done | with_reducible rfl)
    (try simp only [Act.put,List.setIfInBounds_toArray,List.set_cons_zero,List.set_cons_succ])
    (refine takeL (i:=4) (v:=?_) rfl (by kernel_rfl) (by kernel_rfl) (by kernel_rfl) (fun _ _ _ h=>h) (Or.inl ⟨by rfl,?_⟩) (by assumption) ?_)
    rotate_left
    ·(intro w hSw;(try dsimp only at hSw);go_simp;first | done | with_reducible rfl)
    (try simp only [Act.put,List.setIfInBounds_toArray,List.set_cons_zero,List.set_cons_succ])
    (refine takeL (i:=5) (v:=?_) rfl (by kernel_rfl) (by kernel_rfl) (by kernel_rfl) (fun _ _ _ h=>h) (Or.inl ⟨by rfl,?_⟩) (by assumption) ?_)
    rotate_left
    ·(intro w hSw;(try dsimp only at hSw);go_simp;first | done | with_reducible rfl)
    (try simp only [Act.put,List.setIfInBounds_toArray,List.set_cons_zero,List.set_cons_succ])
    (refine takeL (i:=6) (v:=?_) rfl (by kernel_rfl) (by kernel_rfl) (by kernel_rfl) (fun _ _ _ h=>h) (Or.inl ⟨by rfl,?_⟩) (by assumption) ?_)
    rotate_left
    ·(intro w hSw;(try dsimp only at hSw);go_simp;first | done | with_reducible rfl)
    (try simp only [Act.put,List.setIfInBounds_toArray,List.set_cons_zero,List.set_cons_succ])
    (refine takeL (i:=7) (v:=?_) rfl (by kernel_rfl) (by kernel_rfl) (by kernel_rfl) (fun _ _ _ h=>h) (Or.inl ⟨by rfl,?_⟩) (by assumption) ?_)
    rotate_left
    ·(intro w hSw;(try dsimp only at hSw);go_simp;first | done | with_reducible rfl)
    (try simp only [Act.put,List.setIfInBounds_toArray,List.set_cons_zero,List.set_cons_succ])
    (refine takeL (i:=8) (v:=?_) rfl (by kernel_rfl) (by kernel_rfl) (by kernel_rfl) (fun _ _ _ h=>h) (Or.inl ⟨by rfl,?_⟩) (by assumption) ?_)
    rotate_left
    ·(intro w hSw;(try dsimp only at hSw);go_simp;first | done | with_reducible rfl)
    (try simp only [Act.put,List.setIfInBounds_toArray,List.set_cons_zero,List.set_cons_succ])
    (refine takeL (i:=9) (v:=?_) rfl (by kernel_rfl) (by kernel_rfl) (by kernel_rfl) (fun _ _ _ h=>h) (Or.inl ⟨by rfl,?_⟩) (by assumption) ?_)
    rotate_left
    ·(intro w hSw;(try dsimp only at hSw);go_simp;first | done | with_reducible rfl)
    (try simp only [Act.put,List.setIfInBounds_toArray,List.set_cons_zero,List.set_cons_succ])
    (refine takeL (i:=10) (v:=?_) rfl (by kernel_rfl) (by kernel_rfl) (by kernel_rfl) (fun _ _ _ h=>h) (Or.inl ⟨by rfl,?_⟩) (by assumption) ?_)
    rotate_left
    ·(intro w hSw;(try dsimp only at hSw);go_simp;first | done | with_reducible rfl)
    (try simp only [Act.put,List.setIfInBounds_toArray,List.set_cons_zero,List.set_cons_succ])
    (refine takeL (i:=11) (v:=?_) rfl (by kernel_rfl) (by kernel_rfl) (by kernel_rfl) (fun _ _ _ h=>h) (Or.inl ⟨by rfl,?_⟩) (by assumption) ?_)
    rotate_left
    ·(intro w hSw;(try dsimp only at hSw);go_simp;first | done | with_reducible rfl)
    (try simp only [Act.put,List.setIfInBounds_toArray,List.set_cons_zero,List.set_cons_succ])
    (refine takeL (i:=12) (v:=?_) rfl (by kernel_rfl) (by kernel_rfl) (by kernel_rfl) (fun _ _ _ h=>h) (Or.inl ⟨by rfl,?_⟩) (by assumption) ?_)
    rotate_left
    ·(intro w hSw;(try dsimp only at hSw);go_simp;first | done | with_reducible rfl)
    (try simp only [Act.put,List.setIfInBounds_toArray,List.set_cons_zero,List.set_cons_succ])
    (refine wpAnyH_done (by kernel_rfl) ?_ _)
    clear hHeld
    have hXd:=Lib.hid hX.out.drew
    clear hX
    generalize wr.drew = wd at *
    rename World=>wr
    rename Hid (Below w.heap.size w wr)=>hX
    go_wp2_with fail
    go_loopw [8] (fun i wr=>∃ m:Nat,m≤l.length∧i = .int .i64 (m:Nat)∧Hid (∀ j (hj:j < l.length),j < m→¬ (kx = 2∧(L.ndAt bl l[j]).kind = 2∧lx = -(L.ndAt bl l[j]).lit))∧Hid (Below w.heap.size w wr)) (fun i _=>l.length - (intOf i).toNat)
    case atStart=>exact ⟨0,Nat.zero_le _,rfl,Lib.hid (fun j _ h=>absurd h (Nat.not_lt_zero _)),hX⟩
    case round =>
     clear hX hS
     obtain ⟨m,hm',rfl,hJ,hX⟩:=hrel
     by_cases hltm:m < l.length
     ·have hil2:=hk.out _ (List.getElem_mem hltm)
      obtain ⟨_,_,e,-,hc2⟩:=hcs.out m hltm
      cases e
      have hfnd:(kx = 2∧(L.ndAt bl l[m]).kind = 2∧lx = -(L.ndAt bl l[m]).lit)→Hid (decide (L.decidedP bl kd l) = true):=fun h=>hfnd2.out ⟨l[m],List.getElem_mem hltm,h⟩
      have hnx:¬ (kx = 2∧(L.ndAt bl l[m]).kind = 2∧lx = -(L.ndAt bl l[m]).lit)→Hid (∀ j (hj:j < l.length),j < m+1→¬ (kx = 2∧(L.ndAt bl l[j]).kind = 2∧lx = -(L.ndAt bl l[j]).lit)):=fun h=>Lib.hid fun j hj hjk=>by
       by_cases e:j = m
       ·subst e;exact h
       ·exact hJ.out j hj (by omega)
      generalize l[m] = i2 at *
      obtain ⟨_,_,ab2,ac2,e,m0,m1,m2,-⟩:=hnd.out i2 hil2
      cases e
      have hly:=hlt.out i2 hil2
      generalize (L.ndAt bl i2).kind = ky at *
      generalize (L.ndAt bl i2).lit = ly at *
      generalize (L.ndAt bl i2).inp.length = il2 at *
      have wn:IntKind.i64.wrap (-ly) = -ly:=IntWalk.i64_in _ (by omega)
      have hS:∀ V,Below w.heap.size w V→V.cell? ⟨bx,1,none⟩ = some (.slice (some ⟨nb,no,none⟩) bl.length ncp)∧V.cell? ⟨b,o+k,none⟩ = some (.int .i64 (i:Nat))∧V.cell? ⟨b,o+m,none⟩ = some (.int .i64 (i2:Nat))∧(V.cell? ⟨nb,no+i * 3,none⟩ = some (.int .i64 kx)∧V.cell? ⟨nb,no+i * 3+1,none⟩ = some (.int .i64 lx)∧V.cell? ⟨nb,no+i * 3+2,none⟩ = some (.slice ab il ac))∧(V.cell? ⟨nb,no+i2 * 3,none⟩ = some (.int .i64 ky)∧V.cell? ⟨nb,no+i2 * 3+1,none⟩ = some (.int .i64 ly)∧V.cell? ⟨nb,no+i2 * 3+2,none⟩ = some (.slice ab2 il2 ac2)):=fun V hw=>by
       have kp:∀ {a:Addr} {v:Value},w.cell? a = some v→V.cell? a = some v:=fun e=>(hw.cell (World.block_lt_of_cell? w _ e)).trans e
       exact ⟨hbox.out V hw,kp hc.out,kp hc2,⟨kp n0.out,kp n1.out,kp n2.out⟩,kp m0,kp m1,kp m2⟩
      have g4:(0:Int)≤(i2:Int):=by omega
      have g5:(i2:Int) < (bl.length:Int):=by omega
      have g6:(0:Int)≤(m:Int):=by omega
      have g7:(m:Int) < (l.length:Int):=by omega
      replace hS:=Lib.hid hS
      clear hc2 m0 m1 m2 hly
      rename World=>wr
      go_upto_region 9 with fail
      go_cut [9,10] from 36 to 55 (fun s9 s10 wx=>∃ xb yb:Nat,s9 = .pointer (some ⟨xb,0,none⟩)∧s10 = .pointer (some ⟨yb,0,none⟩)∧Hid (Below w.heap.size w wx∧wx.heap[xb]? = some (.cells #[.int .i64 kx,.int .i64 lx,.slice ab il ac] 40 (0,0))∧wx.heap[yb]? = some (.cells #[.int .i64 ky,.int .i64 ly,.slice ab2 il2 ac2] 40 (0,0))))
      case first =>
       have hE:=Lib.hid hX.out.drew
       (refine wp_region_held_drew (S:=(fun V=>V.cell? ⟨bx,1,none⟩ = some (.slice (some ⟨nb,no,none⟩) bl.length ncp)∧V.cell? ⟨b,o+k,none⟩ = some (.int .i64 (i:Nat))∧V.cell? ⟨b,o+m,none⟩ = some (.int .i64 (i2:Nat))∧(V.cell? ⟨nb,no+i * 3,none⟩ = some (.int .i64 kx)∧V.cell? ⟨nb,no+i * 3+1,none⟩ = some (.int .i64 lx)∧V.cell? ⟨nb,no+i * 3+2,none⟩ = some (.slice ab il ac))∧(V.cell? ⟨nb,no+i2 * 3,none⟩ = some (.int .i64 ky)∧V.cell? ⟨nb,no+i2 * 3+1,none⟩ = some (.int .i64 ly)∧V.cell? ⟨nb,no+i2 * 3+2,none⟩ = some (.slice ab2 il2 ac2)))) (by kernel_rfl) ?_ (fun hHeld=>?_))
       ·exact hS.out _ hE.out
       clear hfnd hnx
       (refine takeL (i:=0) (v:=?_) rfl (by kernel_rfl) (by kernel_rfl) (by kernel_rfl) (fun _ _ _ h=>h) (Or.inl ⟨by rfl,?_⟩) (by assumption) ?_)
       rotate_left
       ·(intro w hSw;(try dsimp only at hSw);go_simp;first | done | with_reducible rfl)
       (try simp only [Act.put,List.setIfInBounds_toArray,List.set_cons_zero,List.set_cons_succ])
       (refine takeL (i:=1) (v:=?_) rfl (by kernel_rfl) (by kernel_rfl) (by kernel_rfl) (fun _ _ _ h=>h) (Or.inl ⟨by rfl,?_⟩) (by assumption) ?_)
       rotate_left
       ·(intro w hSw;(try dsimp only at hSw);go_simp;first | done | with_reducible rfl)
       (try simp only [Act.put,List.setIfInBounds_toArray,List.set_cons_zero,List.set_cons_succ])
       (refine takeL (i:=2) (v:=?_) rfl (by kernel_rfl) (by kernel_rfl) (by kernel_rfl) (fun _ _ _ h=>h) (Or.inl ⟨by rfl,?_⟩) (by assumption) ?_)
       rotate_left
       ·(intro w hSw;(try dsimp only at hSw);go_simp;first | done | with_reducible rfl)
       (try simp only [Act.put,List.setIfInBounds_toArray,List.set_cons_zero,List.set_cons_succ])
       (refine takeL (i:=3) (v:=?_) rfl (by kernel_rfl) (by kernel_rfl) (by kernel_rfl) (fun _ _ _ h=>h) (Or.inl ⟨by rfl,?_⟩) (by assumption) ?_)
       rotate_left
       ·(intro w hSw;(try dsimp only at hSw);go_simp;first | done | with_reducible rfl)
       (try simp only [Act.put,List.setIfInBounds_toArray,List.set_cons_zero,List.set_cons_succ])
       (refine takeL (i:=4) (v:=?_) rfl (by kernel_rfl) (by kernel_rfl) (by kernel_rfl) (fun _ _ _ h=>h) (Or.inl ⟨by rfl,?_⟩) (by assumption) ?_)
       rotate_left
       ·(intro w hSw;(try dsimp only at hSw);go_simp;first | done | with_reducible rfl)
       (try simp only [Act.put,List.setIfInBounds_toArray,List.set_cons_zero,List.set_cons_succ])
       (refine takeL (i:=5) (v:=?_) rfl (by kernel_rfl) (by kernel_rfl) (by kernel_rfl) (fun _ _ _ h=>h) (Or.inl ⟨by rfl,?_⟩) (by assumption) ?_)
       rotate_left
       ·(intro w hSw;(try dsimp only at hSw);go_simp;first | done | with_reducible rfl)
       (try simp only [Act.put,List.setIfInBounds_toArray,List.set_cons_zero,List.set_cons_succ])
       (refine takeL (i:=6) (v:=?_) rfl (by kernel_rfl) (by kernel_rfl) (by kernel_rfl) (fun _ _ _ h=>h) (Or.inl ⟨by rfl,?_⟩) (by assumption) ?_)
       rotate_left
       ·(intro w hSw;(try dsimp only at hSw);go_simp;first | done | with_reducible rfl)
       (try simp only [Act.put,List.setIfInBounds_toArray,List.set_cons_zero,List.set_cons_succ])
       (refine takeL (i:=7) (v:=?_) rfl (by kernel_rfl) (by kernel_rfl) (by kernel_rfl) (fun _ _ _ h=>h) (Or.inl ⟨by rfl,?_⟩) (by assumption) ?_)
       rotate_left
       ·(intro w hSw;(try dsimp only at hSw);go_simp;first | done | with_reducible rfl)
       (try simp only [Act.put,List.setIfInBounds_toArray,List.set_cons_zero,List.set_cons_succ])
       (refine takeL (i:=8) (v:=?_) rfl (by kernel_rfl) (by kernel_rfl) (by kernel_rfl) (fun _ _ _ h=>h) (Or.inl ⟨by rfl,?_⟩) (by assumption) ?_)
       rotate_left
       ·(intro w hSw;(try dsimp only at hSw);go_simp;first | done | with_reducible rfl)
       (try simp only [Act.put,List.setIfInBounds_toArray,List.set_cons_zero,List.set_cons_succ])
       (refine takeL (i:=9) (v:=?_) rfl (by kernel_rfl) (by kernel_rfl) (by kernel_rfl) (fun _ _ _ h=>h) (Or.inl ⟨by rfl,?_⟩) (by assumption) ?_)
       rotate_left
       ·(intro w hSw;(try dsimp only at hSw);go_simp;first | done | with_reducible rfl)
       (try simp only [Act.put,List.setIfInBounds_toArray,List.set_cons_zero,List.set_cons_succ])
       (refine takeL (i:=10) (v:=?_) rfl (by kernel_rfl) (by kernel_rfl) (by kernel_rfl) (fun _ _ _ h=>h) (Or.inl ⟨by rfl,?_⟩) (by assumption) ?_)
       rotate_left
       ·(intro w hSw;(try dsimp only at hSw);go_simp;first | done | with_reducible rfl)
       (try simp only [Act.put,List.setIfInBounds_toArray,List.set_cons_zero,List.set_cons_succ])
       (refine takeL (i:=11) (v:=?_) rfl (by kernel_rfl) (by kernel_rfl) (by kernel_rfl) (fun _ _ _ h=>h) (Or.inl ⟨by rfl,?_⟩) (by assumption) ?_)
       rotate_left
       ·(intro w hSw;(try dsimp only at hSw);go_simp;first | done | with_reducible rfl)
       (try simp only [Act.put,List.setIfInBounds_toArray,List.set_cons_zero,List.set_cons_succ])
       (refine takeL (i:=12) (v:=?_) rfl (by kernel_rfl) (by kernel_rfl) (by kernel_rfl) (fun _ _ _ h=>h) (Or.inl ⟨by rfl,?_⟩) (by assumption) ?_)
       rotate_left
       ·(intro w hSw;(try dsimp only at hSw);go_simp;first | done | with_reducible rfl)
       (try simp only [Act.put,List.setIfInBounds_toArray,List.set_cons_zero,List.set_cons_succ])
       (refine takeL (i:=13) (v:=?_) rfl (by kernel_rfl) (by kernel_rfl) (by kernel_rfl) (fun _ _ _ h=>h) (Or.inl ⟨by rfl,?_⟩) (by assumption) ?_)
       rotate_left
       ·(intro w hSw;(try dsimp only at hSw);go_simp;first | done | with_reducible rfl)
       (try simp only [Act.put,List.setIfInBounds_toArray,List.set_cons_zero,List.set_cons_succ])
       (refine takeL (i:=14) (v:=?_) rfl (by kernel_rfl) (by kernel_rfl) (by kernel_rfl) (fun _ _ _ h=>h) (Or.inl ⟨by rfl,?_⟩) (by assumption) ?_)
       rotate_left
       ·(intro w hSw;(try dsimp only at hSw);go_simp;first | done | with_reducible rfl)
       (try simp only [Act.put,List.setIfInBounds_toArray,List.set_cons_zero,List.set_cons_succ])
       (refine takeL (i:=15) (v:=?_) rfl (by kernel_rfl) (by kernel_rfl) (by kernel_rfl) (fun _ _ _ h=>h) (Or.inl ⟨by rfl,?_⟩) (by assumption) ?_)
       rotate_left
       ·(intro w hSw;(try dsimp only at hSw);go_simp;first | done | with_reducible rfl)
       (try simp only [Act.put,List.setIfInBounds_toArray,List.set_cons_zero,List.set_cons_succ])
       (refine takeL (i:=16) (v:=?_) rfl (by kernel_rfl) (by kernel_rfl) (by kernel_rfl) (fun _ _ _ h=>h) (Or.inl ⟨by rfl,?_⟩) (by assumption) ?_)
       rotate_left
       ·(intro w hSw;(try dsimp only at hSw);go_simp;first | done | with_reducible rfl)
       (try simp only [Act.put,List.setIfInBounds_toArray,List.set_cons_zero,List.set_cons_succ])
       (refine takeL (i:=17) (v:=?_) rfl (by kernel_rfl) (by kernel_rfl) (by kernel_rfl) (fun _ _ _ h=>h) (Or.inl ⟨by rfl,?_⟩) (by assumption) ?_)
       rotate_left
       ·(intro w hSw;(try dsimp only at hSw);go_simp;first | done | with_reducible rfl)
       (try simp only [Act.put,List.setIfInBounds_toArray,List.set_cons_zero,List.set_cons_succ])
       (refine takeL (i:=18) (v:=?_) rfl (by kernel_rfl) (by kernel_rfl) (by kernel_rfl) (fun _ _ _ h=>h) (Or.inl ⟨by rfl,?_⟩) (by assumption) ?_)
       rotate_left
       ·(intro w hSw;(try dsimp only at hSw);go_simp;first | done | with_reducible rfl)
       (try simp only [Act.put,List.setIfInBounds_toArray,List.set_cons_zero,List.set_cons_succ])
       (refine takeL (i:=19) (v:=?_) rfl (by kernel_rfl) (by kernel_rfl) (by kernel_rfl) (fun _ _ _ h=>h) (Or.inl ⟨by rfl,?_⟩) (by assumption) ?_)
       rotate_left
       ·(intro w hSw;(try dsimp only at hSw);go_simp;first | done | with_reducible rfl)
       (try simp only [Act.put,List.setIfInBounds_toArray,List.set_cons_zero,List.set_cons_succ])
       generalize wr.drew = wd at *
       refine wpAnyH_ready (rs:=[20,21]) (by kernel_rfl) (by simp) ?_
       refine consL2 rfl rfl (fun K hK=>?_) (fun K hK=>?_)
       ·(rw [if_pos (by rfl)])
        go_simp
        obtain ⟨xb,wv,hx',hW,hE2,hobxb,hoblxb,hbv⟩:=belAllocQ hE.out (.cells #[.int .i64 0,.int .i64 0,.slice none 0 0] 40)
        rw [←hW,←hx']
        replace hE:=Lib.hid hE2
        have hobxb_old:=hobxb
        replace hx':=Lib.hid hx'
        replace hW:=Lib.hid hW
        refine hK.out _ _ (hS.out _ hE.out) (fun hHeld=>?_)
        clear hE2 hbv hK K
        (try simp only [Act.put,List.setIfInBounds_toArray,List.set_cons_zero,List.set_cons_succ])
        refine wpAnyH_ready (rs:=[21]) (by kernel_rfl) (by simp) ?_
        refine consL rfl (fun K hK=>?_)
        (rw [if_pos (by rfl)])
        go_simp
        obtain ⟨yb,wv,hx',hW,hE2,hobyb,hoblyb,hbv⟩:=belAllocQ hE.out (.cells #[.int .i64 0,.int .i64 0,.slice none 0 0] 40)
        have hobxb:=(hbv.block _ (Array.getElem?_eq_some_iff.1 hobxb_old).1).trans hobxb_old
        have hne:xb≠yb:=fun e=>by
         have hl:=(Array.getElem?_eq_some_iff.1 hobxb_old).1
         omega
        rw [←hW,←hx']
        replace hE:=Lib.hid hE2
        replace hx':=Lib.hid hx'
        replace hW:=Lib.hid hW
        refine hK.out _ _ (hS.out _ hE.out) (fun hHeld=>?_)
        clear hE2 hbv hK K
        (try simp only [Act.put,List.setIfInBounds_toArray,List.set_cons_zero,List.set_cons_succ])
        obtain ⟨⟨z0,z1,z2⟩,y0,y1,y2⟩:=bx3q hobxb
        obtain ⟨⟨hF1,hF2⟩,hF3,hF4,hF5⟩:=store33 (a0:=.int .i64 kx) (a1:=.int .i64 lx) (a2:=.slice ab il ac) (b0:=.int .i64 ky) (b1:=.int .i64 ly) (b2:=.slice ab2 il2 ac2) hE.out hoblxb hoblyb hne hobxb hobyb
        replace hF1:=Lib.hid hF1
        replace hF2:=Lib.hid hF2
        replace hF3:=Lib.hid hF3
        replace hF4:=Lib.hid hF4
        replace hF5:=Lib.hid hF5
        replace hobxb:=Lib.hid hobxb
        replace hobyb:=Lib.hid hobyb
        (refine wpAnyH_ready (rs:=[22]) (by kernel_rfl) (by simp) ?_)
        (refine consL rfl (fun K hK=>?_))
        ((rw [if_pos (by rfl)]);go_simp;refine hK.out _ _ (hS.out _ hF1.out) (fun hHeld=>?_))
        (clear hK K)
        (try simp only [Act.put,List.setIfInBounds_toArray,List.set_cons_zero,List.set_cons_succ])
        clear z0 z1 z2 y0 y1 y2
        obtain ⟨⟨z0,z1,z2⟩,y0,y1,y2⟩:=bx3q hF2.out
        (refine wpAnyH_ready (rs:=[23]) (by kernel_rfl) (by simp) ?_)
        (refine consL rfl (fun K hK=>?_))
        ((rw [if_pos (by rfl)]);go_simp;refine hK.out _ _ (hS.out _ hF3.out) (fun hHeld=>?_))
        (clear hK K)
        (try simp only [Act.put,List.setIfInBounds_toArray,List.set_cons_zero,List.set_cons_succ])
        (refine wpAnyH_done (by kernel_rfl) ?_ _)
        go_wp2_with fail
        go_meet
        exact ⟨xb,yb,rfl,rfl,Lib.hid ⟨hF3.out,hF4.out,hF5.out⟩⟩
       ·(rw [if_pos (by rfl)])
        go_simp
        obtain ⟨yb,wv,hx',hW,hE2,hobyb,hoblyb,hbv⟩:=belAllocQ hE.out (.cells #[.int .i64 0,.int .i64 0,.slice none 0 0] 40)
        rw [←hW,←hx']
        replace hE:=Lib.hid hE2
        have hobyb_old:=hobyb
        replace hx':=Lib.hid hx'
        replace hW:=Lib.hid hW
        refine hK.out _ _ (hS.out _ hE.out) (fun hHeld=>?_)
        clear hE2 hbv hK K
        (try simp only [Act.put,List.setIfInBounds_toArray,List.set_cons_zero,List.set_cons_succ])
        refine wpAnyH_ready (rs:=[20]) (by kernel_rfl) (by simp) ?_
        refine consL rfl (fun K hK=>?_)
        (rw [if_pos (by rfl)])
        go_simp
        obtain ⟨xb,wv,hx',hW,hE2,hobxb,hoblxb,hbv⟩:=belAllocQ hE.out (.cells #[.int .i64 0,.int .i64 0,.slice none 0 0] 40)
        have hobyb:=(hbv.block _ (Array.getElem?_eq_some_iff.1 hobyb_old).1).trans hobyb_old
        have hne:xb≠yb:=fun e=>by
         have hl:=(Array.getElem?_eq_some_iff.1 hobyb_old).1
         omega
        rw [←hW,←hx']
        replace hE:=Lib.hid hE2
        replace hx':=Lib.hid hx'
        replace hW:=Lib.hid hW
        refine hK.out _ _ (hS.out _ hE.out) (fun hHeld=>?_)
        clear hE2 hbv hK K
        (try simp only [Act.put,List.setIfInBounds_toArray,List.set_cons_zero,List.set_cons_succ])
        obtain ⟨⟨z0,z1,z2⟩,y0,y1,y2⟩:=bx3q hobxb
        obtain ⟨⟨hF1,hF2⟩,hF3,hF4,hF5⟩:=store33 (a0:=.int .i64 kx) (a1:=.int .i64 lx) (a2:=.slice ab il ac) (b0:=.int .i64 ky) (b1:=.int .i64 ly) (b2:=.slice ab2 il2 ac2) hE.out hoblxb hoblyb hne hobxb hobyb
        replace hF1:=Lib.hid hF1
        replace hF2:=Lib.hid hF2
        replace hF3:=Lib.hid hF3
        replace hF4:=Lib.hid hF4
        replace hF5:=Lib.hid hF5
        replace hobxb:=Lib.hid hobxb
        replace hobyb:=Lib.hid hobyb
        (refine wpAnyH_ready (rs:=[22]) (by kernel_rfl) (by simp) ?_)
        (refine consL rfl (fun K hK=>?_))
        ((rw [if_pos (by rfl)]);go_simp;refine hK.out _ _ (hS.out _ hF1.out) (fun hHeld=>?_))
        (clear hK K)
        (try simp only [Act.put,List.setIfInBounds_toArray,List.set_cons_zero,List.set_cons_succ])
        clear z0 z1 z2 y0 y1 y2
        obtain ⟨⟨z0,z1,z2⟩,y0,y1,y2⟩:=bx3q hF2.out
        (refine wpAnyH_ready (rs:=[23]) (by kernel_rfl) (by simp) ?_)
        (refine consL rfl (fun K hK=>?_))
        ((rw [if_pos (by rfl)]);go_simp;refine hK.out _ _ (hS.out _ hF3.out) (fun hHeld=>?_))
        (clear hK K)
        (try simp only [Act.put,List.setIfInBounds_toArray,List.set_cons_zero,List.set_cons_succ])
        (refine wpAnyH_done (by kernel_rfl) ?_ _)
        go_wp2_with fail
        go_meet
        exact ⟨xb,yb,rfl,rfl,Lib.hid ⟨hF3.out,hF4.out,hF5.out⟩⟩
      case rest =>
       clear hX
       obtain ⟨xb,yb,rfl,rfl,hR9⟩:=hcut
       obtain ⟨hb9,hx9,hy9⟩:=hR9.out
       obtain ⟨⟨x0,x1,-⟩,-⟩:=bx3q hx9
       obtain ⟨⟨y0,y1,-⟩,-⟩:=bx3q hy9
       replace hb9:=Lib.hid hb9
       replace hx9:=Lib.hid hx9
       replace hy9:=Lib.hid hy9
       by_cases k2:kx = 2
       ·have dk2:(kx == 2) = true:=by simpa using k2
        by_cases m2:ky = 2
        ·have dm2:(ky == 2) = true:=by simpa using m2
         by_cases e2:lx = -ly
         ·have de2:(lx == -ly) = true:=by simpa using e2
          have hr:=hfnd ⟨k2,m2,e2⟩
          replace k2:=Lib.hid k2
          replace m2:=Lib.hid m2
          replace e2:=Lib.hid e2
          clear hfnd hnx
          go_wp2_with fail
          go_ret
          exact ⟨by rw [hr.out] <;> rfl,hb9.out⟩
         ·have de2:(lx == -ly) = false:=by simpa using e2
          have hn2:=hnx (fun h=>e2 h.2.2)
          replace k2:=Lib.hid k2
          replace m2:=Lib.hid m2
          replace e2:=Lib.hid e2
          clear hfnd hnx
          go_wp2_with fail
          go_roundw
          case rel=>exact ⟨m+1,by omega,by go_num,hn2,hb9⟩
          case measure=>simp [intOf];omega
        ·have dm2:(ky == 2) = false:=by simpa using m2
         have hn2:=hnx (fun h=>m2 h.2.1)
         replace k2:=Lib.hid k2
         replace m2:=Lib.hid m2
         clear hfnd hnx
         go_wp2_with fail
         go_roundw
         case rel=>exact ⟨m+1,by omega,by go_num,hn2,hb9⟩
         case measure=>simp [intOf];omega
       ·have dk2:(kx == 2) = false:=by simpa using k2
        have hn2:=hnx (fun h=>k2 h.1)
        replace k2:=Lib.hid k2
        clear hfnd hnx
        go_wp2_with fail
        go_roundw
        case rel=>exact ⟨m+1,by omega,by go_num,hn2,hb9⟩
        case measure=>simp [intOf];omega
     ·obtain rfl:m = l.length:=by omega
      have hnx:=hnx2.out (fun q hq=>by
       obtain ⟨j,hj,rfl⟩:=List.getElem_of_mem hq
       exact hJ.out j hj hj)
      go_wp2_with fail
      go_roundw
      case rel=>exact ⟨k+1,by omega,by go_num,hnx,hX⟩
      case measure=>simp [intOf];omega
  ·obtain rfl:k = l.length:=by omega
   have hr:Hid (decide (L.decidedP bl kd l) = false):=Lib.hid (decide_eq_false fun ⟨i,hi,e⟩=>by
    obtain ⟨j,hj,rfl⟩:=List.getElem_of_mem hi
    exact hI.out j hj hj e)
   go_wp2_with fail
   go_ret
   exact ⟨by rw [hr.out] <;> rfl,hX.out⟩
end Go.Proofs.YtckhohpbokojdaaGreatDoor
