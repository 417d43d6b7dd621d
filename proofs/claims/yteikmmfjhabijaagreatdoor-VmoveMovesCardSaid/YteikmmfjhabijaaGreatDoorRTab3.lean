import Derived.Test.YteikmmfjhabijaaGreatDoorRLaw8
import Derived.Test.YteikmmfjhabijaaGreatDoorRReg
set_option linter.unusedSimpArgs false
set_option linter.unusedVariables false
namespace Go.Proofs.YteikmmfjhabijaaGreatDoor
open Go Go.RowKit Go.Shelf
theorem xor_nat (y z:Nat) (hy:y < 64) (hz:z < 64):bits BinOp.xor IntKind.i64 (y:Int) (z:Int) = ((y ^^^ z:Nat):Int):=by
 have hlt:y ^^^ z < 2 ^ 6:=Nat.xor_lt_two_pow hy hz
 show IntKind.i64.wrap (((BitVec.ofInt 64 (y:Int) ^^^ BitVec.ofInt 64 (z:Int):BitVec 64).toNat:Nat):Int) = _
 rw [show ((BitVec.ofInt 64 (y:Int) ^^^ BitVec.ofInt 64 (z:Int)).toNat) = y ^^^ z from by
  rw [BitVec.toNat_xor,BitVec.ofInt_natCast,BitVec.ofInt_natCast,BitVec.toNat_ofNat,BitVec.toNat_ofNat,Nat.mod_eq_of_lt (by omega),Nat.mod_eq_of_lt (by omega)]]
 rw [IntWalk.i64_in _ (by omega)]
def depI (n k:Nat) (f:List Bool) (i:Nat):Bool:=(List.range i).any fun i=>f.getD i false != f.getD (i ^^^ 2 ^ (n - 1 - k)) false
theorem depI_succ (n k:Nat) (f:List Bool) (i:Nat):depI n k f (i+1) = (depI n k f i || (f.getD i false != f.getD (i ^^^ 2 ^ (n - 1 - k)) false)):=by
 unfold depI;rw [List.range_succ,List.any_append];simp
def depLK (l:List Int) (f:List Bool) (k:Nat):List Int:=((List.range k).filter fun k=>L.depB l.length k f).map fun k=>l.getD k 0
theorem depLK_succ (l:List Int) (f:List Bool) (k:Nat):depLK l f (k+1) = if L.depB l.length k f = true then depLK l f k++[l.getD k 0] else depLK l f k:=by
 unfold depLK
 rw [List.range_succ,List.filter_append,List.map_append]
 cases h:L.depB l.length k f <;> simp [List.filter_cons,h]
theorem depLK_len (l:List Int) (f:List Bool) (k:Nat):(depLK l f k).length≤k:=by
 unfold depLK
 rw [List.length_map]
 exact Nat.le_trans (List.length_filter_le _ _) (by simp)
def DepLoop (w:World) (l:List Int) (f:List Bool) (k:Nat) (v:Value) (wr:World):Prop :=
 Below w.heap.size w wr∧w.heap.size < wr.heap.size∧wr.ownsRow (w.heap.size+1) 3 1 v (depLK l f k).length ((depLK l f k).map encZ)∧wr.heap[w.heap.size]? = some (.cells #[.int .u64 0,.int .u64 0] 29 (0,0))
theorem DepLoop.next {w:World} {l:List Int} {f:List Bool} {k:Nat} {v:Value} {wr w':World} (h:DepLoop w l f k v wr) (hb:Below wr.heap.size wr w'):DepLoop w l f k v w':=by
 obtain ⟨h1,h2,h3,h4⟩:=h
 exact ⟨h1.trans (hb.mono h1.size),Nat.lt_of_lt_of_le h2 hb.size,ownsRow_same h3 (fun _ hg=>hb.block _ (own_lt h3 hg).1),(hb.block _ h2).trans h4⟩
set_option maxRecDepth 100000 in
set_option maxHeartbeats 400000 in
theorem depends_any {w:World} {vl vf:Value} {l:List Int} {f:List Bool} (hv:SlI w vl l) (hf:SlB w vf f) (hl:l.length≤6) (hN:f.length = 2 ^ l.length) :
  Calls Tryz.prog 114 #[vl,vf] w fun e w'=>e = .returned (encS (ofS (L.depL l f)))∧Below w.heap.size w w':=by
 obtain ⟨ba,c,rfl,hc⟩:=hv
 obtain ⟨bf,of,cf,rfl,hfl,hfc⟩:=hf
 have hp6:=pow_le64 hl
 have hcell:Hid (∀ k (hk:k < l.length),∃ b o,ba = some ⟨b,o,none⟩∧b < w.heap.size∧w.cell? ⟨b,o+k,none⟩ = some (.int .i64 l[k])):=Lib.hid fun k hk=>by
  rcases hc with ⟨_,rfl,_⟩ | ⟨b,o,e,h⟩
  ·simp at hk
  ·exact ⟨b,o,e,World.block_lt_of_cell? w _ (h k hk),h k hk⟩
 obtain ⟨i0,hi0,hz0,hz1,hz2⟩:∃ i,Tryz.prog.info? 3 = some i∧i.zero = some (.int .i64 0)∧i.size = 1∧i.bytes = 8:=by
  have h:=int_info
  cases hh:Tryz.prog.info? 3 with
  | none=>rw [hh] at h;cases h
  | some i =>
    rw [hh] at h
    simp only [Option.map_some,Option.some.injEq,Prod.mk.injEq] at h
    exact ⟨i,rfl,h.1,h.2.1,h.2.2⟩
 have hbx:=heap_alloc_new w (.cells #[.int .u64 0,.int .u64 0] 29)
 have hb1:=(Below.refl w.heap.size w).alloc (Nat.le_refl _) (.cells #[.int .u64 0,.int .u64 0] 29)
 have h0:Hid (DepLoop w l f 0 (.slice none 0 0) (w.alloc (.cells #[.int .u64 0,.int .u64 0] 29))):=Lib.hid ⟨hb1,by simp,⟨rfl,.inl ⟨rfl,rfl⟩⟩,hbx⟩
 replace hfc:=Lib.hid hfc
 replace hN:=Lib.hid hN
 clear hc hbx hb1
 go_enter Tryz.func114,Tryz.ntmps114
 go_wp2_with fail
 generalize w.alloc (.cells #[.int .u64 0,.int .u64 0] 29) = w1 at *
 go_loopw [5,6] (fun v kv wr=>∃ k:Nat,k≤l.length∧kv = .int .i64 k∧Hid (DepLoop w l f k v wr)) (fun _ kv _=>l.length - (intOf kv).toNat)
 case atStart=>exact ⟨0,Nat.zero_le _,rfl,h0⟩
 case round =>
  clear h0
  obtain ⟨k,hk,rfl,hI⟩:=hrel
  by_cases hlt:k < l.length
  ·have dk:decide ((k:Int) < (l.length:Int)) = true:=decide_eq_true (by omega)
   go_wp2_with fail
   obtain ⟨b,o,rfl,hbl,hz⟩:=hcell.out k hlt
   have hsk:=Lib.hid (depLK_succ l f k)
   have hdk:=depLK_len l f k
   have hlk:l.getD k 0 = l[k]:=by rw [List.getD_eq_getElem?_getD,List.getElem?_eq_getElem hlt];rfl
   rw [hlk] at hsk
   have hpk:2 ^ (l.length - 1 - k) < 64:=Nat.lt_of_lt_of_le (Nat.pow_lt_pow_right (by omega) (by omega)) hp6
   have hbit:=Lib.hid (fun W=>bit_any l.length k hlt (by omega) W)
   have hxl:Hid (∀ i,i < f.length→i ^^^ 2 ^ (l.length - 1 - k) < f.length):=Lib.hid fun i hi=>by
    have e:=hN.out
    rw [e] at hi ⊢
    exact L.xor_lt hlt hi
   have hstep:=Lib.hid (fun i=>depI_succ l.length k f i)
   have hdep:Hid (L.depB l.length k f = depI l.length k f f.length):=Lib.hid rfl
   have hI0:Hid (depI l.length k f 0 = false):=Lib.hid rfl
   have hf64:f.length≤64:=by rw [hN.out];exact hp6
   generalize hP:2 ^ (l.length - 1 - k) = P at *
   generalize hl0:l[k] = z at *
   generalize hD:depI l.length k f = D at *
   replace hP:=Lib.hid hP
   replace hl0:=Lib.hid hl0
   replace hD:=Lib.hid hD
   clear hlk
   obtain ⟨wo,rfl⟩:∃ wo,wo = wr:=⟨wr,rfl⟩
   go_loopw [7,8] (fun sv iv wr'=>∃ i:Nat,i≤f.length∧iv = .int .i64 i∧sv = .bool (D i)∧Hid (DepLoop w l f k u5 wr')) (fun _ iv _=>f.length - (intOf iv).toNat)
   case atStart=>exact ⟨0,Nat.zero_le _,rfl,by rw [hI0.out],hI⟩
   case round =>
    clear hI
    obtain ⟨i,hi,rfl,rfl,hI⟩:=hrel
    by_cases hli:i < f.length
    ·have di:decide ((i:Int) < (f.length:Int)) = true:=decide_eq_true (by omega)
     have hj:=hxl.out i hli
     have hxor:=xor_nat i P (by omega) hpk
     have hst:=Lib.hid (hstep.out i)
     generalize i ^^^ P = j at *
     have F:Hid (∀ wq,Ext wr wq→wq.cell? ⟨bf,of+i,none⟩ = some (.bool f[i])∧wq.cell? ⟨bf,of+j,none⟩ = some (.bool f[j])):=Lib.hid fun wq hq =>
      ⟨hq.cell ((hI.out.1.cell (p:=⟨bf,of+i,none⟩) hfl).trans (hfc.out i hli)),hq.cell ((hI.out.1.cell (p:=⟨bf,of+j,none⟩) hfl).trans (hfc.out j hj))⟩
     have gi:(0:Int)≤i:=by omega
     have gi2:(i:Int) < f.length:=by omega
     have gj:(0:Int)≤j:=by omega
     have gj2:(j:Int) < f.length:=by omega
     have e1:f.getD i false = f[i]:=by rw [List.getD_eq_getElem?_getD,List.getElem?_eq_getElem hli];rfl
     have e2:f.getD j false = f[j]:=by rw [List.getD_eq_getElem?_getD,List.getElem?_eq_getElem hj];rfl
     rw [e1,e2] at hst
     clear e1 e2
     generalize f[i] = fi at *
     generalize f[j] = fj at *
     cases hd:D i
     ·rw [hd,Bool.false_or] at hst
      go_wp2_with fail
      (refine wp_region_below (by kernel_rfl) (by kernel_rfl) ?_
       repeat (refine wpQuiet_step (fun K hK=>?_)
               go_simp
               first
                | (refine hK _ ?_;clear hK K)
                | (replace hK:=Lib.hid hK
                   apply Exists.intro
                   refine ⟨fun wq hq=>?_,hK.out _ ?_⟩
                   ·(obtain ⟨f1,f2⟩:=F.out wq hq)
                    go_simp
                    first
                     | done
                     | rfl
                     | exact ⟨rfl,rfl⟩
                     | (refine (hbit.out _).mono ?_;rintro e w' ⟨rfl,rfl⟩;exact ⟨rfl,hq⟩)
                   clear hK K))
       refine wpQuiet_nil ?_)
      intro w5 hx5
      go_wp2_with fail
      go_roundw
      case rel=>exact ⟨i+1,by omega,by go_num,by rw [hst.out] <;> rfl,Lib.hid (hI.out.next hx5.below)⟩
      case measure=>simp [intOf];omega
     ·rw [hd,Bool.true_or] at hst
      go_wp2_with fail
      (refine wp_region_held_drew (S:=(fun _=>True)) (by kernel_rfl) ?_ (fun hHeld=>?_))
      ·trivial
      have hT:True:=trivial
      (refine takeL (i:=0) (v:=?_) rfl (by kernel_rfl) (by kernel_rfl) (by kernel_rfl) (fun _ _ _ h=>h) (Or.inl ⟨by rfl,?_⟩) (by assumption) ?_)
      rotate_left
      ·(intro w hSw;(try dsimp only at hSw);go_simp;first | done | with_reducible rfl)
      (try simp only [Act.put,List.setIfInBounds_toArray,List.set_cons_zero,List.set_cons_succ])
      (refine takeL (i:=1) (v:=?_) rfl (by kernel_rfl) (by kernel_rfl) (by kernel_rfl) (fun _ _ _ h=>h) (Or.inl ⟨by rfl,?_⟩) (by assumption) ?_)
      rotate_left
      ·(intro w hSw;(try dsimp only at hSw);go_simp;first | done | with_reducible rfl)
      (try simp only [Act.put,List.setIfInBounds_toArray,List.set_cons_zero,List.set_cons_succ])
      (refine takeL (i:=2) (v:=_) rfl (by kernel_rfl) (by kernel_rfl) (by kernel_rfl) (fun _ _ _ h=>h) (Or.inr ⟨by rfl,rfl⟩) (by assumption) ?_)
      (try simp only [Act.put,List.setIfInBounds_toArray,List.set_cons_zero,List.set_cons_succ])
      (refine takeL (i:=3) (v:=_) rfl (by kernel_rfl) (by kernel_rfl) (by kernel_rfl) (fun _ _ _ h=>h) (Or.inr ⟨by rfl,rfl⟩) (by assumption) ?_)
      (try simp only [Act.put,List.setIfInBounds_toArray,List.set_cons_zero,List.set_cons_succ])
      (refine takeL (i:=4) (v:=_) rfl (by kernel_rfl) (by kernel_rfl) (by kernel_rfl) (fun _ _ _ h=>h) (Or.inr ⟨by rfl,rfl⟩) (by assumption) ?_)
      (try simp only [Act.put,List.setIfInBounds_toArray,List.set_cons_zero,List.set_cons_succ])
      (refine takeL (i:=5) (v:=_) rfl (by kernel_rfl) (by kernel_rfl) (by kernel_rfl) (fun _ _ _ h=>h) (Or.inr ⟨by rfl,rfl⟩) (by assumption) ?_)
      (try simp only [Act.put,List.setIfInBounds_toArray,List.set_cons_zero,List.set_cons_succ])
      (refine takeL (i:=6) (v:=_) rfl (by kernel_rfl) (by kernel_rfl) (by kernel_rfl) (fun _ _ _ h=>h) (Or.inr ⟨by rfl,rfl⟩) (by assumption) ?_)
      (try simp only [Act.put,List.setIfInBounds_toArray,List.set_cons_zero,List.set_cons_succ])
      (refine takeL (i:=7) (v:=_) rfl (by kernel_rfl) (by kernel_rfl) (by kernel_rfl) (fun _ _ _ h=>h) (Or.inr ⟨by rfl,rfl⟩) (by assumption) ?_)
      (try simp only [Act.put,List.setIfInBounds_toArray,List.set_cons_zero,List.set_cons_succ])
      (refine takeL (i:=8) (v:=_) rfl (by kernel_rfl) (by kernel_rfl) (by kernel_rfl) (fun _ _ _ h=>h) (Or.inr ⟨by rfl,rfl⟩) (by assumption) ?_)
      (try simp only [Act.put,List.setIfInBounds_toArray,List.set_cons_zero,List.set_cons_succ])
      (refine takeL (i:=9) (v:=_) rfl (by kernel_rfl) (by kernel_rfl) (by kernel_rfl) (fun _ _ _ h=>h) (Or.inr ⟨by rfl,rfl⟩) (by assumption) ?_)
      (try simp only [Act.put,List.setIfInBounds_toArray,List.set_cons_zero,List.set_cons_succ])
      (refine takeL (i:=10) (v:=_) rfl (by kernel_rfl) (by kernel_rfl) (by kernel_rfl) (fun _ _ _ h=>h) (Or.inr ⟨by rfl,rfl⟩) (by assumption) ?_)
      (try simp only [Act.put,List.setIfInBounds_toArray,List.set_cons_zero,List.set_cons_succ])
      (refine takeL (i:=11) (v:=_) rfl (by kernel_rfl) (by kernel_rfl) (by kernel_rfl) (fun _ _ _ h=>h) (Or.inr ⟨by rfl,rfl⟩) (by assumption) ?_)
      (try simp only [Act.put,List.setIfInBounds_toArray,List.set_cons_zero,List.set_cons_succ])
      (refine takeL (i:=12) (v:=_) rfl (by kernel_rfl) (by kernel_rfl) (by kernel_rfl) (fun _ _ _ h=>h) (Or.inr ⟨by rfl,rfl⟩) (by assumption) ?_)
      (try simp only [Act.put,List.setIfInBounds_toArray,List.set_cons_zero,List.set_cons_succ])
      (refine takeL (i:=13) (v:=_) rfl (by kernel_rfl) (by kernel_rfl) (by kernel_rfl) (fun _ _ _ h=>h) (Or.inr ⟨by rfl,rfl⟩) (by assumption) ?_)
      (try simp only [Act.put,List.setIfInBounds_toArray,List.set_cons_zero,List.set_cons_succ])
      (refine takeL (i:=14) (v:=_) rfl (by kernel_rfl) (by kernel_rfl) (by kernel_rfl) (fun _ _ _ h=>h) (Or.inr ⟨by rfl,rfl⟩) (by assumption) ?_)
      (try simp only [Act.put,List.setIfInBounds_toArray,List.set_cons_zero,List.set_cons_succ])
      (refine takeL (i:=15) (v:=_) rfl (by kernel_rfl) (by kernel_rfl) (by kernel_rfl) (fun _ _ _ h=>h) (Or.inr ⟨by rfl,rfl⟩) (by assumption) ?_)
      (try simp only [Act.put,List.setIfInBounds_toArray,List.set_cons_zero,List.set_cons_succ])
      (refine takeL (i:=16) (v:=?_) rfl (by kernel_rfl) (by kernel_rfl) (by kernel_rfl) (fun _ _ _ h=>h) (Or.inl ⟨by rfl,?_⟩) (by assumption) ?_)
      rotate_left
      ·(intro w hSw;(try dsimp only at hSw);go_simp;first | done | with_reducible rfl)
      (try simp only [Act.put,List.setIfInBounds_toArray,List.set_cons_zero,List.set_cons_succ])
      (refine takeL (i:=17) (v:=?_) rfl (by kernel_rfl) (by kernel_rfl) (by kernel_rfl) (fun _ _ _ h=>h) (Or.inl ⟨by rfl,?_⟩) (by assumption) ?_)
      rotate_left
      ·(intro w hSw;(try dsimp only at hSw);go_simp;first | done | with_reducible rfl)
      (try simp only [Act.put,List.setIfInBounds_toArray,List.set_cons_zero,List.set_cons_succ])
      (refine wpAnyH_done (by kernel_rfl) ?_ _)
      have hId:=hI.out.next (Below.refl wr.heap.size wr).drew
      go_wp2_with fail
      go_roundw
      case rel=>exact ⟨i+1,by omega,by go_num,by rw [hst.out],Lib.hid hId⟩
      case measure=>simp [intOf];omega
    ·have di:decide ((i:Int) < (f.length:Int)) = false:=decide_eq_false (by omega)
     obtain rfl:i = f.length:=by omega
     rw [hdep.out] at hsk
     have hzo:=(hI.out.1.cell hbl).trans hz
     cases hd:D f.length
     ·rw [hd] at hsk
      have hnext:Hid (DepLoop w l f (k+1) u5 wr):=Lib.hid (by
       obtain ⟨g1,g2,g3,g4⟩:=hI.out
       refine ⟨g1,g2,?_,g4⟩
       have:=hsk.out
       simp only [Bool.false_eq_true,if_false] at this
       rw [this];exact g3)
      go_wp2_with fail
      go_roundw
      case rel=>exact ⟨k+1,by omega,by go_num,hnext⟩
      case measure=>simp [intOf];omega
     ·rw [hd] at hsk
      obtain ⟨g1,g2,g3,g4⟩:=hI.out
      clear hI
      go_wp2_with (at_builtin;refine wpList_append_own _ rfl _ _ 32 rfl (w.heap.size+1) 3 i0 (.int .i64 0) 1 8 Tryz.underlying32 hi0 hz0 hz1 hz2 rfl (by decide) _ _ _ rfl (g3.alloc _) ⟨wr.heap.size,0,none⟩ 1 1 [.int .i64 z] rfl rfl (cell_one_at _ _ _ _ rfl) (by simp [Value.oneCell']) (by unfold maxLen;omega) (by omega) (by simp;omega) ?_;intro v3 w3 ho3 hg3 _)
      have hnext:Hid (DepLoop w l f (k+1) v3 w3):=Lib.hid (by
       have e:=hsk.out
       simp only [if_true] at e
       refine ⟨?_,?_,by rw [e];exact own_cast ho3 (by simp) (by simp [encZ]),?_⟩
       ·exact Below.grown (g1.alloc g1.size _) hg3 (by simp;have:=g1.size;omega) (fun k e=>by have:=own_ge g3 e;omega)
       ·have:=hg3.size;simp at this;omega
       ·refine (hg3.block _ (by simp;omega) (fun e=>by have:=own_ge g3 e.symm;omega)).trans ((heap_alloc_old _ _ g2).trans g4))
      go_roundw
      case rel=>exact ⟨k+1,by omega,by go_num,hnext⟩
      case measure=>simp [intOf];omega
  ·have dk:decide ((k:Int) < (l.length:Int)) = false:=decide_eq_false (by omega)
   obtain rfl:k = l.length:=by omega
   obtain ⟨g1,g2,g3,g4⟩:=hI.out
   clear hI
   have he:depLK l f l.length = L.depL l f:=rfl
   rw [he] at g3
   have hle:(L.depL l f).length≤6:=by have:=depLK_len l f l.length;rw [he] at this;omega
   have qo:=refOf_any (L.depL l f) _ wr (owns_slI (own_base (B':=w.heap.size) g3 (by omega))) (by omega)
   replace g3:=Lib.hid g3
   go_wp2_with fail
   refine qo.mono ?_
   rintro e w4 ⟨rfl,hb4⟩
   have hblk:w4.heap[w.heap.size]? = _:=(hb4.block _ g2).trans g4
   obtain ⟨y0,y1⟩:=pbox_cells hblk
   have z0:w4.frozen? ⟨w.heap.size,0,none⟩ = false:=by simp [World.frozen?,hblk]
   have z1:w4.frozen? ⟨w.heap.size,1,none⟩ = false:=by simp [World.frozen?,hblk]
   unfold encS
   generalize hx0:lo (ofS (L.depL l f)) = x0 at *
   generalize hx1:hi (ofS (L.depL l f)) = x1 at *
   obtain ⟨r0,r1⟩:=pbox_cells (heap_set2 hblk (.int .u64 x0) (.int .u64 x1))
   have hBo:Below w.heap.size w ((w4.setCell ⟨w.heap.size,0,none⟩ (.int .u64 x0)).setCell ⟨w.heap.size,1,none⟩ (.int .u64 x1)):=((g1.trans (hb4.mono g1.size)).setCell (Nat.le_refl _) _).setCell (Nat.le_refl _) _
   go_wp2_with fail
   exact bodyPost_ret (v:=.agg #[.int .u64 x0,.int .u64 x1]) (by simp [results,Tryz.results114,go_sem,r0,r1]) rfl ⟨by rw [encS,hx0,hx1],hBo⟩
end Go.Proofs.YteikmmfjhabijaaGreatDoor
