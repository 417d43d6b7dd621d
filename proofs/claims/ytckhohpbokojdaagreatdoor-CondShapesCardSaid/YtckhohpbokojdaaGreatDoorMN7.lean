import Derived.Test.YtckhohpbokojdaaGreatDoorMN6
set_option linter.unusedSimpArgs false
set_option linter.unusedVariables false
namespace Go.Proofs.YtckhohpbokojdaaGreatDoor
open Go Go.RowKit Go.Shelf
set_option maxRecDepth 100000 in
set_option maxHeartbeats 8000000 in
theorem one_any {B:InB} {lo base o' bx pm i:Nat} {n drop fin:Int} {bl:List L.ND} {vL:Value} {us:List Value} {a:L.InS} {w0 W:World} (hN:NBat lo base bx pm n bl vL us w0) (hb0:Below w0.heap.size w0 W) (hI:InAt B w0.heap.size o' bx drop fin a W) (hi:i < bl.length) (hf2:fin≠2) (hd2:drop≠2) (hlen:a.out.length < 100000) (hbl:bl.length≤65536) (hlit:-9223372036854775808 < (L.ndAt bl i).lit∧(L.ndAt bl i).lit≤9223372036854775807) :
  Calls Tryz.prog 113 #[.int .i64 (i:Nat),.pointer (some ⟨B.b5,0,none⟩),.pointer (some ⟨B.b9,0,none⟩),.pointer (some ⟨B.b13,0,none⟩),.pointer (some ⟨B.b14,0,none⟩),.pointer (some ⟨B.b8,0,none⟩),.pointer (some ⟨B.b12,0,none⟩)] W fun e W'=>e = .returned (.tuple #[])∧Below w0.heap.size w0 W'∧InAt B w0.heap.size o' bx drop fin (L.inStep bl drop fin a i) W':=by
 have hNW:=hN.next hb0
 have hstep:L.inStep bl drop fin a i = (if (L.ndAt bl i).kind = 2 then { (if (L.ndAt bl i).kind = fin∨((L.ndAt bl i).kind = 2∧-(L.ndAt bl i).lit∈a.lits) then { a with opn:=false } else if (L.ndAt bl i).kind≠drop∧i∉a.out then { a with out:=a.out++[i] } else a:L.InS) with lits:=(L.ndAt bl i).lit :: (if (L.ndAt bl i).kind = fin∨((L.ndAt bl i).kind = 2∧-(L.ndAt bl i).lit∈a.lits) then { a with opn:=false } else if (L.ndAt bl i).kind≠drop∧i∉a.out then { a with out:=a.out++[i] } else a:L.InS).lits } else (if (L.ndAt bl i).kind = fin∨((L.ndAt bl i).kind = 2∧-(L.ndAt bl i).lit∈a.lits) then { a with opn:=false } else if (L.ndAt bl i).kind≠drop∧i∉a.out then { a with out:=a.out++[i] } else a:L.InS)):=rfl
 rw [hstep]
 clear hstep
 obtain ⟨g,o,cp,bb,cc,rfl,n0,n1,n2,_⟩:=hNW.node hi
 obtain ⟨-,c1,-⟩:=hNW.cells
 obtain ⟨vo,i5,i8,i9,i13,i14,i12,hro⟩:=hI.cells
 generalize L.ndAt bl i = x at *
 obtain ⟨kd,lt,ip⟩:=x
 dsimp only at *
 have g0:(0:Int)≤(i:Int):=by omega
 have g1:(i:Int) < (bl.length:Int):=by omega
 -- the world with the box
 have hb1:Below W.heap.size W (W.alloc (.cells #[.int .i64 kd,.int .i64 lt,.slice bb ip.length cc] 40)):=(Below.refl _ W).alloc (Nat.le_refl _) _
 have e1:=heap_alloc_new W (.cells #[.int .i64 kd,.int .i64 lt,.slice bb ip.length cc] 40)
 have hI1:=hI.next hb1
 have hB1:=hb0.trans (hb1.mono hb0.size)
 obtain ⟨vo',-,j8,j9,j13,j14,j12,hro1⟩:=hI1.cells
 have x0:(W.alloc (.cells #[.int .i64 kd,.int .i64 lt,.slice bb ip.length cc] 40)).cell? ⟨W.heap.size,0,none⟩ = some (.int .i64 kd):=by rw [World.cell?,e1];rfl
 have x1:(W.alloc (.cells #[.int .i64 kd,.int .i64 lt,.slice bb ip.length cc] 40)).cell? ⟨W.heap.size,1,none⟩ = some (.int .i64 lt):=by rw [World.cell?,e1];rfl
 have l12:B.b12 < o':=hI1.2.2.2.2.2.2.2.1
 have l14:B.b14 < o':=hI1.2.2.2.2.2.2.2.2.2.2
 have hoW:o'≤W.heap.size:=hI.2.2.2.1.2.2.2.2
 have hn14:W.heap.size≠B.b14:=by omega
 have fz14:(W.alloc (.cells #[.int .i64 kd,.int .i64 lt,.slice bb ip.length cc] 40)).frozen? ⟨B.b14,0,none⟩ = false:=by simp [World.frozen?,hI1.1.2.2.2.2]
 have hneg:IntKind.i64.wrap (-lt) = -lt:=IntWalk.i64_in _ (by omega)
 have hlk:(Instr.lookup 125 (.map (some B.lm)) (.int .i64 (-lt)) false).run Tryz.prog (W.alloc (.cells #[.int .i64 kd,.int .i64 lt,.slice bb ip.length cc] 40)) = .ok (.bool (decide (-lt∈a.lits))) (W.alloc (.cells #[.int .i64 kd,.int .i64 lt,.slice bb ip.length cc] 40)):=by
  have h:=hI1.2.1.look1 intZLaw (T:=125) Tryz.underlying125 (.bool false) zeroBool (-lt)
  have e:((LmZ a.lits (-lt)).map encB).getD (.bool false) = .bool (decide (-lt∈a.lits)):=by
   unfold LmZ
   by_cases hm:-lt∈a.lits
   ·rw [if_pos hm,decide_eq_true hm];rfl
   ·rw [if_neg hm,decide_eq_false hm];rfl
  rw [e] at h
  exact h
 have hmem:(i:Int)∈castL a.out↔i∈a.out:=by
  unfold castL
  rw [List.mem_map]
  exact ⟨fun ⟨k,hk,e⟩=>by rw [←Int.ofNat.inj e];exact hk,fun h=>⟨i,h,rfl⟩⟩
 have qc:=containsI_any (x:=(i:Int)) (owns_slI (l:=castL a.out) (by rw [castL_len];exact hro1)) (by rw [castL_len];omega)
 obtain ⟨i0,hi0,hz0,hz1,hz2⟩:=info_parts int_info
 have hba2:Below (W.alloc (.cells #[.int .i64 kd,.int .i64 lt,.slice bb ip.length cc] 40)).heap.size (W.alloc (.cells #[.int .i64 kd,.int .i64 lt,.slice bb ip.length cc] 40)) ((W.alloc (.cells #[.int .i64 kd,.int .i64 lt,.slice bb ip.length cc] 40)).alloc (.cells #[.int .i64 (i:Nat)] 3)):=(Below.refl _ _).alloc (Nat.le_refl _) _
 have hI2:=hI1.next hba2
 obtain ⟨vo2,-,-,-,-,-,s12,-⟩:=hI2.cells
 have hro2:=Lib.hid (ownsRow_keep hro1 (fun g c h=>hba2.block g (Array.getElem?_eq_some_iff.1 h).1))
 have ho2:=Lib.hid hI2.2.2.2.1.2.2.2.2
 have hlw:W.heap.size < ((W.alloc (.cells #[.int .i64 kd,.int .i64 lt,.slice bb ip.length cc] 40)).alloc (.cells #[.int .i64 (i:Nat)] 3)).heap.size:=by simp;omega
 have hpush:∀ v3 w3,w3.ownsRow o' 3 1 v3 (a.out.length+1) ((castL a.out).map encZ++[.int .i64 (i:Nat)])→((W.alloc (.cells #[.int .i64 kd,.int .i64 lt,.slice bb ip.length cc] 40)).alloc (.cells #[.int .i64 (i:Nat)] 3)).grownBy w3 vo'.ownBlock→((∃ gx cx,v3 = .slice (some ⟨gx,0,none⟩) (a.out.length+1) cx)∧w3.cell? ⟨B.b12,0,none⟩ = some vo'∧w3.frozen? ⟨B.b12,0,none⟩ = false∧(w3.setCell ⟨B.b12,0,none⟩ v3).cell? ⟨W.heap.size,0,none⟩ = some (.int .i64 kd)∧(w3.setCell ⟨B.b12,0,none⟩ v3).cell? ⟨W.heap.size,1,none⟩ = some (.int .i64 lt)∧(w3.setCell ⟨B.b12,0,none⟩ v3).cell? ⟨B.b13,0,none⟩ = some (.map (some B.lm))∧InAt B w0.heap.size o' bx drop fin { a with out:=a.out++[i] } (w3.setCell ⟨B.b12,0,none⟩ v3)∧Below w0.heap.size (W.alloc (.cells #[.int .i64 kd,.int .i64 lt,.slice bb ip.length cc] 40)) (w3.setCell ⟨B.b12,0,none⟩ v3)):=fun v3 w3 h3 hg=>by
  have hoo:=hI2.2.2.2.1.2.2.2.1
  have hlow:∀ j,j < o'→w3.heap[j]? = ((W.alloc (.cells #[.int .i64 kd,.int .i64 lt,.slice bb ip.length cc] 40)).alloc (.cells #[.int .i64 (i:Nat)] 3)).heap[j]?:=fun j hj=>hg.block j (by have:=ho2.out;omega) fun e=>by
   have:=own_ge hro1 e.symm
   omega
  have hbl:Below w0.heap.size ((W.alloc (.cells #[.int .i64 kd,.int .i64 lt,.slice bb ip.length cc] 40)).alloc (.cells #[.int .i64 (i:Nat)] 3)) w3:=Below.grown (Below.refl _ _) hg (Nat.le_trans hoo ho2.out) (fun k e=>Nat.le_trans hoo (own_ge hro1 e))
  obtain ⟨hp,hpb⟩:=hI2.push s12 h3 hlow hbl
  have e12:(W.alloc (.cells #[.int .i64 kd,.int .i64 lt,.slice bb ip.length cc] 40)).heap[B.b12]? = some (.cells #[vo'] 25 (0,0)):=by
   obtain ⟨_,_,⟨vq,hq,_⟩,_⟩:=hI1
   have:=j12
   rw [World.cell?,hq] at this
   simp at this
   rw [hq,this]
  have eR:=e1
  have e3:w3.heap[B.b12]? = some (.cells #[vo'] 25 (0,0)):=(hlow _ l12).trans ((hba2.block _ (Array.getElem?_eq_some_iff.1 e12).1).trans e12)
  have e4:w3.heap[W.heap.size]? = some (.cells #[.int .i64 kd,.int .i64 lt,.slice bb ip.length cc] 40 (0,0)):=by
   have hk:=(hba2.block _ (Array.getElem?_eq_some_iff.1 e1).1).trans e1
   refine Eq.trans (hg.block W.heap.size (Array.getElem?_eq_some_iff.1 hk).1 fun e=>?_) hk
   obtain ⟨cur,hgh⟩:=own_blk hro1 e.symm
   rw [e1] at hgh
   simp at hgh
  have e5:(w3.setCell ⟨B.b12,0,none⟩ v3).heap[W.heap.size]? = some (.cells #[.int .i64 kd,.int .i64 lt,.slice bb ip.length cc] 40 (0,0)):=(Below.heap_setCell _ _ _ _ (show W.heap.size≠B.b12 by omega)).trans e4
  obtain ⟨-,-,-,-,z13,-,-,-⟩:=hp.cells
  have hform:∃ gx cx,v3 = .slice (some ⟨gx,0,none⟩) (a.out.length+1) cx:=by
   obtain ⟨_,⟨_,e⟩ | ⟨gx,cx,cur,h,_⟩⟩:=h3
   ·omega
   ·exact ⟨gx,cx,h⟩
  exact ⟨hform,by rw [World.cell?,e3];rfl,by simp [World.frozen?,e3],by rw [World.cell?,e5];rfl,by rw [World.cell?,e5];rfl,z13,hp,(hba2.mono hI1.2.2.2.1.2.2.2.2 |>.mono hoo).trans hpb⟩
 replace e1:=Lib.hid e1
 replace hba2:=Lib.hid hba2
 replace hI2:=Lib.hid hI2
 replace hro1:=Lib.hid hro1
 clear s12 hI2 hba2 e1 hlw
 replace hI:=Lib.hid hI
 replace hN:=Lib.hid hN
 replace hNW:=Lib.hid hNW
 replace hb0:=Lib.hid hb0
 replace hb1:=Lib.hid hb1
 replace hB1:=Lib.hid hB1
 replace hro:=Lib.hid hro
 clear hI hN
 by_cases hkf:kd = fin
 ·have q1:(kd == fin) = true:=beq_iff_eq.2 hkf
  have q2:(kd == 2) = false:=beq_eq_false_iff_ne.2 (by rw [hkf];exact hf2)
  rw [if_neg (by rw [hkf];exact hf2),if_pos (.inl hkf)]
  obtain ⟨hS,hSb⟩:=hI1.shut
  have y0:((W.alloc (.cells #[.int .i64 kd,.int .i64 lt,.slice bb ip.length cc] 40)).setCell ⟨B.b14,0,none⟩ (.bool false)).cell? ⟨W.heap.size,0,none⟩ = some (.int .i64 kd):=(World.cell?_of_block (a:=⟨W.heap.size,0,none⟩) (Below.heap_setCell _ _ _ _ hn14)).trans x0
  have y1:((W.alloc (.cells #[.int .i64 kd,.int .i64 lt,.slice bb ip.length cc] 40)).setCell ⟨B.b14,0,none⟩ (.bool false)).cell? ⟨W.heap.size,1,none⟩ = some (.int .i64 lt):=(World.cell?_of_block (a:=⟨W.heap.size,1,none⟩) (Below.heap_setCell _ _ _ _ hn14)).trans x1
  obtain ⟨-,-,-,-,z13,-,-,-⟩:=hS.cells
  clear hf2 hd2 hlk qc hpush
  replace hI1:=Lib.hid hI1
  replace hkf:=Lib.hid hkf
  go_enter Tryz.func113,Tryz.ntmps113
  go_wp2_with fail
  go_end0
  exact ⟨rfl,hB1.out.trans hSb,hS⟩
 have q1:(kd == fin) = false:=beq_eq_false_iff_ne.2 hkf
 by_cases hk2:kd = 2
 ·have q2:(kd == 2) = true:=beq_iff_eq.2 hk2
  have q3:(kd == drop) = false:=beq_eq_false_iff_ne.2 (by rw [hk2];exact Ne.symm hd2)
  have hkd:kd≠drop:=by rw [hk2];exact Ne.symm hd2
  rw [if_pos hk2]
  by_cases hml:-lt∈a.lits
  ·rw [if_pos (.inr ⟨hk2,hml⟩)]
   rw [decide_eq_true hml] at hlk
   obtain ⟨hS,hSb⟩:=hI1.shut
   have y0:((W.alloc (.cells #[.int .i64 kd,.int .i64 lt,.slice bb ip.length cc] 40)).setCell ⟨B.b14,0,none⟩ (.bool false)).cell? ⟨W.heap.size,0,none⟩ = some (.int .i64 kd):=(World.cell?_of_block (a:=⟨W.heap.size,0,none⟩) (Below.heap_setCell _ _ _ _ hn14)).trans x0
   have y1:((W.alloc (.cells #[.int .i64 kd,.int .i64 lt,.slice bb ip.length cc] 40)).setCell ⟨B.b14,0,none⟩ (.bool false)).cell? ⟨W.heap.size,1,none⟩ = some (.int .i64 lt):=(World.cell?_of_block (a:=⟨W.heap.size,1,none⟩) (Below.heap_setCell _ _ _ _ hn14)).trans x1
   obtain ⟨-,-,-,-,z13,-,-,-⟩:=hS.cells
   obtain ⟨hmu,hM,hMb⟩:=hS.mark lt
   clear hf2 hd2 qc hpush
   replace hI1:=Lib.hid hI1
   replace hkf:=Lib.hid hkf
   replace hk2:=Lib.hid hk2
   replace hkd:=Lib.hid hkd
   replace hml:=Lib.hid hml
   go_enter Tryz.func113,Tryz.ntmps113
   go_wp2_with fail
   go_end0
   exact ⟨rfl,hB1.out.trans (hSb.trans hMb),hM⟩
  ·rw [if_neg (fun h=>h.elim hkf fun h=>hml h.2)]
   rw [decide_eq_false hml] at hlk
   by_cases hmi:i∈a.out
   ·rw [if_neg (fun h=>h.2 hmi)]
    rw [decide_eq_true (hmem.2 hmi)] at qc
    obtain ⟨hmu,hM,hMb⟩:=hI1.mark lt
    clear hf2 hd2 hpush
    replace hI1:=Lib.hid hI1
    replace hmi:=Lib.hid hmi
    replace hmem:=Lib.hid hmem
    replace hkf:=Lib.hid hkf
    replace hk2:=Lib.hid hk2
    replace hkd:=Lib.hid hkd
    replace hml:=Lib.hid hml
    go_enter Tryz.func113,Tryz.ntmps113
    go_wp2_with fail
    refine qc.mono ?_
    rintro e wz ⟨rfl,rfl⟩
    clear qc
    go_wp2_with fail
    go_end0
    exact ⟨rfl,hB1.out.trans hMb,hM⟩
   ·rw [if_pos ⟨hkd,hmi⟩]
    rw [decide_eq_false (fun h=>hmi (hmem.1 h))] at qc
    clear hf2 hd2
    replace hI1:=Lib.hid hI1
    replace hmi:=Lib.hid hmi
    replace hmem:=Lib.hid hmem
    replace hpush:=Lib.hid hpush
    replace hkf:=Lib.hid hkf
    replace hk2:=Lib.hid hk2
    replace hkd:=Lib.hid hkd
    replace hml:=Lib.hid hml
    go_enter Tryz.func113,Tryz.ntmps113
    go_wp2_with fail
    refine qc.mono ?_
    rintro e wz ⟨rfl,rfl⟩
    clear qc
    go_wp2_with (at_builtin;refine wpList_append_own _ rfl _ _ 25 rfl o' 3 i0 (.int .i64 0) 1 8 Tryz.underlying25 hi0 hz0 hz1 hz2 rfl (by decide) vo' a.out.length ((castL a.out).map encZ) rfl hro2.out ⟨W.heap.size+1,0,none⟩ 1 1 [.int .i64 (i:Nat)] rfl rfl (cell_one_at _ _ _ _ (by simp)) (by simp [Value.oneCell']) (by unfold maxLen;omega) (by omega) ho2.out ?_;intro v3 w3 ho3 hg3 _;have hP:=hpush.out v3 w3 ho3 hg3;obtain ⟨⟨gx,cx,rfl⟩,p12,pf12,px0,px1,p13,hS,hSb⟩:=hP;clear ho3 hg3)
    obtain ⟨hmu,hM,hMb⟩:=hS.mark lt
    go_wp2_with fail
    go_end0
    exact ⟨rfl,hB1.out.trans (hSb.trans hMb),hM⟩
 ·have q2:(kd == 2) = false:=beq_eq_false_iff_ne.2 hk2
  rw [if_neg hk2,if_neg (fun h=>h.elim hkf fun h=>hk2 h.1)]
  by_cases hkd:kd = drop
  ·rw [if_neg (fun h=>h.1 hkd)]
   subst hkd
   clear hf2 hd2 hlk qc hpush
   replace hI1:=Lib.hid hI1
   replace hkf:=Lib.hid hkf
   replace hk2:=Lib.hid hk2
   go_enter Tryz.func113,Tryz.ntmps113
   go_wp2_with fail
   go_end0
   exact ⟨rfl,hB1.out.trans (Below.refl _ _),hI1.out⟩
  ·have q3:(kd == drop) = false:=beq_eq_false_iff_ne.2 hkd
   by_cases hmi:i∈a.out
   ·rw [if_neg (fun h=>h.2 hmi)]
    rw [decide_eq_true (hmem.2 hmi)] at qc
    clear hf2 hd2 hpush
    replace hI1:=Lib.hid hI1
    replace hmi:=Lib.hid hmi
    replace hmem:=Lib.hid hmem
    replace hkf:=Lib.hid hkf
    replace hk2:=Lib.hid hk2
    replace hkd:=Lib.hid hkd
    go_enter Tryz.func113,Tryz.ntmps113
    go_wp2_with fail
    refine qc.mono ?_
    rintro e wz ⟨rfl,rfl⟩
    clear qc
    go_wp2_with fail
    go_end0
    exact ⟨rfl,hB1.out.trans (Below.refl _ _),hI1.out⟩
   ·rw [if_pos ⟨hkd,hmi⟩]
    rw [decide_eq_false (fun h=>hmi (hmem.1 h))] at qc
    clear hf2 hd2
    replace hI1:=Lib.hid hI1
    replace hmi:=Lib.hid hmi
    replace hmem:=Lib.hid hmem
    replace hpush:=Lib.hid hpush
    replace hkf:=Lib.hid hkf
    replace hk2:=Lib.hid hk2
    replace hkd:=Lib.hid hkd
    go_enter Tryz.func113,Tryz.ntmps113
    go_wp2_with fail
    refine qc.mono ?_
    rintro e wz ⟨rfl,rfl⟩
    clear qc
    go_wp2_with (at_builtin;refine wpList_append_own _ rfl _ _ 25 rfl o' 3 i0 (.int .i64 0) 1 8 Tryz.underlying25 hi0 hz0 hz1 hz2 rfl (by decide) vo' a.out.length ((castL a.out).map encZ) rfl hro2.out ⟨W.heap.size+1,0,none⟩ 1 1 [.int .i64 (i:Nat)] rfl rfl (cell_one_at _ _ _ _ (by simp)) (by simp [Value.oneCell']) (by unfold maxLen;omega) (by omega) ho2.out ?_;intro v3 w3 ho3 hg3 _;have hP:=hpush.out v3 w3 ho3 hg3;obtain ⟨⟨gx,cx,rfl⟩,p12,pf12,px0,px1,p13,hS,hSb⟩:=hP;clear ho3 hg3)
    go_end0
    exact ⟨rfl,hB1.out.trans hSb,hS⟩
end Go.Proofs.YtckhohpbokojdaaGreatDoor
