import Derived.Test.YtckhohpbokojdaaGreatDoorHCi1
import Derived.Test.YtckhohpbokojdaaGreatDoorHRegz
import Derived.Test.YtckhohpbokojdaaGreatDoorHReg
import Derived.ChangeKeysEq
import Derived.Test.YtckhohpbokojdaaGreatDoorHRef3
import Derived.Test.YtckhohpbokojdaaGreatDoorHAdd
import Derived.Test.YtckhohpbokojdaaGreatDoorHBase
import Derived.Shelf.SlGeneric
import Derived.Shelf.SlIterI.Collect
import Derived.Test.YtckhohpbokojdaaGreatDoorProg
section
set_option linter.unusedSimpArgs false
set_option linter.unusedVariables false
namespace Go.Proofs.YtckhohpbokojdaaGreatDoor
open Go Go.RowKit Go.Shelf
theorem vset_of {a b:Int} (ha:0≤a∧a≤18446744073709551615) (hb:0≤b∧b≤18446744073709551615):∃ x:VSet,lo x = a∧hi x = b:=by
 refine ⟨BitVec.ofNat 128 (b.toNat * 18446744073709551616+a.toNat),?_,?_⟩
 ·simp only [lo,BitVec.toNat_setWidth,BitVec.toNat_ofNat];omega
 ·simp only [hi,BitVec.toNat_setWidth,BitVec.toNat_ofNat,BitVec.toNat_ushiftRight,Nat.shiftRight_eq_div_pow];omega
set_option maxHeartbeats 400000 in
theorem cut_any (a b:VSet) (w:World):Calls Tryz.prog 26 #[.agg #[.int .u64 (lo a),.int .u64 (hi a)],.agg #[.int .u64 (lo b),.int .u64 (hi b)]] w fun e w'=>e = .returned (.agg #[.int .u64 (lo (a &&& b)),.int .u64 (hi (a &&& b))])∧Ext w w':=by
 go_enter Tryz.func26,Tryz.ntmps26
 go_wp2
 go_returns
 exact ⟨by simp [and_lo,and_hi],⟨by go_grown,Nat.le_refl _⟩⟩
theorem hasS_and (a b:VSet) (v:Int):hasS (a &&& b) v = (hasS a v && hasS b v):=by
 unfold hasS
 rw [BitVec.getLsbD_and]
 cases decide (1≤v) <;> cases decide (v≤128) <;> simp
set_option maxRecDepth 100000 in
set_option maxHeartbeats 2000000 in
theorem holds_any {n l:Int} (hn:n≤128) (h:L.validB n l = true) (a:VSet) (w:World):Calls Tryz.prog 48 #[.agg #[.int .u64 (lo a),.int .u64 (hi a)],.int .i64 l] w fun e w'=>e = .returned (.bool (L.liφ l (L.asg a)))∧Ext w w':=by
 have hr:=L.validB_range hn h
 have hvf:=varF_valid hn h
 have qv:=fun W=>var_any l W
 rw [hvf] at qv
 have qh:=fun W=>has_any a (l.natAbs:Int) W (by omega) (by omega)
 unfold encS at qh
 have e0:=heap_alloc_new w (.cells #[.int .u64 (lo a),.int .u64 (hi a)] 37)
 have hx1:Ext w (w.alloc (.cells #[.int .u64 (lo a),.int .u64 (hi a)] 37)):=(Ext.refl w).alloc _
 obtain ⟨w1,hw1⟩:∃ w1,w1 = w.alloc (.cells #[.int .u64 (lo a),.int .u64 (hi a)] 37):=⟨_,rfl⟩
 rw [←hw1] at e0 hx1
 obtain ⟨c0,c1⟩:=pbox_cells e0
 have d0:(((l.natAbs:Int)) != 0) = true:=by simp;omega
 have hres:(hasS a (l.natAbs:Int) == decide (0 < l)) = L.liφ l (L.asg a):=rfl
 have hg:decide (l > 0) = decide (0 < l):=rfl
 generalize hB:decide (0 < l) = B at *
 generalize (l.natAbs:Int) = V at *
 replace hvf:=Lib.hid hvf
 replace hr:=Lib.hid hr
 replace h:=Lib.hid h
 replace qv:=Lib.hid qv
 replace qh:=Lib.hid qh
 replace hx1:=Lib.hid hx1
 replace e0:=Lib.hid e0
 go_enter Tryz.func48,Tryz.ntmps48
 go_wp2_with fail
 rw [←hw1]
 replace hw1:=Lib.hid hw1
 (refine wp_region_held_drew (S:=(fun V=>V.cell? ⟨w.heap.size,0,none⟩ = some (.int .u64 (lo a))∧V.cell? ⟨w.heap.size,1,none⟩ = some (.int .u64 (hi a)))) (by kernel_rfl) ?_ (fun hHeld=>?_))
 ·exact ⟨c0,c1⟩
 (refine takeL (i:=0) (v:=?_) rfl (by kernel_rfl) (by kernel_rfl) (by kernel_rfl) (fun _ _ _ h=>h) (Or.inl ⟨by rfl,?_⟩) (by assumption) ?_)
 rotate_left
 ·(intro w hSw;(try dsimp only at hSw);go_simp;first | done | with_reducible rfl)
 (try simp only [Act.put,List.setIfInBounds_toArray,List.set_cons_zero,List.set_cons_succ])
 (refine wpAnyH_ready (rs:=[1]) (by kernel_rfl) (by simp) ?_)
 (refine consL rfl (fun K hK=>?_))
 ((rw [if_pos (by rfl)]);go_simp;(go_at_call 25);refine (qv.out _).mono ?_;rintro e w2 ⟨rfl,rfl⟩;refine hK.out _ _ hHeld (fun hHeld=>?_))
 (clear hK K)
 (try simp only [Act.put,List.setIfInBounds_toArray,List.set_cons_zero,List.set_cons_succ])
 (refine takeL (i:=2) (v:=?_) rfl (by kernel_rfl) (by kernel_rfl) (by kernel_rfl) (fun _ _ _ h=>h) (Or.inl ⟨by rfl,?_⟩) (by assumption) ?_)
 rotate_left
 ·(intro w hSw;(try dsimp only at hSw);go_simp;first | done | with_reducible rfl)
 (try simp only [Act.put,List.setIfInBounds_toArray,List.set_cons_zero,List.set_cons_succ])
 (refine takeL (i:=3) (v:=?_) rfl (by kernel_rfl) (by kernel_rfl) (by kernel_rfl) (fun _ _ _ h=>h) (Or.inl ⟨by rfl,?_⟩) (by assumption) ?_)
 rotate_left
 ·(intro w hSw;(try dsimp only at hSw);go_simp;first | done | with_reducible rfl)
 (try simp only [Act.put,List.setIfInBounds_toArray,List.set_cons_zero,List.set_cons_succ])
 (refine takeL (i:=4) (v:=?_) rfl (by kernel_rfl) (by kernel_rfl) (by kernel_rfl) (fun _ _ _ h=>h) (Or.inl ⟨by rfl,?_⟩) (by assumption) ?_)
 rotate_left
 ·(intro w hSw;(try dsimp only at hSw);go_simp;first | done | with_reducible rfl)
 (try simp only [Act.put,List.setIfInBounds_toArray,List.set_cons_zero,List.set_cons_succ])
 (refine takeL (i:=5) (v:=?_) rfl (by kernel_rfl) (by kernel_rfl) (by kernel_rfl) (fun _ _ _ h=>h) (Or.inl ⟨by rfl,?_⟩) (by assumption) ?_)
 rotate_left
 ·(intro w hSw;(try dsimp only at hSw);go_simp;first | done | with_reducible rfl)
 (try simp only [Act.put,List.setIfInBounds_toArray,List.set_cons_zero,List.set_cons_succ])
 (refine takeL (i:=8) (v:=?_) rfl (by kernel_rfl) (by kernel_rfl) (by kernel_rfl) (fun _ _ _ h=>h) (Or.inl ⟨by rfl,?_⟩) (by assumption) ?_)
 rotate_left
 ·(intro w hSw;(try dsimp only at hSw);go_simp;first | done | with_reducible rfl)
 (try simp only [Act.put,List.setIfInBounds_toArray,List.set_cons_zero,List.set_cons_succ])
 (refine takeL (i:=9) (v:=?_) rfl (by kernel_rfl) (by kernel_rfl) (by kernel_rfl) (fun _ _ _ h=>h) (Or.inl ⟨by rfl,?_⟩) (by assumption) ?_)
 rotate_left
 ·(intro w hSw;(try dsimp only at hSw);go_simp;first | done | with_reducible rfl)
 (try simp only [Act.put,List.setIfInBounds_toArray,List.set_cons_zero,List.set_cons_succ])
 (refine wpAnyH_ready (rs:=[6]) (by kernel_rfl) (by simp) ?_)
 (refine consL rfl (fun K hK=>?_))
 ((rw [if_pos (by rfl)]);go_simp;(go_at_call 25);refine (qv.out _).mono ?_;rintro e w3 ⟨rfl,rfl⟩;refine hK.out _ _ hHeld (fun hHeld=>?_))
 (clear hK K)
 (try simp only [Act.put,List.setIfInBounds_toArray,List.set_cons_zero,List.set_cons_succ])
 (refine wpAnyH_ready (rs:=[7]) (by kernel_rfl) (by simp) ?_)
 (refine consL rfl (fun K hK=>?_))
 ((rw [if_pos (by rfl)]);go_simp;(go_at_call 24);refine (qh.out _).mono ?_;rintro e w4 ⟨rfl,hx4⟩;refine hK.out _ _ ⟨hx4.cell hHeld.1,hx4.cell hHeld.2⟩ (fun hHeld=>?_))
 (clear hK K)
 (try simp only [Act.put,List.setIfInBounds_toArray,List.set_cons_zero,List.set_cons_succ])
 (refine takeL (i:=10) (v:=?_) rfl (by kernel_rfl) (by kernel_rfl) (by kernel_rfl) (fun _ _ _ h=>h) (Or.inl ⟨by rfl,?_⟩) (by assumption) ?_)
 rotate_left
 ·(intro w hSw;(try dsimp only at hSw);go_simp;first | done | with_reducible rfl)
 (try simp only [Act.put,List.setIfInBounds_toArray,List.set_cons_zero,List.set_cons_succ])
 (refine takeL (i:=11) (v:=?_) rfl (by kernel_rfl) (by kernel_rfl) (by kernel_rfl) (fun _ _ _ h=>h) (Or.inl ⟨by rfl,?_⟩) (by assumption) ?_)
 rotate_left
 ·(intro w hSw;(try dsimp only at hSw);go_simp;first | done | with_reducible rfl)
 (try simp only [Act.put,List.setIfInBounds_toArray,List.set_cons_zero,List.set_cons_succ])
 (refine takeL (i:=12) (v:=?_) rfl (by kernel_rfl) (by kernel_rfl) (by kernel_rfl) (fun _ _ _ h=>h) (Or.inl ⟨by rfl,?_⟩) (by assumption) ?_)
 rotate_left
 ·(intro w hSw;(try dsimp only at hSw);go_simp;first | done | with_reducible rfl)
 (try simp only [Act.put,List.setIfInBounds_toArray,List.set_cons_zero,List.set_cons_succ])
 (refine wpAnyH_done (by kernel_rfl) ?_ _)
 clear hHeld
 go_wp2_with fail
 go_ret
 exact ⟨by rw [←hres] <;> rfl,hx1.out.trans ((Ext.refl _).drew.trans hx4)⟩
end Go.Proofs.YtckhohpbokojdaaGreatDoor
end
section
set_option linter.unusedSimpArgs false
set_option linter.unusedVariables false
namespace Go.Proofs.YtckhohpbokojdaaGreatDoor
open Go Go.RowKit Go.Shelf
def t5:List VN:=[⟨-1,-1,1⟩,⟨-1,-1,2⟩,⟨0,1,0⟩,⟨-1,-1,3⟩,⟨2,3,0⟩]
end Go.Proofs.YtckhohpbokojdaaGreatDoor
end
section
namespace Go.Proofs
open Go.Shelf
def Tryz.collectInt_ren:Go.Shelf.Ren:=⟨fun | 8=>54 | 11=>74 | n=>n,fun | 26=>3 | 28=>77 | 24=>25 | 0=>0 | 33=>71 | 4=>4 | n=>n,fun | n=>n⟩
theorem Tryz.collectInt:Go.Proofs.SlLaysZI.n8 Tryz.prog Tryz.collectInt_ren:={
 mixed:=by kernel_rfl
 f8:=⟨Tryz.f54.name,by decide,Tryz.func54.trans (congrArg some (by kernel_rfl))⟩
 f11:=⟨Tryz.f74.name,by decide,Tryz.func74.trans (congrArg some (by kernel_rfl))⟩
 t0:=Tryz.underlying0
 a0:=Tryz.isAgg0
 z0:=Tryz.sizeOf0
 v0:=Tryz.zeroValue0
 t24:=Tryz.underlying25
 a24:=Tryz.isAgg25
 z24:=Tryz.sizeOf25
 v24:=Tryz.zeroValue25
 t26:=Tryz.underlying3
 a26:=Tryz.isAgg3
 z26:=Tryz.sizeOf3
 v26:=Tryz.zeroValue3
 t28:=Tryz.underlying77
 a28:=Tryz.isAgg77
 z28:=Tryz.sizeOf77
 v28:=Tryz.zeroValue77
 i26:=by kernel_rfl }
end Go.Proofs
end
