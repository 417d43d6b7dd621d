import Derived.Test.YtemnmcfmabamcaaGreatDoorXOver
import Derived.Test.YtemnmcfmabamcaaGreatDoorXVmv
import Derived.Test.YtemnmcfmabamcaaGreatDoorXReg
import Derived.Test.YtemnmcfmabamcaaGreatDoorXRefChk
import Derived.Test.YtemnmcfmabamcaaGreatDoorXTab2
import Derived.Test.YtemnmcfmabamcaaGreatDoorXLaw9
import Derived.Test.YtemnmcfmabamcaaGreatDoorXLaw3
section
set_option linter.unusedSimpArgs false
set_option linter.unusedVariables false
namespace Go.Proofs.YtemnmcfmabamcaaGreatDoor
open Go Go.RowKit Go.Shelf
def RetMoved (kd:Nat) (t:List VN) (i:Int) (φ:L.Asg→Bool) (w:World) (e:Ending) (w':World):Prop :=
 Below w.heap.size w w'∧((canM kd t i = false∧e = .returned (.tuple #[.pointer none,.int .i64 0,.int .i64 1])) ∨
  (canM kd t i = true∧∃ (n:Nat) (T U:L.Tr) (B:Blks) (so:St) (r:Nat),i = n∧n < t.length∧L.IsT L.idc t (t.length - 1) T∧L.Mv t kd n (t.length - 1) T U ∧
    e = .returned (.tuple #[.pointer (some ⟨B.sb,0,none⟩),.int .i64 (r:Nat),.int .i64 0])∧SS (U.post 0) B w' 300000 so w'∧Val so r φ∧∀ j∈B.mut,w.heap.size≤j))
theorem moved_vars {t:List VN} (hc:checkF t = 0) {kd n:Nat} {T U:L.Tr} (hT:L.IsT L.idc t (t.length - 1) T) (hM:L.Mv t kd n (t.length - 1) T U):∀ v,VarOf t v↔VarOf (U.post 0) v:=fun v=>by
 obtain ⟨h1,h2,_,h4⟩:=L.moved_ok hc hT hM
 exact ((hT.root_mem hc v).symm.trans (h4 v).symm).trans (h2.root_mem h1 v)
set_option maxRecDepth 100000 in
set_option maxHeartbeats 4000000 in
theorem apply_any {w:World} {t:List VN} {s:St} {B1:Blks} {k1 root fm kd:Nat} {i:Int} {φ:L.Asg→Bool} (hs:SS t B1 w k1 s w) (hv:Val s root φ) (h7:t.length≤7) (hT:TzTab w) (hP:PowTab w)
  (hKf:∀ (c:Array Value) (w:World),(callFunc fm c).run Tryz.prog w = .ok (.enter fm c) w) (hfm:∀ (W:World) (b o cap:Nat),TreeAt W b o t→Calls Tryz.prog fm #[.slice (some ⟨b,o,none⟩) t.length cap,.int .i64 i] W (RetMove kd t i W)) :
  Calls Tryz.prog 95 #[.agg #[.func (.func fm) #[] #[]],.pointer (some ⟨B1.sb,0,none⟩),.int .i64 (root:Nat),.int .i64 i] w (RetMoved kd t i φ w):=by
 generalize hx:w.heap.size = x at *
 have hb1:=(Below.refl w.heap.size w).alloc (Nat.le_refl _) (.cells #[.func (.func fm) #[] #[]] 156)
 have hbx:=heap_alloc_new w (.cells #[.func (.func fm) #[] #[]] 156)
 rw [hx] at hbx
 have hs1:=hs.below hb1
 have q1:=size_v hs1 hv.lt
 have hc0:(w.alloc (.cells #[.func (.func fm) #[] #[]] 156)).cell? ⟨x,0,none⟩ = some (.func (.func fm) #[] #[]):=by rw [World.cell?,hbx];rfl
 replace hs1:=Lib.hid hs1
 replace hx:=Lib.hid hx
 go_enter Tryz.func95,Tryz.ntmps95
 go_wp2_with fail
 simp only [hx.out]
 generalize w.alloc (.cells #[.func (.func fm) #[] #[]] 156) = w1 at *
 refine q1.mono ?_
 rintro e w2 ⟨oo,_,rfl,hb2⟩
 have hb02:=hb1.trans (hb2.mono hb1.size)
 have hbd:=(Below.refl w2.heap.size w2).drew
 have hs2:=hs1.out.below (hb2.trans (hbd.mono hb2.size))
 have hcx:=(hb2.cell (World.block_lt_of_cell? w1 _ hc0)).trans hc0
 obtain ⟨Bh,hRh,hSh⟩:=hs2.held
 have htr:=hs2.tree
 have qt:=tree_any hRh (by rw [htr];omega)
 rw [hSh.sb,htr] at qt
 replace hs2:=Lib.hid hs2
 clear q1 hRh hSh
 cases hcm:canM kd t i
 ·go_wp2_with fail
  (refine wp_region_held_drew (S:=(fun W=>W.cell? ⟨x,0,none⟩ = some (.func (.func fm) #[] #[]))) (by kernel_rfl) ?_ (fun hHeld=>?_))
  ·exact hcx
  (refine takeL (i:=0) (v:=?_) rfl (by kernel_rfl) (by kernel_rfl) (by kernel_rfl) (fun _ _ _ h=>h) (Or.inl ⟨by rfl,?_⟩) (by assumption) ?_)
  rotate_left
  ·(intro w hSw;(try dsimp only at hSw);go_simp;first | done | with_reducible rfl)
  (try simp only [Act.put,List.setIfInBounds_toArray,List.set_cons_zero,List.set_cons_succ])
  (refine takeL (i:=1) (v:=?_) rfl (by kernel_rfl) (by kernel_rfl) (by kernel_rfl) (fun _ _ _ h=>h) (Or.inl ⟨by rfl,?_⟩) (by assumption) ?_)
  rotate_left
  ·(intro w hSw;(try dsimp only at hSw);go_simp;first | done | with_reducible rfl)
  (try simp only [Act.put,List.setIfInBounds_toArray,List.set_cons_zero,List.set_cons_succ])
  (refine takeL (i:=2) (v:=?_) rfl (by kernel_rfl) (by kernel_rfl) (by kernel_rfl) (fun _ _ _ h=>h) (Or.inl ⟨by rfl,?_⟩) (by assumption) ?_)
  rotate_left
  ·(intro w hSw;(try dsimp only at hSw);go_simp;first | done | with_reducible rfl)
  (try simp only [Act.put,List.setIfInBounds_toArray,List.set_cons_zero,List.set_cons_succ])
  (refine takeL (i:=4) (v:=?_) rfl (by kernel_rfl) (by kernel_rfl) (by kernel_rfl) (fun _ _ _ h=>h) (Or.inl ⟨by rfl,?_⟩) (by assumption) ?_)
  rotate_left
  ·(intro w hSw;(try dsimp only at hSw);go_simp;first | done | with_reducible rfl)
  (try simp only [Act.put,List.setIfInBounds_toArray,List.set_cons_zero,List.set_cons_succ])
  (refine wpAnyH_ready (rs:=[3]) (by kernel_rfl) (by simp) ?_)
  (refine consL rfl (fun K hK=>?_))
  ((rw [if_pos (by rfl)]);go_simp;(go_at_call 19);refine qt.mono ?_;rintro e w3 ⟨g3,cp3,cs3,rfl,hg3,hh3,hcs3,hb3⟩;have hc3:=(hb3.cell (World.block_lt_of_cell? w2 _ hcx)).trans hcx;refine hK.out _ _ hc3 (fun hHeld=>?_))
  (clear hK K)
  (try simp only [Act.put,List.setIfInBounds_toArray,List.set_cons_zero,List.set_cons_succ])
  have ht3:TreeAt w3 g3 0 t:=fun j u hj=>by rw [World.cell?,hh3];exact hcs3 j u hj
  have qf:=hfm w3 g3 0 cp3 ht3
  have hs3:=Lib.hid (hs2.out.below hb3)
  have hb03:=Lib.hid (hb02.trans ((hbd.trans (hb3.mono hbd.size)).mono hb02.size))
  clear qt hh3 hcs3 ht3
  (refine wpAnyH_ready (rs:=[5]) (by kernel_rfl) (by simp) ?_)
  (refine consL rfl (fun K hK=>?_))
  ((rw [if_pos (by rfl)]);go_simp;refine qf.mono ?_;rintro e w4 ⟨hb4,hcase⟩;obtain ⟨_,rfl⟩:=hcase.resolve_right (fun h=>by rw [hcm] at h;exact Bool.noConfusion h.1);have hc4:=(hb4.cell (World.block_lt_of_cell? w3 _ hc3)).trans hc3;refine hK.out _ _ hc4 (fun hHeld=>?_))
  (clear hK K)
  (try simp only [Act.put,List.setIfInBounds_toArray,List.set_cons_zero,List.set_cons_succ])
  (refine takeL (i:=6) (v:=?_) rfl (by kernel_rfl) (by kernel_rfl) (by kernel_rfl) (fun _ _ _ h=>h) (Or.inl ⟨by rfl,?_⟩) (by assumption) ?_)
  rotate_left
  ·(intro w hSw;(try dsimp only at hSw);go_simp;first | done | with_reducible rfl)
  (try simp only [Act.put,List.setIfInBounds_toArray,List.set_cons_zero,List.set_cons_succ])
  (refine takeL (i:=7) (v:=?_) rfl (by kernel_rfl) (by kernel_rfl) (by kernel_rfl) (fun _ _ _ h=>h) (Or.inl ⟨by rfl,?_⟩) (by assumption) ?_)
  rotate_left
  ·(intro w hSw;(try dsimp only at hSw);go_simp;first | done | with_reducible rfl)
  (try simp only [Act.put,List.setIfInBounds_toArray,List.set_cons_zero,List.set_cons_succ])
  (refine takeL (i:=8) (v:=?_) rfl (by kernel_rfl) (by kernel_rfl) (by kernel_rfl) (fun _ _ _ h=>h) (Or.inl ⟨by rfl,?_⟩) (by assumption) ?_)
  rotate_left
  ·(intro w hSw;(try dsimp only at hSw);go_simp;first | done | with_reducible rfl)
  (try simp only [Act.put,List.setIfInBounds_toArray,List.set_cons_zero,List.set_cons_succ])
  (refine takeL (i:=9) (v:=?_) rfl (by kernel_rfl) (by kernel_rfl) (by kernel_rfl) (fun _ _ _ h=>h) (Or.inl ⟨by rfl,?_⟩) (by assumption) ?_)
  rotate_left
  ·(intro w hSw;(try dsimp only at hSw);go_simp;first | done | with_reducible rfl)
  (try simp only [Act.put,List.setIfInBounds_toArray,List.set_cons_zero,List.set_cons_succ])
  (refine takeL (i:=10) (v:=?_) rfl (by kernel_rfl) (by kernel_rfl) (by kernel_rfl) (fun _ _ _ h=>h) (Or.inl ⟨by rfl,?_⟩) (by assumption) ?_)
  rotate_left
  ·(intro w hSw;(try dsimp only at hSw);go_simp;first | done | with_reducible rfl)
  (try simp only [Act.put,List.setIfInBounds_toArray,List.set_cons_zero,List.set_cons_succ])
  (refine wpAnyH_done (by kernel_rfl) ?_ _)
  go_wp2_with fail
  go_ret3
  exact ⟨hb03.out.trans (hb4.mono hb03.out.size),.inl ⟨hcm,rfl⟩⟩
 ·go_wp2_with fail
  (refine wp_region_held_drew (S:=(fun W=>W.cell? ⟨x,0,none⟩ = some (.func (.func fm) #[] #[]))) (by kernel_rfl) ?_ (fun hHeld=>?_))
  ·exact hcx
  (refine takeL (i:=0) (v:=?_) rfl (by kernel_rfl) (by kernel_rfl) (by kernel_rfl) (fun _ _ _ h=>h) (Or.inl ⟨by rfl,?_⟩) (by assumption) ?_)
  rotate_left
  ·(intro w hSw;(try dsimp only at hSw);go_simp;first | done | with_reducible rfl)
  (try simp only [Act.put,List.setIfInBounds_toArray,List.set_cons_zero,List.set_cons_succ])
  (refine takeL (i:=1) (v:=?_) rfl (by kernel_rfl) (by kernel_rfl) (by kernel_rfl) (fun _ _ _ h=>h) (Or.inl ⟨by rfl,?_⟩) (by assumption) ?_)
  rotate_left
  ·(intro w hSw;(try dsimp only at hSw);go_simp;first | done | with_reducible rfl)
  (try simp only [Act.put,List.setIfInBounds_toArray,List.set_cons_zero,List.set_cons_succ])
  (refine takeL (i:=2) (v:=?_) rfl (by kernel_rfl) (by kernel_rfl) (by kernel_rfl) (fun _ _ _ h=>h) (Or.inl ⟨by rfl,?_⟩) (by assumption) ?_)
  rotate_left
  ·(intro w hSw;(try dsimp only at hSw);go_simp;first | done | with_reducible rfl)
  (try simp only [Act.put,List.setIfInBounds_toArray,List.set_cons_zero,List.set_cons_succ])
  (refine takeL (i:=4) (v:=?_) rfl (by kernel_rfl) (by kernel_rfl) (by kernel_rfl) (fun _ _ _ h=>h) (Or.inl ⟨by rfl,?_⟩) (by assumption) ?_)
  rotate_left
  ·(intro w hSw;(try dsimp only at hSw);go_simp;first | done | with_reducible rfl)
  (try simp only [Act.put,List.setIfInBounds_toArray,List.set_cons_zero,List.set_cons_succ])
  (refine wpAnyH_ready (rs:=[3]) (by kernel_rfl) (by simp) ?_)
  (refine consL rfl (fun K hK=>?_))
  ((rw [if_pos (by rfl)]);go_simp;(go_at_call 19);refine qt.mono ?_;rintro e w3 ⟨g3,cp3,cs3,rfl,hg3,hh3,hcs3,hb3⟩;have hc3:=(hb3.cell (World.block_lt_of_cell? w2 _ hcx)).trans hcx;refine hK.out _ _ hc3 (fun hHeld=>?_))
  (clear hK K)
  (try simp only [Act.put,List.setIfInBounds_toArray,List.set_cons_zero,List.set_cons_succ])
  have ht3:TreeAt w3 g3 0 t:=fun j u hj=>by rw [World.cell?,hh3];exact hcs3 j u hj
  have qf:=hfm w3 g3 0 cp3 ht3
  have hs3:=Lib.hid (hs2.out.below hb3)
  have hb03:=Lib.hid (hb02.trans ((hbd.trans (hb3.mono hbd.size)).mono hb02.size))
  clear qt hh3 hcs3 ht3
  (refine wpAnyH_ready (rs:=[5]) (by kernel_rfl) (by simp) ?_)
  (refine consL rfl (fun K hK=>?_))
  ((rw [if_pos (by rfl)]);go_simp;refine qf.mono ?_;rintro e w4 ⟨hb4,hcase⟩;obtain ⟨_,n,T,U,g,cp,hin,hnl,hTT,hM,rfl,hTU,hgU⟩:=hcase.resolve_left (fun h=>by rw [hcm] at h;exact Bool.noConfusion h.1);have hc4:=(hb4.cell (World.block_lt_of_cell? w3 _ hc3)).trans hc3;refine hK.out _ _ hc4 (fun hHeld=>?_))
  (clear hK K)
  (try simp only [Act.put,List.setIfInBounds_toArray,List.set_cons_zero,List.set_cons_succ])
  (refine takeL (i:=6) (v:=?_) rfl (by kernel_rfl) (by kernel_rfl) (by kernel_rfl) (fun _ _ _ h=>h) (Or.inl ⟨by rfl,?_⟩) (by assumption) ?_)
  rotate_left
  ·(intro w hSw;(try dsimp only at hSw);go_simp;first | done | with_reducible rfl)
  (try simp only [Act.put,List.setIfInBounds_toArray,List.set_cons_zero,List.set_cons_succ])
  (refine takeL (i:=7) (v:=?_) rfl (by kernel_rfl) (by kernel_rfl) (by kernel_rfl) (fun _ _ _ h=>h) (Or.inl ⟨by rfl,?_⟩) (by assumption) ?_)
  rotate_left
  ·(intro w hSw;(try dsimp only at hSw);go_simp;first | done | with_reducible rfl)
  (try simp only [Act.put,List.setIfInBounds_toArray,List.set_cons_zero,List.set_cons_succ])
  (refine takeL (i:=8) (v:=?_) rfl (by kernel_rfl) (by kernel_rfl) (by kernel_rfl) (fun _ _ _ h=>h) (Or.inl ⟨by rfl,?_⟩) (by assumption) ?_)
  rotate_left
  ·(intro w hSw;(try dsimp only at hSw);go_simp;first | done | with_reducible rfl)
  (try simp only [Act.put,List.setIfInBounds_toArray,List.set_cons_zero,List.set_cons_succ])
  (refine takeL (i:=9) (v:=?_) rfl (by kernel_rfl) (by kernel_rfl) (by kernel_rfl) (fun _ _ _ h=>h) (Or.inl ⟨by rfl,?_⟩) (by assumption) ?_)
  rotate_left
  ·(intro w hSw;(try dsimp only at hSw);go_simp;first | done | with_reducible rfl)
  (try simp only [Act.put,List.setIfInBounds_toArray,List.set_cons_zero,List.set_cons_succ])
  (refine takeL (i:=10) (v:=?_) rfl (by kernel_rfl) (by kernel_rfl) (by kernel_rfl) (fun _ _ _ h=>h) (Or.inl ⟨by rfl,?_⟩) (by assumption) ?_)
  rotate_left
  ·(intro w hSw;(try dsimp only at hSw);go_simp;first | done | with_reducible rfl)
  (try simp only [Act.put,List.setIfInBounds_toArray,List.set_cons_zero,List.set_cons_succ])
  (refine wpAnyH_done (by kernel_rfl) ?_ _)
  have hb04:=hb03.out.trans (hb4.mono hb03.out.size)
  obtain ⟨B4,hB4,hR4,hs4,_⟩:=(hs3.out.below hb4).here
  obtain ⟨m1,_,m3,_⟩:=L.moved_ok hs.chk hTT hM
  have qo:=over_any (cap:=cp) hs4 hv hTU m1 (by omega) (fun v hv=>(moved_vars hs.chk hTT hM v).1 hv) (hT.same (hb04.block _ hT.lt')) (hP.same (hb04.block _ hP.lt))
  rw [hB4] at qo
  replace hb04:=Lib.hid hb04
  replace hTU:=Lib.hid hTU
  replace hs4:=Lib.hid hs4
  replace hR4:=Lib.hid hR4
  clear qf hHeld hb4 hc4 hc3
  go_wp2_with fail
  refine qo.mono ?_
  rintro e w5 ⟨B,so,r,rfl,hS5,hv5,hm5,hb5⟩
  replace hS5:=Lib.hid hS5
  go_wp2_with fail
  go_ret3
  exact ⟨hb04.out.trans (hb5.mono hb04.out.size),.inr ⟨hcm,n,T,U,B,so,r,hin,hnl,hTT,hM,rfl,hS5.out,hv5,fun j hj=>Nat.le_trans hb04.out.size (hm5 j hj)⟩⟩
end Go.Proofs.YtemnmcfmabamcaaGreatDoor
namespace Go.Proofs.YtemnmcfmabamcaaGreatDoor
open Go Go.RowKit Go.Shelf
theorem right_run {t:List VN} (hc:checkF t = 0) (i:Int):∀ (W:World) (b o cap:Nat),TreeAt W b o t→Calls Tryz.prog 94 #[.slice (some ⟨b,o,none⟩) t.length cap,.int .i64 i] W (RetMove 1 t i W):=fun W b o cap h=>vright_any h hc
theorem left_run {t:List VN} (hc:checkF t = 0) (i:Int):∀ (W:World) (b o cap:Nat),TreeAt W b o t→Calls Tryz.prog 96 #[.slice (some ⟨b,o,none⟩) t.length cap,.int .i64 i] W (RetMove 2 t i W):=fun W b o cap h=>vleft_any h hc
theorem swap_run {t:List VN} (hc:checkF t = 0) (i:Int):∀ (W:World) (b o cap:Nat),TreeAt W b o t→Calls Tryz.prog 97 #[.slice (some ⟨b,o,none⟩) t.length cap,.int .i64 i] W (RetMove 3 t i W):=fun W b o cap h=>vswap_any h hc
set_option maxRecDepth 100000 in
set_option maxHeartbeats 1000000 in
theorem mvright_any {w:World} {t:List VN} {s:St} {B1:Blks} {k1 root:Nat} {i:Int} {φ:L.Asg→Bool} (hs:SS t B1 w k1 s w) (hv:Val s root φ) (h7:t.length≤7) (hT:TzTab w) (hP:PowTab w) :
  Calls Tryz.prog 62 #[.pointer (some ⟨B1.sb,0,none⟩),.int .i64 (root:Nat),.int .i64 i] w (RetMoved 1 t i φ w):=by
 have q:=apply_any (fm:=94) (kd:=1) (i:=i) hs hv h7 hT hP (fun c w=>by simp [go_sem,Tryz.func94]) (right_run hs.chk i)
 go_enter Tryz.func62,Tryz.ntmps62
 go_wp2_with fail
 refine q.mono ?_
 rintro e w1 ⟨hb,⟨hcm,rfl⟩ | ⟨hcm,n,T,U,B,so,r,hin,hnl,hT2,hM,rfl,hS,hv',hm⟩⟩
 ·clear q
  go_wp2_with fail
  go_ret3
  exact ⟨hb,.inl ⟨hcm,rfl⟩⟩
 ·clear q
  replace hS:=Lib.hid hS
  replace hM:=Lib.hid hM
  go_wp2_with fail
  go_ret3
  exact ⟨hb,.inr ⟨hcm,n,T,U,B,so,r,hin,hnl,hT2,hM.out,rfl,hS.out,hv',hm⟩⟩
set_option maxRecDepth 100000 in
set_option maxHeartbeats 1000000 in
theorem mvleft_any {w:World} {t:List VN} {s:St} {B1:Blks} {k1 root:Nat} {i:Int} {φ:L.Asg→Bool} (hs:SS t B1 w k1 s w) (hv:Val s root φ) (h7:t.length≤7) (hT:TzTab w) (hP:PowTab w) :
  Calls Tryz.prog 63 #[.pointer (some ⟨B1.sb,0,none⟩),.int .i64 (root:Nat),.int .i64 i] w (RetMoved 2 t i φ w):=by
 have q:=apply_any (fm:=96) (kd:=2) (i:=i) hs hv h7 hT hP (fun c w=>by simp [go_sem,Tryz.func96]) (left_run hs.chk i)
 go_enter Tryz.func63,Tryz.ntmps63
 go_wp2_with fail
 refine q.mono ?_
 rintro e w1 ⟨hb,⟨hcm,rfl⟩ | ⟨hcm,n,T,U,B,so,r,hin,hnl,hT2,hM,rfl,hS,hv',hm⟩⟩
 ·clear q
  go_wp2_with fail
  go_ret3
  exact ⟨hb,.inl ⟨hcm,rfl⟩⟩
 ·clear q
  replace hS:=Lib.hid hS
  replace hM:=Lib.hid hM
  go_wp2_with fail
  go_ret3
  exact ⟨hb,.inr ⟨hcm,n,T,U,B,so,r,hin,hnl,hT2,hM.out,rfl,hS.out,hv',hm⟩⟩
set_option maxRecDepth 100000 in
set_option maxHeartbeats 1000000 in
theorem mvswap_any {w:World} {t:List VN} {s:St} {B1:Blks} {k1 root:Nat} {i:Int} {φ:L.Asg→Bool} (hs:SS t B1 w k1 s w) (hv:Val s root φ) (h7:t.length≤7) (hT:TzTab w) (hP:PowTab w) :
  Calls Tryz.prog 64 #[.pointer (some ⟨B1.sb,0,none⟩),.int .i64 (root:Nat),.int .i64 i] w (RetMoved 3 t i φ w):=by
 have q:=apply_any (fm:=97) (kd:=3) (i:=i) hs hv h7 hT hP (fun c w=>by simp [go_sem,Tryz.func97]) (swap_run hs.chk i)
 go_enter Tryz.func64,Tryz.ntmps64
 go_wp2_with fail
 refine q.mono ?_
 rintro e w1 ⟨hb,⟨hcm,rfl⟩ | ⟨hcm,n,T,U,B,so,r,hin,hnl,hT2,hM,rfl,hS,hv',hm⟩⟩
 ·clear q
  go_wp2_with fail
  go_ret3
  exact ⟨hb,.inl ⟨hcm,rfl⟩⟩
 ·clear q
  replace hS:=Lib.hid hS
  replace hM:=Lib.hid hM
  go_wp2_with fail
  go_ret3
  exact ⟨hb,.inr ⟨hcm,n,T,U,B,so,r,hin,hnl,hT2,hM.out,rfl,hS.out,hv',hm⟩⟩
def few7 (t:List VN):Bool:=decide (t.length≤7) && decide (checkF t = 0)
end Go.Proofs.YtemnmcfmabamcaaGreatDoor
end
section
set_option linter.unusedSimpArgs false
set_option linter.unusedVariables false
namespace Go.Proofs.YtemnmcfmabamcaaGreatDoor
open Go Go.RowKit Go.Shelf
theorem inner_at {t:List VN} {n:Nat} {y:VN} (hy:t[n]? = some y):innerB t n = !leafB y:=by
 unfold innerB
 have hn:=(List.getElem?_eq_some_iff.1 hy).1
 have h1:decide ((0:Int)≤n) = true:=decide_eq_true (by omega)
 have h2:decide ((n:Int) < t.length) = true:=decide_eq_true (by omega)
 rw [Int.toNat_natCast,List.getD_eq_getElem?_getD,hy]
 rw [h1,h2];rfl
theorem can_true {t:List VN} {kd n:Nat} (h:L.CanAt t kd n):canM kd t n = true:=by
 obtain ⟨y,hy,hl,h1,h2⟩:=h.here
 unfold canM
 rw [inner_at hy,hl,kidL_get hy,kidR_get hy]
 by_cases e1:kd = 1
 ·obtain ⟨a,x,ha,hx,hxl⟩:=h1 e1
  rw [if_pos e1,ha,inner_at hx,hxl];rfl
 ·rw [if_neg e1]
  by_cases e2:kd = 2
  ·obtain ⟨b,x,hb,hx,hxl⟩:=h2 e2
   rw [if_pos e2,hb,inner_at hx,hxl];rfl
  ·rw [if_neg e2];rfl
theorem moved_T {T:L.Tr} (hv:∀ v∈T.vars,1≤v∧v≤128) {kd n:Nat} {φ:L.Asg→Bool} {w:World} {e:Ending} {w':World} (h:RetMoved kd (T.post 0) n φ w e w') :
  Below w.heap.size w w'∧((L.mvT kd n T 0 = none∧e = .returned (.tuple #[.pointer none,.int .i64 0,.int .i64 1])) ∨
   ∃ (U:L.Tr) (B:Blks) (so:St) (r:Nat),L.mvT kd n T 0 = some U∧e = .returned (.tuple #[.pointer (some ⟨B.sb,0,none⟩),.int .i64 (r:Nat),.int .i64 0])∧SS (U.post 0) B w' 300000 so w'∧Val so r φ∧∀ j∈B.mut,w.heap.size≤j):=by
 obtain ⟨hb,⟨hc,he⟩ | ⟨hc,n',T',U,B,so,r,e1,e2,hT,hM,he,hS,hV,hm⟩⟩:=h
 ·refine ⟨hb,.inl ⟨?_,he⟩⟩
  cases hU:L.mvT kd n T 0 with
  | none=>rfl
  | some U =>
    have:=can_true (L.mvT_can T U 0 [] [] (t:=T.post 0) (by simp) rfl hU)
    rw [hc] at this;cases this
 ·obtain rfl:n = n':=by omega
  have hT0:=L.isT_root hv
  obtain rfl:=hT.uniq hT0
  exact ⟨hb,.inr ⟨U,B,so,r,(L.mvT_post _ _).2 hM,he,hS,hV,hm⟩⟩
structure TrOK (T:L.Tr) (l:List Int):Prop where
 nd:T.vars.Nodup
 range:∀ v∈T.vars,1≤v∧v≤128
 small:T.size≤7
 sorted:l.Pairwise (· < ·)
 mem:∀ v,v∈l↔v∈T.vars
theorem TrOK.chk {T:L.Tr} {l:List Int} (h:TrOK T l):checkF (T.post 0) = 0:=L.post_check h.nd h.range (by have:=h.small;omega)
theorem TrOK.root {T:L.Tr} {l:List Int} (h:TrOK T l):L.IsT L.idc (T.post 0) ((T.post 0).length - 1) T:=L.isT_root h.range
theorem TrOK.sbl {T:L.Tr} {l:List Int} (h:TrOK T l):L.SortedBel (T.post 0) ((T.post 0).length - 1) l:=⟨h.sorted,fun x=>(h.mem x).trans (h.root.mem h.chk x)⟩
theorem TrOK.perm {T U:L.Tr} {l:List Int} (h:TrOK T l) (hp:U.vars.Perm T.vars) (hs:U.size = T.size):TrOK U l :=
 ⟨hp.nodup_iff.2 h.nd,fun v hv=>h.range v (hp.mem_iff.1 hv),by rw [hs];exact h.small,h.sorted,fun v=>(h.mem v).trans hp.mem_iff.symm⟩
theorem TrOK.len {T:L.Tr} {l:List Int} (h:TrOK T l):(T.post 0).length≤7:=by rw [L.Tr.post_len];exact h.small
theorem trOK_of {t:List VN} (hc:checkF t = 0) (h7:t.length≤7) {l:List Int} (hl:L.SortedBel t (t.length - 1) l) {T:L.Tr} (hT:L.IsT L.idc t (t.length - 1) T):TrOK T l :=
 ⟨hT.nodup hc,hT.range hc,Nat.le_trans (hT.size_le hc) h7,hl.sorted,fun v=>(hl.mem v).trans (hT.mem hc v).symm⟩
theorem size_tr {t:List VN} {B0:Blks} {w0 w:World} {k a:Nat} {s:St} {φ:L.Asg→Bool} (h:SS t B0 w0 k s w) (ha:Val s a φ) {l:List Int} (hl:L.SortedBel t (t.length - 1) l) {T:L.Tr} (hT:L.IsT L.idc t (t.length - 1) T) :
  Calls Tryz.prog 20 #[.pointer (some ⟨B0.sb,0,none⟩),.int .i64 a] w fun e w'=>e = .returned (.tuple #[.int .i64 (L.sizeTr T l (L.tabO l φ):Nat),.int .i64 0])∧Below w.heap.size w w':=by
 refine (size_v h ha.lt).mono ?_
 rintro e w' ⟨o,⟨h1,h2⟩,rfl,hb⟩
 have ht:=h.tree
 have e:L.sem s.nodes a = φ:=funext ha.sem
 have hlen:=h.room.len
 have:=L.sizeTr_law h.inv (l:=l) (by rw [ht];exact hl) (T:=T) (by rw [ht];exact hT) (by omega) ha.lt h1 h2
 rw [e] at this
 rw [this]
 exact ⟨rfl,hb⟩
end Go.Proofs.YtemnmcfmabamcaaGreatDoor
end
section
set_option linter.unusedSimpArgs false
set_option linter.unusedVariables false
namespace Go.Proofs.YtemnmcfmabamcaaGreatDoor
open Go Go.RowKit Go.Shelf
def KeepR (B0:Blks) (w0:World) (ba:Option Addr) (vs:List Value):Prop:=vs = []∨∃ b o,ba = some ⟨b,o,none⟩∧b∉B0.mut∧∀ j (hj:j < vs.length),w0.cell? ⟨b,o+j,none⟩ = some vs[j]
theorem KeepR.at {t:List VN} {B0:Blks} {w0 w:World} {k:Nat} {s:St} {ba:Option Addr} {vs:List Value} (h:KeepR B0 w0 ba vs) (hS:SS t B0 w0 k s w) {j:Nat} (hj:j < vs.length):∃ b o,ba = some ⟨b,o,none⟩∧w.cell? ⟨b,o+j,none⟩ = some vs[j]:=by
 rcases h with rfl | ⟨b,o,rfl,hm,hc⟩
 ·simp at hj
 ·exact ⟨b,o,rfl,hS.cell (hc j hj) hm⟩
theorem bits_and16 (y c:Nat) (hy:y < 65536) (hc:c < 65536):bits BinOp.and IntKind.u16 (y:Int) (c:Int) = ((y &&& c:Nat):Int):=by
 have hlt:y &&& c < 65536:=Nat.lt_of_le_of_lt Nat.and_le_left hy
 have e:∀ z:Nat,z < 65536→IntKind.u16.wrap (z:Int) = z:=fun z hz=>by
  simp [IntKind.wrap,IntKind.bits,IntKind.signed];omega
 show IntKind.u16.wrap (((BitVec.ofInt 16 (y:Int) &&& BitVec.ofInt 16 (c:Int):BitVec 16).toNat:Nat):Int) = _
 rw [show ((BitVec.ofInt 16 (y:Int) &&& BitVec.ofInt 16 (c:Int)).toNat) = y &&& c from by
  rw [BitVec.toNat_and,BitVec.ofInt_natCast,BitVec.ofInt_natCast,BitVec.toNat_ofNat,BitVec.toNat_ofNat,Nat.mod_eq_of_lt (by omega),Nat.mod_eq_of_lt (by omega)]]
 exact e _ hlt
end Go.Proofs.YtemnmcfmabamcaaGreatDoor
namespace Go.Proofs.YtemnmcfmabamcaaGreatDoor
open Go Go.RowKit Go.Shelf
theorem own_keep {w w':World} {v:Value} {l:List Int} {B:Blks} {s:St} (h:w'.ownsRow w.heap.size 3 1 v l.length (l.map encZ)) (hR:Rep B s w'):∃ ba cp,v = .slice ba l.length cp∧KeepR B w' ba (l.map encZ):=by
 cases hl0:l with
 | nil =>
   rw [hl0] at h
   obtain ⟨ba,cp,e,_⟩:=owns_slI h
   exact ⟨ba,cp,e,.inl rfl⟩
 | cons x0 l0 =>
   rw [←hl0]
   obtain ⟨g,cp,e,hge,hc⟩:=own_open h (by rw [hl0];simp)
   refine ⟨_,cp,e,.inr ⟨g,0,rfl,fun hcm=>?_,fun j hj=>?_⟩⟩
   ·obtain ⟨c,hgh⟩:=(own_lt h (k:=g) (by rw [e];rfl)).2
    exact hR.not_mut hgh (by decide) (by decide) hcm
   ·have h1:=hc j _ (List.getElem?_eq_getElem hj)
    have hadd:(⟨g,0,none⟩:Addr).add j = ⟨g,j,none⟩:=by unfold Addr.add;split <;> simp_all
    rw [hadd] at h1
    rw [Nat.zero_add];exact h1
theorem vars_few {t:List VN} (hc:checkF t = 0) (h11:t.length≤11):∃ l,varsR t = some l∧l.length≤6∧L.SortedBel t (t.length - 1) l∧∀ v∈l,VarOf t v:=by
 obtain ⟨l,h1,h2⟩:=L.varsR_spec hc
 have h0:=(check_ok hc).1
 have h3:=h2.len hc (by omega)
 have h4:=L.nv_le hc (v:=t.length - 1) (by omega)
 refine ⟨l,h1,by omega,h2,fun v hv=>?_⟩
 obtain ⟨u,y,a1,a2,a3,_⟩:=(h2.mem v).1 hv
 exact ⟨u,y,a1,a2,a3⟩
end Go.Proofs.YtemnmcfmabamcaaGreatDoor
end
section
set_option linter.unusedSimpArgs false
set_option linter.unusedVariables false
namespace Go.Proofs.YtemnmcfmabamcaaGreatDoor
open Go Go.RowKit Go.Shelf
def mdφ (l:List Int) (bits n:Nat):L.Asg→Bool:=fun y=>decide (idxF l y < n) && bits.testBit (idxF l y)
def mdψ (l:List Int) (n k:Nat):L.Asg→Bool:=fun y=>(List.range k).all fun j=>y (l.getD j 0) == n.testBit (l.length - 1 - j)
theorem mdψ_full {l:List Int} {n:Nat} (hn:n < 2 ^ l.length) (y:L.Asg):mdψ l n l.length y = decide (idxF l y = n):=by
 rw [Bool.eq_iff_iff,decide_eq_true_iff,mdψ,List.all_eq_true]
 constructor
 ·intro h
  refine Nat.eq_of_testBit_eq fun i=>?_
  rcases Nat.lt_or_ge i l.length with hi | hi
  ·have:=h (l.length - 1 - i) (List.mem_range.2 (by omega))
   have hb:=idxF_bit l y (j:=l.length - 1 - i) (by omega)
   rw [show l.length - 1 - (l.length - 1 - i) = i by omega] at this hb
   rw [hb]
   simpa [List.getD_eq_getElem?_getD,List.getElem?_eq_getElem (show l.length - 1 - i < l.length by omega)] using this
  ·rw [Nat.testBit_lt_two_pow (Nat.lt_of_lt_of_le (idxF_lt l y) (Nat.pow_le_pow_right (by omega) hi)),Nat.testBit_lt_two_pow (Nat.lt_of_lt_of_le hn (Nat.pow_le_pow_right (by omega) hi))]
 ·intro e j hj
  have hjl:=List.mem_range.1 hj
  have hb:=idxF_bit l y hjl
  rw [e] at hb
  simp [List.getD_eq_getElem?_getD,List.getElem?_eq_getElem hjl,hb]
theorem mdψ_step (l:List Int) (n k:Nat) (hk:k < l.length) (z:Int) (hz:z = if n.testBit (l.length - 1 - k) = true then l[k] else -l[k]) (h1:1≤l[k]) (y:L.Asg):(mdψ l n k y && litφ z y) = mdψ l n (k+1) y:=by
 unfold mdψ litφ
 rw [List.range_succ,List.all_append]
 congr 1
 simp only [List.all_cons,List.all_nil,Bool.and_true,List.getD_eq_getElem?_getD,List.getElem?_eq_getElem hk,Option.getD_some]
 cases hb:n.testBit (l.length - 1 - k)
 ·rw [hb] at hz
  simp only [Bool.false_eq_true,if_false] at hz
  rw [show ((z.natAbs:Nat):Int) = l[k] by omega,decide_eq_false (by omega)]
 ·rw [hb] at hz
  simp only [if_true] at hz
  rw [show ((z.natAbs:Nat):Int) = l[k] by omega,decide_eq_true (by omega)]
theorem mdφ_skip (l:List Int) (bits n:Nat) (h:bits.testBit n = false) (y:L.Asg):mdφ l bits n y = mdφ l bits (n+1) y:=by
 unfold mdφ
 by_cases e:idxF l y = n
 ·rw [e,h];simp
 ·congr 1
  rw [Bool.eq_iff_iff,decide_eq_true_iff,decide_eq_true_iff];omega
theorem mdφ_take (l:List Int) (bits n:Nat) (h:bits.testBit n = true) (hn:n < 2 ^ l.length) (y:L.Asg):(mdφ l bits n y || mdψ l n l.length y) = mdφ l bits (n+1) y:=by
 rw [mdψ_full hn]
 unfold mdφ
 by_cases e:idxF l y = n
 ·rw [e,h];simp
 ·rw [decide_eq_false e,Bool.or_false]
  congr 1
  rw [Bool.eq_iff_iff,decide_eq_true_iff,decide_eq_true_iff];omega
def MdLoop (wa:World) (t:List VN) (B:Blks) (w0:World) (φ:L.Asg→Bool) (r:Nat) (wr:World):Prop:=∃ so,SS t B w0 300000 so wr∧Val so r φ∧Below wa.heap.size wa wr
def MdLoop2 (wa:World) (t:List VN) (B:Blks) (w0:World) (φ ψ:L.Asg→Bool) (r x:Nat) (wr:World):Prop:=∃ so,SS t B w0 300000 so wr∧Val so r φ∧Val so x ψ∧Below wa.heap.size wa wr
end Go.Proofs.YtemnmcfmabamcaaGreatDoor
namespace Go.Proofs.YtemnmcfmabamcaaGreatDoor
open Go Go.RowKit Go.Shelf
def t4v:List VN:=[⟨-1,-1,1⟩,⟨-1,-1,2⟩,⟨-1,-1,3⟩,⟨1,2,0⟩,⟨0,3,0⟩]
def vwText:List UInt8:=[40,45,49,32,70,59,32,49,32,40,45,50,32,70,59,32,50,32,51,41,41]
def vwB:Bool:=match literalF (newSt t4v) 1 0 with
 | none=>false
 | some (a,s1)=>match literalF s1 2 1 with
   | none=>false
   | some (b,s2)=>match literalF s2 3 2 with
     | none=>false
     | some (c,s3)=>match andF 14 s3 b c with
       | none=>false
       | some (d,s4)=>match andF 14 s4 a d with
         | none=>false
         | some (e,s5)=>decide (L.tx s5.nodes e = vwText)
theorem vw_data:vwB = true:=by kernel_rfl
structure DS (t:List VN) (s:St):Prop where
 room:L.Room s 300000
 tree:s.tree = t
theorem ds_lit {t:List VN} {s:St} {l:Int} {u:Nat} {y:VN} (h:DS t s) (hy:t[u]? = some y) (hl:leafB y = true) (hv:y.var = (l.natAbs:Int)):∃ c s',literalF s l u = some (c,s')∧DS t s'∧L.Step s s'∧Val s' c (litφ l):=by
 obtain ⟨c,s',e,st,lt,sm,bg⟩:=L.literal_spec h.room (l:=l) (u:=u) (y:=y) (by rw [h.tree];exact hy) hl hv
 have hr:=h.room.room
 exact ⟨c,s',e,⟨⟨st.inv,by rw [st.tree];exact h.room.few,by omega⟩,by rw [st.tree];exact h.tree⟩,st,⟨lt,sm⟩⟩
theorem ds_and {t:List VN} {s:St} {a b:Nat} {φ ψ:L.Asg→Bool} (h:DS t s) (hc:checkF t = 0) (h7:t.length≤7) (ha:Val s a φ) (hb:Val s b ψ):∃ c s',andF 14 s a b = some (c,s')∧DS t s'∧L.Step s s'∧Val s' c fun y=>φ y && ψ y:=by
 have t0:=(check_ok hc).1
 have hfc:=(free_cost hc h7).1
 obtain ⟨c,s',e,st,lt,sm,bg⟩:=L.and_spec hc (by omega) (t.length - 1) (by omega) 14 (by omega) s a b h.tree (h.room.less (by omega)) ha.lt hb.lt (by rw [←h.tree];exact dep_root h.room.inv ha.lt) (by rw [←h.tree];exact dep_root h.room.inv hb.lt)
 have hr:=h.room.room
 exact ⟨c,s',e,⟨⟨st.inv,by rw [st.tree];exact h.room.few,by omega⟩,by rw [st.tree];exact h.tree⟩,st,⟨lt,fun y=>by rw [sm];show (L.sem s.nodes a y && L.sem s.nodes b y) = _;rw [ha.sem,hb.sem]⟩⟩
theorem vw_text {so:St} {r:Nat} {φ:L.Asg→Bool} (hi:L.Inv so) (ht:so.tree = t4v) (hv:Val so r φ) (hφ:∀ y,φ y = (y 1 && (y 2 && y 3))):L.tx so.nodes r = vwText:=by
 have hc:checkF t4v = 0:=by kernel_rfl
 have h0:DS t4v (newSt t4v):=⟨⟨new_inv hc,by show t4v.length≤11;decide,by rw [new_big];exact Nat.le_refl _⟩,rfl⟩
 obtain ⟨a,s1,e1,d1,st1,v1⟩:=ds_lit (l:=1) (u:=0) h0 (y:=⟨-1,-1,1⟩) rfl rfl rfl
 obtain ⟨b,s2,e2,d2,st2,v2⟩:=ds_lit (l:=2) (u:=1) d1 (y:=⟨-1,-1,2⟩) rfl rfl rfl
 obtain ⟨c,s3,e3,d3,st3,v3⟩:=ds_lit (l:=3) (u:=2) d2 (y:=⟨-1,-1,3⟩) rfl rfl rfl
 obtain ⟨d,s4,e4,d4,st4,v4⟩:=ds_and d3 hc (by decide) (v2.step d2.room.inv st3) v3
 obtain ⟨e,s5,e5,d5,st5,v5⟩:=ds_and d4 hc (by decide) (((v1.step d1.room.inv st2).step d2.room.inv st3).step d3.room.inv st4) v4
 have e1:literalF (newSt t4v) 1 0 = some (a,s1):=e1
 have e2:literalF s1 2 1 = some (b,s2):=e2
 have e3:literalF s2 3 2 = some (c,s3):=e3
 have hd:=vw_data
 unfold vwB at hd
 rw [e1] at hd
 simp only at hd
 rw [e2] at hd
 simp only at hd
 rw [e3] at hd
 simp only at hd
 rw [e4] at hd
 simp only at hd
 rw [e5] at hd
 simp only [decide_eq_true_eq] at hd
 rw [←hd]
 refine L.tx_eq d5.room.inv hi (by rw [ht,d5.tree]) e r v5.lt hv.lt ?_ |>.symm
 funext y
 rw [v5.sem,hv.sem,hφ]
 simp only [litφ]
 cases h1:y 1 <;> cases h2:y 2 <;> cases h3:y 3 <;> simp_all
end Go.Proofs.YtemnmcfmabamcaaGreatDoor
end
