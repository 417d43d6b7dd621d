import Derived.Test.YtemnmcfmabamcaaGreatDoorWOver
import Derived.Test.YtemnmcfmabamcaaGreatDoorWVmv
import Derived.Test.YtemnmcfmabamcaaGreatDoorWReg
import Derived.Test.YtemnmcfmabamcaaGreatDoorWRefChk
import Derived.Test.YtemnmcfmabamcaaGreatDoorWTab2
set_option linter.unusedSimpArgs false
set_option linter.unusedVariables false
namespace Go.Proofs.YtemnmcfmabamcaaGreatDoor
open Go Go.RowKit Go.Shelf
def RetMoved (kd:Nat) (t:List VN) (i:Int) (φ:L.Asg→Bool) (w:World) (e:Ending) (w':World):Prop :=
 Below w.heap.size w w'∧((canM kd t i = false∧e = .returned (.tuple #[.pointer none,.int .i64 0,.int .i64 1])) ∨
  (canM kd t i = true∧∃ (n:Nat) (T U:L.Tr) (B:Blks) (so:St) (r:Nat),i = n∧n < t.length∧L.IsT L.idc t (t.length - 1) T∧L.Mv t kd n (t.length - 1) T U ∧
    e = .returned (.tuple #[.pointer (some ⟨B.sb,0,none⟩),.int .i64 (r:Nat),.int .i64 0])∧SS (U.post 0) B w' 300000 so w'∧Val so r φ∧∀ j∈B.mut,w.heap.size≤j))
theorem moved_vars {t:List VN} (hc:checkF t = 0) {kd n:Nat} {T U:L.Tr} (hT:L.IsT L.idc t (t.length - 1) T) (hM:L.Mv t kd n (t.length - 1) T U):∀ v,VarOf t v↔VarOf (U.post 0) v:=fun v=>by
 obtain ⟨h1,h2,_,h4⟩:=L.moved_ok hc hT hM
 exact ((hT.root_mem hc v).symm.trans (h4 v).symm).trans (h2.root_mem h1 v)
set_option maxRecDepth 100000 in
set_option maxHeartbeats 4000000 in
theorem apply_any {w:World} {t:List VN} {s:St} {B1:Blks} {k1 root fm kd:Nat} {i:Int} {φ:L.Asg→Bool} (hs:SS t B1 w k1 s w) (hv:Val s root φ) (h7:t.length≤7) (hT:TzTab w) (hP:PowTab w)
  (hKf:∀ (c:Array Value) (w:World),(callFunc fm c).run Tryz.prog w = .ok (.enter fm c) w) (hfm:∀ (W:World) (b o cap:Nat),TreeAt W b o t→Calls Tryz.prog fm #[.slice (some ⟨b,o,none⟩) t.length cap,.int .i64 i] W (RetMove kd t i W)) :
  Calls Tryz.prog 95 #[.agg #[.func (.func fm) #[] #[]],.pointer (some ⟨B1.sb,0,none⟩),.int .i64 (root:Nat),.int .i64 i] w (RetMoved kd t i φ w):=by
 generalize hx:w.heap.size = x at *
 have hb1:=(Below.refl w.heap.size w).alloc (Nat.le_refl _) (.cells #[.func (.func fm) #[] #[]] 156)
 have hbx:=heap_alloc_new w (.cells #[.func (.func fm) #[] #[]] 156)
 rw [hx] at hbx
 have hs1:=hs.below hb1
 have q1:=size_v hs1 hv.lt
 have hc0:(w.alloc (.cells #[.func (.func fm) #[] #[]] 156)).cell? ⟨x,0,none⟩ = some (.func (.func fm) #[] #[]):=by rw [World.cell?,hbx];rfl
 replace hs1:=Lib.hid hs1
 replace hx:=Lib.hid hx
 go_enter Tryz.func95,Tryz.ntmps95
 go_wp2_with fail
 simp only [hx.out]
 generalize w.alloc (.cells #[.func (.func fm) #[] #[]] 156) = w1 at *
 refine q1.mono ?_
 rintro e w2 ⟨oo,_,rfl,hb2⟩
 have hb02:=hb1.trans (hb2.mono hb1.size)
 have hbd:=(Below.refl w2.heap.size w2).drew
 have hs2:=hs1.out.below (hb2.trans (hbd.mono hb2.size))
 have hcx:=(hb2.cell (World.block_lt_of_cell? w1 _ hc0)).trans hc0
 obtain ⟨Bh,hRh,hSh⟩:=hs2.held
 have htr:=hs2.tree
 have qt:=tree_any hRh (by rw [htr];omega)
 rw [hSh.sb,htr] at qt
 replace hs2:=Lib.hid hs2
 clear q1 hRh hSh
 cases hcm:canM kd t i
 ·go_wp2_with fail
  (refine wp_region_held_drew (S:=(fun W=>W.cell? ⟨x,0,none⟩ = some (.func (.func fm) #[] #[]))) (by kernel_rfl) ?_ (fun hHeld=>?_))
  ·exact hcx
  (refine takeL (i:=0) (v:=?_) rfl (by kernel_rfl) (by kernel_rfl) (by kernel_rfl) (fun _ _ _ h=>h) (Or.inl ⟨by rfl,?_⟩) (by assumption) ?_)
  rotate_left
  ·(intro w hSw;(try dsimp only at hSw);go_simp;first | done | with_reducible rfl)
  (try simp only [Act.put,List.setIfInBounds_toArray,List.set_cons_zero,List.set_cons_succ])
  (refine takeL (i:=1) (v:=?_) rfl (by kernel_rfl) (by kernel_rfl) (by kernel_rfl) (fun _ _ _ h=>h) (Or.inl ⟨by rfl,?_⟩) (by assumption) ?_)
  rotate_left
  ·(intro w hSw;(try dsimp only at hSw);go_simp;first | done | with_reducible rfl)
  (try simp only [Act.put,List.setIfInBounds_toArray,List.set_cons_zero,List.set_cons_succ])
  (refine takeL (i:=2) (v:=?_) rfl (by kernel_rfl) (by kernel_rfl) (by kernel_rfl) (fun _ _ _ h=>h) (Or.inl ⟨by rfl,?_⟩) (by assumption) ?_)
  rotate_left
  ·(intro w hSw;(try dsimp only at hSw);go_simp;first | done | with_reducible rfl)
  (try simp only [Act.put,List.setIfInBounds_toArray,List.set_cons_zero,List.set_cons_succ])
  (refine takeL (i:=4) (v:=?_) rfl (by kernel_rfl) (by kernel_rfl) (by kernel_rfl) (fun _ _ _ h=>h) (Or.inl ⟨by rfl,?_⟩) (by assumption) ?_)
  rotate_left
  ·(intro w hSw;(try dsimp only at hSw);go_simp;first | done | with_reducible rfl)
  (try simp only [Act.put,List.setIfInBounds_toArray,List.set_cons_zero,List.set_cons_succ])
  (refine wpAnyH_ready (rs:=[3]) (by kernel_rfl) (by simp) ?_)
  (refine consL rfl (fun K hK=>?_))
  ((rw [if_pos (by rfl)]);go_simp;(go_at_call 19);refine qt.mono ?_;rintro e w3 ⟨g3,cp3,cs3,rfl,hg3,hh3,hcs3,hb3⟩;have hc3:=(hb3.cell (World.block_lt_of_cell? w2 _ hcx)).trans hcx;refine hK.out _ _ hc3 (fun hHeld=>?_))
  (clear hK K)
  (try simp only [Act.put,List.setIfInBounds_toArray,List.set_cons_zero,List.set_cons_succ])
  have ht3:TreeAt w3 g3 0 t:=fun j u hj=>by rw [World.cell?,hh3];exact hcs3 j u hj
  have qf:=hfm w3 g3 0 cp3 ht3
  have hs3:=Lib.hid (hs2.out.below hb3)
  have hb03:=Lib.hid (hb02.trans ((hbd.trans (hb3.mono hbd.size)).mono hb02.size))
  clear qt hh3 hcs3 ht3
  (refine wpAnyH_ready (rs:=[5]) (by kernel_rfl) (by simp) ?_)
  (refine consL rfl (fun K hK=>?_))
  ((rw [if_pos (by rfl)]);go_simp;refine qf.mono ?_;rintro e w4 ⟨hb4,hcase⟩;obtain ⟨_,rfl⟩:=hcase.resolve_right (fun h=>by rw [hcm] at h;exact Bool.noConfusion h.1);have hc4:=(hb4.cell (World.block_lt_of_cell? w3 _ hc3)).trans hc3;refine hK.out _ _ hc4 (fun hHeld=>?_))
  (clear hK K)
  (try simp only [Act.put,List.setIfInBounds_toArray,List.set_cons_zero,List.set_cons_succ])
  (refine takeL (i:=6) (v:=?_) rfl (by kernel_rfl) (by kernel_rfl) (by kernel_rfl) (fun _ _ _ h=>h) (Or.inl ⟨by rfl,?_⟩) (by assumption) ?_)
  rotate_left
  ·(intro w hSw;(try dsimp only at hSw);go_simp;first | done | with_reducible rfl)
  (try simp only [Act.put,List.setIfInBounds_toArray,List.set_cons_zero,List.set_cons_succ])
  (refine takeL (i:=7) (v:=?_) rfl (by kernel_rfl) (by kernel_rfl) (by kernel_rfl) (fun _ _ _ h=>h) (Or.inl ⟨by rfl,?_⟩) (by assumption) ?_)
  rotate_left
  ·(intro w hSw;(try dsimp only at hSw);go_simp;first | done | with_reducible rfl)
  (try simp only [Act.put,List.setIfInBounds_toArray,List.set_cons_zero,List.set_cons_succ])
  (refine takeL (i:=8) (v:=?_) rfl (by kernel_rfl) (by kernel_rfl) (by kernel_rfl) (fun _ _ _ h=>h) (Or.inl ⟨by rfl,?_⟩) (by assumption) ?_)
  rotate_left
  ·(intro w hSw;(try dsimp only at hSw);go_simp;first | done | with_reducible rfl)
  (try simp only [Act.put,List.setIfInBounds_toArray,List.set_cons_zero,List.set_cons_succ])
  (refine takeL (i:=9) (v:=?_) rfl (by kernel_rfl) (by kernel_rfl) (by kernel_rfl) (fun _ _ _ h=>h) (Or.inl ⟨by rfl,?_⟩) (by assumption) ?_)
  rotate_left
  ·(intro w hSw;(try dsimp only at hSw);go_simp;first | done | with_reducible rfl)
  (try simp only [Act.put,List.setIfInBounds_toArray,List.set_cons_zero,List.set_cons_succ])
  (refine takeL (i:=10) (v:=?_) rfl (by kernel_rfl) (by kernel_rfl) (by kernel_rfl) (fun _ _ _ h=>h) (Or.inl ⟨by rfl,?_⟩) (by assumption) ?_)
  rotate_left
  ·(intro w hSw;(try dsimp only at hSw);go_simp;first | done | with_reducible rfl)
  (try simp only [Act.put,List.setIfInBounds_toArray,List.set_cons_zero,List.set_cons_succ])
  (refine wpAnyH_done (by kernel_rfl) ?_ _)
  go_wp2_with fail
  go_ret3
  exact ⟨hb03.out.trans (hb4.mono hb03.out.size),.inl ⟨hcm,rfl⟩⟩
 ·go_wp2_with fail
  (refine wp_region_held_drew (S:=(fun W=>W.cell? ⟨x,0,none⟩ = some (.func (.func fm) #[] #[]))) (by kernel_rfl) ?_ (fun hHeld=>?_))
  ·exact hcx
  (refine takeL (i:=0) (v:=?_) rfl (by kernel_rfl) (by kernel_rfl) (by kernel_rfl) (fun _ _ _ h=>h) (Or.inl ⟨by rfl,?_⟩) (by assumption) ?_)
  rotate_left
  ·(intro w hSw;(try dsimp only at hSw);go_simp;first | done | with_reducible rfl)
  (try simp only [Act.put,List.setIfInBounds_toArray,List.set_cons_zero,List.set_cons_succ])
  (refine takeL (i:=1) (v:=?_) rfl (by kernel_rfl) (by kernel_rfl) (by kernel_rfl) (fun _ _ _ h=>h) (Or.inl ⟨by rfl,?_⟩) (by assumption) ?_)
  rotate_left
  ·(intro w hSw;(try dsimp only at hSw);go_simp;first | done | with_reducible rfl)
  (try simp only [Act.put,List.setIfInBounds_toArray,List.set_cons_zero,List.set_cons_succ])
  (refine takeL (i:=2) (v:=?_) rfl (by kernel_rfl) (by kernel_rfl) (by kernel_rfl) (fun _ _ _ h=>h) (Or.inl ⟨by rfl,?_⟩) (by assumption) ?_)
  rotate_left
  ·(intro w hSw;(try dsimp only at hSw);go_simp;first | done | with_reducible rfl)
  (try simp only [Act.put,List.setIfInBounds_toArray,List.set_cons_zero,List.set_cons_succ])
  (refine takeL (i:=4) (v:=?_) rfl (by kernel_rfl) (by kernel_rfl) (by kernel_rfl) (fun _ _ _ h=>h) (Or.inl ⟨by rfl,?_⟩) (by assumption) ?_)
  rotate_left
  ·(intro w hSw;(try dsimp only at hSw);go_simp;first | done | with_reducible rfl)
  (try simp only [Act.put,List.setIfInBounds_toArray,List.set_cons_zero,List.set_cons_succ])
  (refine wpAnyH_ready (rs:=[3]) (by kernel_rfl) (by simp) ?_)
  (refine consL rfl (fun K hK=>?_))
  ((rw [if_pos (by rfl)]);go_simp;(go_at_call 19);refine qt.mono ?_;rintro e w3 ⟨g3,cp3,cs3,rfl,hg3,hh3,hcs3,hb3⟩;have hc3:=(hb3.cell (World.block_lt_of_cell? w2 _ hcx)).trans hcx;refine hK.out _ _ hc3 (fun hHeld=>?_))
  (clear hK K)
  (try simp only [Act.put,List.setIfInBounds_toArray,List.set_cons_zero,List.set_cons_succ])
  have ht3:TreeAt w3 g3 0 t:=fun j u hj=>by rw [World.cell?,hh3];exact hcs3 j u hj
  have qf:=hfm w3 g3 0 cp3 ht3
  have hs3:=Lib.hid (hs2.out.below hb3)
  have hb03:=Lib.hid (hb02.trans ((hbd.trans (hb3.mono hbd.size)).mono hb02.size))
  clear qt hh3 hcs3 ht3
  (refine wpAnyH_ready (rs:=[5]) (by kernel_rfl) (by simp) ?_)
  (refine consL rfl (fun K hK=>?_))
  ((rw [if_pos (by rfl)]);go_simp;refine qf.mono ?_;rintro e w4 ⟨hb4,hcase⟩;obtain ⟨_,n,T,U,g,cp,hin,hnl,hTT,hM,rfl,hTU,hgU⟩:=hcase.resolve_left (fun h=>by rw [hcm] at h;exact Bool.noConfusion h.1);have hc4:=(hb4.cell (World.block_lt_of_cell? w3 _ hc3)).trans hc3;refine hK.out _ _ hc4 (fun hHeld=>?_))
  (clear hK K)
  (try simp only [Act.put,List.setIfInBounds_toArray,List.set_cons_zero,List.set_cons_succ])
  (refine takeL (i:=6) (v:=?_) rfl (by kernel_rfl) (by kernel_rfl) (by kernel_rfl) (fun _ _ _ h=>h) (Or.inl ⟨by rfl,?_⟩) (by assumption) ?_)
  rotate_left
  ·(intro w hSw;(try dsimp only at hSw);go_simp;first | done | with_reducible rfl)
  (try simp only [Act.put,List.setIfInBounds_toArray,List.set_cons_zero,List.set_cons_succ])
  (refine takeL (i:=7) (v:=?_) rfl (by kernel_rfl) (by kernel_rfl) (by kernel_rfl) (fun _ _ _ h=>h) (Or.inl ⟨by rfl,?_⟩) (by assumption) ?_)
  rotate_left
  ·(intro w hSw;(try dsimp only at hSw);go_simp;first | done | with_reducible rfl)
  (try simp only [Act.put,List.setIfInBounds_toArray,List.set_cons_zero,List.set_cons_succ])
  (refine takeL (i:=8) (v:=?_) rfl (by kernel_rfl) (by kernel_rfl) (by kernel_rfl) (fun _ _ _ h=>h) (Or.inl ⟨by rfl,?_⟩) (by assumption) ?_)
  rotate_left
  ·(intro w hSw;(try dsimp only at hSw);go_simp;first | done | with_reducible rfl)
  (try simp only [Act.put,List.setIfInBounds_toArray,List.set_cons_zero,List.set_cons_succ])
  (refine takeL (i:=9) (v:=?_) rfl (by kernel_rfl) (by kernel_rfl) (by kernel_rfl) (fun _ _ _ h=>h) (Or.inl ⟨by rfl,?_⟩) (by assumption) ?_)
  rotate_left
  ·(intro w hSw;(try dsimp only at hSw);go_simp;first | done | with_reducible rfl)
  (try simp only [Act.put,List.setIfInBounds_toArray,List.set_cons_zero,List.set_cons_succ])
  (refine takeL (i:=10) (v:=?_) rfl (by kernel_rfl) (by kernel_rfl) (by kernel_rfl) (fun _ _ _ h=>h) (Or.inl ⟨by rfl,?_⟩) (by assumption) ?_)
  rotate_left
  ·(intro w hSw;(try dsimp only at hSw);go_simp;first | done | with_reducible rfl)
  (try simp only [Act.put,List.setIfInBounds_toArray,List.set_cons_zero,List.set_cons_succ])
  (refine wpAnyH_done (by kernel_rfl) ?_ _)
  have hb04:=hb03.out.trans (hb4.mono hb03.out.size)
  obtain ⟨B4,hB4,hR4,hs4,_⟩:=(hs3.out.below hb4).here
  obtain ⟨m1,_,m3,_⟩:=L.moved_ok hs.chk hTT hM
  have qo:=over_any (cap:=cp) hs4 hv hTU m1 (by omega) (fun v hv=>(moved_vars hs.chk hTT hM v).1 hv) (hT.same (hb04.block _ hT.lt')) (hP.same (hb04.block _ hP.lt))
  rw [hB4] at qo
  replace hb04:=Lib.hid hb04
  replace hTU:=Lib.hid hTU
  replace hs4:=Lib.hid hs4
  replace hR4:=Lib.hid hR4
  clear qf hHeld hb4 hc4 hc3
  go_wp2_with fail
  refine qo.mono ?_
  rintro e w5 ⟨B,so,r,rfl,hS5,hv5,hm5,hb5⟩
  replace hS5:=Lib.hid hS5
  go_wp2_with fail
  go_ret3
  exact ⟨hb04.out.trans (hb5.mono hb04.out.size),.inr ⟨hcm,n,T,U,B,so,r,hin,hnl,hTT,hM,rfl,hS5.out,hv5,fun j hj=>Nat.le_trans hb04.out.size (hm5 j hj)⟩⟩
end Go.Proofs.YtemnmcfmabamcaaGreatDoor
namespace Go.Proofs.YtemnmcfmabamcaaGreatDoor
open Go Go.RowKit Go.Shelf
theorem right_run {t:List VN} (hc:checkF t = 0) (i:Int):∀ (W:World) (b o cap:Nat),TreeAt W b o t→Calls Tryz.prog 94 #[.slice (some ⟨b,o,none⟩) t.length cap,.int .i64 i] W (RetMove 1 t i W):=fun W b o cap h=>vright_any h hc
theorem left_run {t:List VN} (hc:checkF t = 0) (i:Int):∀ (W:World) (b o cap:Nat),TreeAt W b o t→Calls Tryz.prog 96 #[.slice (some ⟨b,o,none⟩) t.length cap,.int .i64 i] W (RetMove 2 t i W):=fun W b o cap h=>vleft_any h hc
theorem swap_run {t:List VN} (hc:checkF t = 0) (i:Int):∀ (W:World) (b o cap:Nat),TreeAt W b o t→Calls Tryz.prog 97 #[.slice (some ⟨b,o,none⟩) t.length cap,.int .i64 i] W (RetMove 3 t i W):=fun W b o cap h=>vswap_any h hc
set_option maxRecDepth 100000 in
set_option maxHeartbeats 1000000 in
theorem mvright_any {w:World} {t:List VN} {s:St} {B1:Blks} {k1 root:Nat} {i:Int} {φ:L.Asg→Bool} (hs:SS t B1 w k1 s w) (hv:Val s root φ) (h7:t.length≤7) (hT:TzTab w) (hP:PowTab w) :
  Calls Tryz.prog 62 #[.pointer (some ⟨B1.sb,0,none⟩),.int .i64 (root:Nat),.int .i64 i] w (RetMoved 1 t i φ w):=by
 have q:=apply_any (fm:=94) (kd:=1) (i:=i) hs hv h7 hT hP (fun c w=>by simp [go_sem,Tryz.func94]) (right_run hs.chk i)
 go_enter Tryz.func62,Tryz.ntmps62
 go_wp2_with fail
 refine q.mono ?_
 rintro e w1 ⟨hb,⟨hcm,rfl⟩ | ⟨hcm,n,T,U,B,so,r,hin,hnl,hT2,hM,rfl,hS,hv',hm⟩⟩
 ·clear q
  go_wp2_with fail
  go_ret3
  exact ⟨hb,.inl ⟨hcm,rfl⟩⟩
 ·clear q
  replace hS:=Lib.hid hS
  replace hM:=Lib.hid hM
  go_wp2_with fail
  go_ret3
  exact ⟨hb,.inr ⟨hcm,n,T,U,B,so,r,hin,hnl,hT2,hM.out,rfl,hS.out,hv',hm⟩⟩
set_option maxRecDepth 100000 in
set_option maxHeartbeats 1000000 in
theorem mvleft_any {w:World} {t:List VN} {s:St} {B1:Blks} {k1 root:Nat} {i:Int} {φ:L.Asg→Bool} (hs:SS t B1 w k1 s w) (hv:Val s root φ) (h7:t.length≤7) (hT:TzTab w) (hP:PowTab w) :
  Calls Tryz.prog 63 #[.pointer (some ⟨B1.sb,0,none⟩),.int .i64 (root:Nat),.int .i64 i] w (RetMoved 2 t i φ w):=by
 have q:=apply_any (fm:=96) (kd:=2) (i:=i) hs hv h7 hT hP (fun c w=>by simp [go_sem,Tryz.func96]) (left_run hs.chk i)
 go_enter Tryz.func63,Tryz.ntmps63
 go_wp2_with fail
 refine q.mono ?_
 rintro e w1 ⟨hb,⟨hcm,rfl⟩ | ⟨hcm,n,T,U,B,so,r,hin,hnl,hT2,hM,rfl,hS,hv',hm⟩⟩
 ·clear q
  go_wp2_with fail
  go_ret3
  exact ⟨hb,.inl ⟨hcm,rfl⟩⟩
 ·clear q
  replace hS:=Lib.hid hS
  replace hM:=Lib.hid hM
  go_wp2_with fail
  go_ret3
  exact ⟨hb,.inr ⟨hcm,n,T,U,B,so,r,hin,hnl,hT2,hM.out,rfl,hS.out,hv',hm⟩⟩
set_option maxRecDepth 100000 in
set_option maxHeartbeats 1000000 in
theorem mvswap_any {w:World} {t:List VN} {s:St} {B1:Blks} {k1 root:Nat} {i:Int} {φ:L.Asg→Bool} (hs:SS t B1 w k1 s w) (hv:Val s root φ) (h7:t.length≤7) (hT:TzTab w) (hP:PowTab w) :
  Calls Tryz.prog 64 #[.pointer (some ⟨B1.sb,0,none⟩),.int .i64 (root:Nat),.int .i64 i] w (RetMoved 3 t i φ w):=by
 have q:=apply_any (fm:=97) (kd:=3) (i:=i) hs hv h7 hT hP (fun c w=>by simp [go_sem,Tryz.func97]) (swap_run hs.chk i)
 go_enter Tryz.func64,Tryz.ntmps64
 go_wp2_with fail
 refine q.mono ?_
 rintro e w1 ⟨hb,⟨hcm,rfl⟩ | ⟨hcm,n,T,U,B,so,r,hin,hnl,hT2,hM,rfl,hS,hv',hm⟩⟩
 ·clear q
  go_wp2_with fail
  go_ret3
  exact ⟨hb,.inl ⟨hcm,rfl⟩⟩
 ·clear q
  replace hS:=Lib.hid hS
  replace hM:=Lib.hid hM
  go_wp2_with fail
  go_ret3
  exact ⟨hb,.inr ⟨hcm,n,T,U,B,so,r,hin,hnl,hT2,hM.out,rfl,hS.out,hv',hm⟩⟩
def few7 (t:List VN):Bool:=decide (t.length≤7) && decide (checkF t = 0)
end Go.Proofs.YtemnmcfmabamcaaGreatDoor
