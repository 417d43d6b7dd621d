import Derived.Test.YtckhohpbokojdaaGreatDoorMN35
set_option linter.unusedSimpArgs false
set_option linter.unusedVariables false
namespace Go.Proofs.YtckhohpbokojdaaGreatDoor
open Go Go.RowKit Go.Shelf
set_option maxRecDepth 100000 in
set_option maxHeartbeats 4000000 in
theorem same4_any {w:World} {v v':Value} {l:List Int} (hv:SlI w v l) (hv':SlI w v' l) (hl:l.length≤1048576) :
  Calls Tryz.prog 69 #[v,v'] w fun e w'=>e = .returned (.bool true)∧Ext w w':=by
 obtain ⟨ba,cp,rfl,hcs⟩:=hv.shape
 obtain ⟨ba',cp',rfl,hcs'⟩:=hv'.shape
 clear hv hv'
 have dn:((l.length:Int) != (l.length:Int)) = false:=by simp
 replace hcs:=Lib.hid hcs
 replace hcs':=Lib.hid hcs'
 go_enter Tryz.func69,Tryz.ntmps69
 go_wp2_with fail
 go_loopw [5] (fun i wr=>∃ k:Nat,k≤l.length∧i = .int .i64 (k:Int)∧Hid (Ext w wr)) (fun i _=>l.length - (intOf i).toNat)
 case atStart=>exact ⟨0,by omega,rfl,Lib.hid (Ext.refl _)⟩
 case round =>
  obtain ⟨k,hk,rfl,hI⟩:=hrel
  by_cases hlt:k < l.length
  ·have d0:decide ((k:Int) < (l.length:Int)) = true:=decide_eq_true (by omega)
   have g0':(0:Int)≤(k:Int):=by omega
   have g1:(k:Int) < (l.length:Int):=by omega
   obtain ⟨b,o,rfl,hc⟩:=hcs.out k hlt
   obtain ⟨b',o',rfl,hc'⟩:=hcs'.out k hlt
   have hd:=Lib.hid (hI.out.trans ((Ext.refl wr).drew))
   have m0:=hd.out.cell hc
   have m1:=hd.out.cell hc'
   generalize l[k] = u at *
   replace hc:=Lib.hid hc
   replace hc':=Lib.hid hc'
   go_wp2_with fail
   (refine wp_region_held_drew (S:=(fun V=>V.cell? ⟨b,o+k,none⟩ = some (.int .i64 u)∧V.cell? ⟨b',o'+k,none⟩ = some (.int .i64 u))) (by kernel_rfl) ?_ (fun hHeld=>?_))
   ·exact ⟨m0,m1⟩
   (refine takeL (i:=0) (v:=?_) rfl (by kernel_rfl) (by kernel_rfl) (by kernel_rfl) (fun _ _ _ h=>h) (Or.inl ⟨by rfl,?_⟩) (by assumption) ?_)
   rotate_left
   ·(intro w hSw;(try dsimp only at hSw);go_simp;first | done | with_reducible rfl)
   (try simp only [Act.put,List.setIfInBounds_toArray,List.set_cons_zero,List.set_cons_succ])
   (refine takeL (i:=1) (v:=?_) rfl (by kernel_rfl) (by kernel_rfl) (by kernel_rfl) (fun _ _ _ h=>h) (Or.inl ⟨by rfl,?_⟩) (by assumption) ?_)
   rotate_left
   ·(intro w hSw;(try dsimp only at hSw);go_simp;first | done | with_reducible rfl)
   (try simp only [Act.put,List.setIfInBounds_toArray,List.set_cons_zero,List.set_cons_succ])
   (refine takeL (i:=2) (v:=?_) rfl (by kernel_rfl) (by kernel_rfl) (by kernel_rfl) (fun _ _ _ h=>h) (Or.inl ⟨by rfl,?_⟩) (by assumption) ?_)
   rotate_left
   ·(intro w hSw;(try dsimp only at hSw);go_simp;first | done | with_reducible rfl)
   (try simp only [Act.put,List.setIfInBounds_toArray,List.set_cons_zero,List.set_cons_succ])
   (refine takeL (i:=3) (v:=?_) rfl (by kernel_rfl) (by kernel_rfl) (by kernel_rfl) (fun _ _ _ h=>h) (Or.inl ⟨by rfl,?_⟩) (by assumption) ?_)
   rotate_left
   ·(intro w hSw;(try dsimp only at hSw);go_simp;first | done | with_reducible rfl)
   (try simp only [Act.put,List.setIfInBounds_toArray,List.set_cons_zero,List.set_cons_succ])
   (refine takeL (i:=4) (v:=?_) rfl (by kernel_rfl) (by kernel_rfl) (by kernel_rfl) (fun _ _ _ h=>h) (Or.inl ⟨by rfl,?_⟩) (by assumption) ?_)
   rotate_left
   ·(intro w hSw;(try dsimp only at hSw);go_simp;first | done | with_reducible rfl)
   (try simp only [Act.put,List.setIfInBounds_toArray,List.set_cons_zero,List.set_cons_succ])
   (refine takeL (i:=5) (v:=?_) rfl (by kernel_rfl) (by kernel_rfl) (by kernel_rfl) (fun _ _ _ h=>h) (Or.inl ⟨by rfl,?_⟩) (by assumption) ?_)
   rotate_left
   ·(intro w hSw;(try dsimp only at hSw);go_simp;first | done | with_reducible rfl)
   (try simp only [Act.put,List.setIfInBounds_toArray,List.set_cons_zero,List.set_cons_succ])
   (refine takeL (i:=6) (v:=?_) rfl (by kernel_rfl) (by kernel_rfl) (by kernel_rfl) (fun _ _ _ h=>h) (Or.inl ⟨by rfl,?_⟩) (by assumption) ?_)
   rotate_left
   ·(intro w hSw;(try dsimp only at hSw);go_simp;first | done | with_reducible rfl)
   (try simp only [Act.put,List.setIfInBounds_toArray,List.set_cons_zero,List.set_cons_succ])
   (refine takeL (i:=7) (v:=?_) rfl (by kernel_rfl) (by kernel_rfl) (by kernel_rfl) (fun _ _ _ h=>h) (Or.inl ⟨by rfl,?_⟩) (by assumption) ?_)
   rotate_left
   ·(intro w hSw;(try dsimp only at hSw);go_simp;first | done | with_reducible rfl)
   (try simp only [Act.put,List.setIfInBounds_toArray,List.set_cons_zero,List.set_cons_succ])
   (refine takeL (i:=8) (v:=?_) rfl (by kernel_rfl) (by kernel_rfl) (by kernel_rfl) (fun _ _ _ h=>h) (Or.inl ⟨by rfl,?_⟩) (by assumption) ?_)
   rotate_left
   ·(intro w hSw;(try dsimp only at hSw);go_simp;first | done | with_reducible rfl)
   (try simp only [Act.put,List.setIfInBounds_toArray,List.set_cons_zero,List.set_cons_succ])
   (refine wpAnyH_done (by kernel_rfl) ?_ _)
   clear hHeld
   go_wp2_with fail
   go_roundw
   case rel=>exact ⟨k+1,by omega,by go_num,hd⟩
   case measure=>simp [intOf];omega
  ·obtain rfl:k = l.length:=by omega
   have d0:decide ((l.length:Int) < (l.length:Int)) = false:=decide_eq_false (by omega)
   go_wp2_with fail
   go_ret
   exact ⟨rfl,hI.out⟩
set_option maxRecDepth 100000 in
set_option maxHeartbeats 4000000 in
theorem sameNode_any {kd lt:Int} {w:World} {u u':Value} {l:List Int} (hu:SlI w u l) (hu':SlI w u' l) (hl:l.length≤1048576) :
  Calls Tryz.prog 44 #[.agg #[.int .i64 kd,.int .i64 lt,u],.agg #[.int .i64 kd,.int .i64 lt,u']] w fun e w'=>e = .returned (.bool true)∧Ext w w':=by
 obtain ⟨e0,e1⟩:=alloc2h w (.cells #[.int .i64 kd,.int .i64 lt,u] 40) (.cells #[.int .i64 kd,.int .i64 lt,u'] 40)
 have hx1:Ext w ((w.alloc (.cells #[.int .i64 kd,.int .i64 lt,u] 40)).alloc (.cells #[.int .i64 kd,.int .i64 lt,u'] 40)):=((Ext.refl w).alloc _).alloc _
 have q:=same4_any (hu.ext hx1.below) (hu'.ext hx1.below) hl
 obtain ⟨w1,hw1⟩:∃ w1,w1 = (w.alloc (.cells #[.int .i64 kd,.int .i64 lt,u] 40)).alloc (.cells #[.int .i64 kd,.int .i64 lt,u'] 40):=⟨_,rfl⟩
 rw [←hw1] at e0 e1 hx1 q
 obtain ⟨ba,cp,rfl,-⟩:=hu
 obtain ⟨ba',cp',rfl,-⟩:=hu'
 have y0:w1.cell? ⟨w.heap.size,0,none⟩ = some (.int .i64 kd):=by rw [World.cell?,e0];rfl
 have y1:w1.cell? ⟨w.heap.size,1,none⟩ = some (.int .i64 lt):=by rw [World.cell?,e0];rfl
 have y2:w1.cell? ⟨w.heap.size,2,none⟩ = some (.slice ba l.length cp):=by rw [World.cell?,e0];rfl
 have y3:w1.cell? ⟨w.heap.size+1,0,none⟩ = some (.int .i64 kd):=by rw [World.cell?,e1];rfl
 have y4:w1.cell? ⟨w.heap.size+1,1,none⟩ = some (.int .i64 lt):=by rw [World.cell?,e1];rfl
 have y5:w1.cell? ⟨w.heap.size+1,2,none⟩ = some (.slice ba' l.length cp'):=by rw [World.cell?,e1];rfl
 replace e0:=Lib.hid e0
 replace e1:=Lib.hid e1
 replace hx1:=Lib.hid hx1
 generalize l.length = m at *
 rw [hw1] at y0 y1 y2 y3 y4 y5
 go_enter Tryz.func44,Tryz.ntmps44
 go_wp2_with fail
 rw [←hw1]
 refine q.mono ?_
 rintro e w2 ⟨rfl,hx2⟩
 clear q y0 y1 y2 y3 y4 y5
 go_wp2_with fail
 go_ret
 exact ⟨rfl,hx1.out.trans hx2⟩
set_option maxRecDepth 100000 in
set_option maxHeartbeats 4000000 in
theorem same20_any {n:Int} {w:World} {v v':Value} {C:List L.Gt} (hv:SlC w v C) (hv':SlC w v' C) (hl:C.length≤9223372036854775806) (hr:∀ g∈C,g.inp.length≤1048576) :
  Calls Tryz.prog 15 #[.agg #[.int .i64 n,v],.agg #[.int .i64 n,v']] w fun e w'=>e = .returned (.bool true)∧Ext w w':=by
 obtain ⟨e0,e1⟩:=alloc2h w (.cells #[.int .i64 n,v] 24) (.cells #[.int .i64 n,v'] 24)
 have hx1:Ext w ((w.alloc (.cells #[.int .i64 n,v] 24)).alloc (.cells #[.int .i64 n,v'] 24)):=((Ext.refl w).alloc _).alloc _
 obtain ⟨w1,hw1⟩:∃ w1,w1 = (w.alloc (.cells #[.int .i64 n,v] 24)).alloc (.cells #[.int .i64 n,v'] 24):=⟨_,rfl⟩
 rw [←hw1] at e0 e1 hx1
 obtain ⟨ba,cp,rfl,hcs⟩:=(hv.ext hx1.below).shape
 obtain ⟨ba',cp',rfl,hcs'⟩:=(hv'.ext hx1.below).shape
 clear hv hv'
 have dn:((C.length:Int) != (C.length:Int)) = false:=by simp
 have dn2:(n != n) = false:=by simp
 have hF:∀ W,Ext w1 W→(W.cell? ⟨w.heap.size,0,none⟩ = some (.int .i64 n)∧W.cell? ⟨w.heap.size,1,none⟩ = some (.slice ba C.length cp))∧W.cell? ⟨w.heap.size+1,0,none⟩ = some (.int .i64 n)∧W.cell? ⟨w.heap.size+1,1,none⟩ = some (.slice ba' C.length cp'):=fun W h =>
  ⟨⟨h.cell (by rw [World.cell?,e0];rfl),h.cell (by rw [World.cell?,e0];rfl)⟩,h.cell (by rw [World.cell?,e1];rfl),h.cell (by rw [World.cell?,e1];rfl)⟩
 replace e0:=Lib.hid e0
 replace e1:=Lib.hid e1
 replace hcs:=Lib.hid hcs
 replace hcs':=Lib.hid hcs'
 replace hr:=Lib.hid hr
 obtain ⟨⟨y0,y1⟩,y2,y3⟩:=hF w1 (Ext.refl _)
 replace hF:=Lib.hid hF
 rw [hw1] at y0 y1 y2 y3
 go_enter Tryz.func15,Tryz.ntmps15
 go_wp2_with fail
 rw [←hw1]
 replace hw1:=Lib.hid hw1
 clear y0 y1 y2 y3
 go_loopw [5] (fun i wr=>∃ k:Nat,k≤C.length∧i = .int .i64 (k:Int)∧Hid (Ext w1 wr)) (fun i _=>C.length - (intOf i).toNat)
 case atStart=>exact ⟨0,by omega,rfl,Lib.hid (Ext.refl _)⟩
 case round =>
  obtain ⟨k,hk,rfl,hI⟩:=hrel
  obtain ⟨⟨y0,y1⟩,y2,y3⟩:=hF.out wr hI.out
  by_cases hlt:k < C.length
  ·have d0:decide ((k:Int) < (C.length:Int)) = true:=decide_eq_true (by omega)
   have g0':(0:Int)≤(k:Int):=by omega
   have g1:(k:Int) < (C.length:Int):=by omega
   obtain ⟨b,o,ua,uc,rfl,hc0,hc1,hc2,hu⟩:=hcs.out k hlt
   obtain ⟨b',o',ua',uc',rfl,hd0,hd1,hd2,hu'⟩:=hcs'.out k hlt
   have hrk:=hr.out _ (List.getElem_mem hlt)
   have hd:=Lib.hid (hI.out.trans ((Ext.refl wr).drew))
   generalize C[k] = x at *
   obtain ⟨kd,lt,c⟩:=x
   dsimp only at *
   have q:=fun W (h:Ext w1 W)=>sameNode_any (kd:=kd) (lt:=lt) (hu.ext h.below) (hu'.ext h.below) hrk
   have hS:∀ V,Ext w1 V→((V.cell? ⟨w.heap.size,1,none⟩ = some (.slice (some ⟨b,o,none⟩) C.length cp)∧V.cell? ⟨w.heap.size+1,1,none⟩ = some (.slice (some ⟨b',o',none⟩) C.length cp'))∧(V.cell? ⟨b,o+k * 3,none⟩ = some (.int .i64 kd)∧V.cell? ⟨b,o+k * 3+1,none⟩ = some (.int .i64 lt)∧V.cell? ⟨b,o+k * 3+2,none⟩ = some (.slice ua c.length uc))∧(V.cell? ⟨b',o'+k * 3,none⟩ = some (.int .i64 kd)∧V.cell? ⟨b',o'+k * 3+1,none⟩ = some (.int .i64 lt)∧V.cell? ⟨b',o'+k * 3+2,none⟩ = some (.slice ua' c.length uc'))):=fun V hV=>by
    obtain ⟨⟨z0,z1⟩,z2,z3⟩:=hF.out V hV
    exact ⟨⟨z1,z3⟩,⟨hV.cell hc0,hV.cell hc1,hV.cell hc2⟩,hV.cell hd0,hV.cell hd1,hV.cell hd2⟩
   replace hS:=Lib.hid hS
   replace q:=Lib.hid q
   replace hrk:=Lib.hid hrk
   clear hu hu' hc0 hc1 hc2 hd0 hd1 hd2
   go_wp2_with fail
   clear y0 y1 y2 y3
   (refine wp_region_held_drew (S:=(fun V=>(V.cell? ⟨w.heap.size,1,none⟩ = some (.slice (some ⟨b,o,none⟩) C.length cp)∧V.cell? ⟨w.heap.size+1,1,none⟩ = some (.slice (some ⟨b',o',none⟩) C.length cp'))∧(V.cell? ⟨b,o+k * 3,none⟩ = some (.int .i64 kd)∧V.cell? ⟨b,o+k * 3+1,none⟩ = some (.int .i64 lt)∧V.cell? ⟨b,o+k * 3+2,none⟩ = some (.slice ua c.length uc))∧(V.cell? ⟨b',o'+k * 3,none⟩ = some (.int .i64 kd)∧V.cell? ⟨b',o'+k * 3+1,none⟩ = some (.int .i64 lt)∧V.cell? ⟨b',o'+k * 3+2,none⟩ = some (.slice ua' c.length uc')))) (by kernel_rfl) ?_ (fun hHeld=>?_))
   ·exact hS.out _ hd.out
   (refine takeL (i:=0) (v:=?_) rfl (by kernel_rfl) (by kernel_rfl) (by kernel_rfl) (fun _ _ _ h=>h) (Or.inl ⟨by rfl,?_⟩) (by assumption) ?_)
   rotate_left
   ·(intro w hSw;(try dsimp only at hSw);go_simp;first | done | with_reducible rfl)
   (try simp only [Act.put,List.setIfInBounds_toArray,List.set_cons_zero,List.set_cons_succ])
   (refine takeL (i:=1) (v:=?_) rfl (by kernel_rfl) (by kernel_rfl) (by kernel_rfl) (fun _ _ _ h=>h) (Or.inl ⟨by rfl,?_⟩) (by assumption) ?_)
   rotate_left
   ·(intro w hSw;(try dsimp only at hSw);go_simp;first | done | with_reducible rfl)
   (try simp only [Act.put,List.setIfInBounds_toArray,List.set_cons_zero,List.set_cons_succ])
   (refine takeL (i:=2) (v:=?_) rfl (by kernel_rfl) (by kernel_rfl) (by kernel_rfl) (fun _ _ _ h=>h) (Or.inl ⟨by rfl,?_⟩) (by assumption) ?_)
   rotate_left
   ·(intro w hSw;(try dsimp only at hSw);go_simp;first | done | with_reducible rfl)
   (try simp only [Act.put,List.setIfInBounds_toArray,List.set_cons_zero,List.set_cons_succ])
   (refine takeL (i:=3) (v:=?_) rfl (by kernel_rfl) (by kernel_rfl) (by kernel_rfl) (fun _ _ _ h=>h) (Or.inl ⟨by rfl,?_⟩) (by assumption) ?_)
   rotate_left
   ·(intro w hSw;(try dsimp only at hSw);go_simp;first | done | with_reducible rfl)
   (try simp only [Act.put,List.setIfInBounds_toArray,List.set_cons_zero,List.set_cons_succ])
   (refine takeL (i:=4) (v:=?_) rfl (by kernel_rfl) (by kernel_rfl) (by kernel_rfl) (fun _ _ _ h=>h) (Or.inl ⟨by rfl,?_⟩) (by assumption) ?_)
   rotate_left
   ·(intro w hSw;(try dsimp only at hSw);go_simp;first | done | with_reducible rfl)
   (try simp only [Act.put,List.setIfInBounds_toArray,List.set_cons_zero,List.set_cons_succ])
   (refine takeL (i:=5) (v:=?_) rfl (by kernel_rfl) (by kernel_rfl) (by kernel_rfl) (fun _ _ _ h=>h) (Or.inl ⟨by rfl,?_⟩) (by assumption) ?_)
   rotate_left
   ·(intro w hSw;(try dsimp only at hSw);go_simp;first | done | with_reducible rfl)
   (try simp only [Act.put,List.setIfInBounds_toArray,List.set_cons_zero,List.set_cons_succ])
   (refine takeL (i:=6) (v:=?_) rfl (by kernel_rfl) (by kernel_rfl) (by kernel_rfl) (fun _ _ _ h=>h) (Or.inl ⟨by rfl,?_⟩) (by assumption) ?_)
   rotate_left
   ·(intro w hSw;(try dsimp only at hSw);go_simp;first | done | with_reducible rfl)
   (try simp only [Act.put,List.setIfInBounds_toArray,List.set_cons_zero,List.set_cons_succ])
   (refine takeL (i:=7) (v:=?_) rfl (by kernel_rfl) (by kernel_rfl) (by kernel_rfl) (fun _ _ _ h=>h) (Or.inl ⟨by rfl,?_⟩) (by assumption) ?_)
   rotate_left
   ·(intro w hSw;(try dsimp only at hSw);go_simp;first | done | with_reducible rfl)
   (try simp only [Act.put,List.setIfInBounds_toArray,List.set_cons_zero,List.set_cons_succ])
   (refine takeL (i:=8) (v:=?_) rfl (by kernel_rfl) (by kernel_rfl) (by kernel_rfl) (fun _ _ _ h=>h) (Or.inl ⟨by rfl,?_⟩) (by assumption) ?_)
   rotate_left
   ·(intro w hSw;(try dsimp only at hSw);go_simp;first | done | with_reducible rfl)
   (try simp only [Act.put,List.setIfInBounds_toArray,List.set_cons_zero,List.set_cons_succ])
   (refine takeL (i:=9) (v:=?_) rfl (by kernel_rfl) (by kernel_rfl) (by kernel_rfl) (fun _ _ _ h=>h) (Or.inl ⟨by rfl,?_⟩) (by assumption) ?_)
   rotate_left
   ·(intro w hSw;(try dsimp only at hSw);go_simp;first | done | with_reducible rfl)
   (try simp only [Act.put,List.setIfInBounds_toArray,List.set_cons_zero,List.set_cons_succ])
   (refine wpAnyH_ready (rs:=[10]) (by kernel_rfl) (by simp) ?_)
   (refine consL rfl (fun K hK=>?_))
   ((rw [if_pos (by rfl)]);go_simp;refine (q.out _ hd.out).mono ?_;rintro e w3 ⟨rfl,hb3⟩;have hd3:=Lib.hid (hd.out.trans hb3);refine hK.out _ _ (hS.out _ hd3.out) (fun hHeld=>?_);clear hb3)
   (clear hK K)
   (try simp only [Act.put,List.setIfInBounds_toArray,List.set_cons_zero,List.set_cons_succ])
   (refine takeL (i:=11) (v:=?_) rfl (by kernel_rfl) (by kernel_rfl) (by kernel_rfl) (fun _ _ _ h=>h) (Or.inl ⟨by rfl,?_⟩) (by assumption) ?_)
   rotate_left
   ·(intro w hSw;(try dsimp only at hSw);go_simp;first | done | with_reducible rfl)
   (try simp only [Act.put,List.setIfInBounds_toArray,List.set_cons_zero,List.set_cons_succ])
   (refine wpAnyH_done (by kernel_rfl) ?_ _)
   clear hHeld
   go_wp2_with fail
   go_roundw
   case rel=>exact ⟨k+1,by omega,by go_num,hd3⟩
   case measure=>simp [intOf];omega
  ·obtain rfl:k = C.length:=by omega
   have d0:decide ((C.length:Int) < (C.length:Int)) = false:=decide_eq_false (by omega)
   go_wp2_with fail
   go_ret
   exact ⟨rfl,hx1.trans hI.out⟩
end Go.Proofs.YtckhohpbokojdaaGreatDoor
