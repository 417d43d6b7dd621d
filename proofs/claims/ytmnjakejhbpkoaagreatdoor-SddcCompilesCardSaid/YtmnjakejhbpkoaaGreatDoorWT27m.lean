import Derived.Test.YtmnjakejhbpkoaaGreatDoorWT27l
set_option linter.unusedSimpArgs false
set_option linter.unusedVariables false
namespace Go.Proofs.YtmnjakejhbpkoaaGreatDoor
open Go Go.RowKit Go.Shelf
theorem SlI.shape {w:World} {v:Value} {l:List Int} (h:SlI w v l):∃ ba cp,v = .slice ba l.length cp∧∀ j (hj:j < l.length),∃ b o,ba = some ⟨b,o,none⟩∧w.cell? ⟨b,o+j,none⟩ = some (.int .i64 l[j]):=by
 obtain ⟨ba,cp,rfl,hv0⟩:=h
 refine ⟨ba,cp,rfl,fun j hj=>?_⟩
 rcases hv0 with ⟨_,h2,_⟩ | ⟨b,o,rfl,h2⟩
 ·rw [h2] at hj;simp at hj
 ·exact ⟨b,o,rfl,h2 j hj⟩
set_option maxRecDepth 100000 in
set_option maxHeartbeats 4000000 in
theorem refSameInts_any {w:World} {v v':Value} {l:List Int} (hv:SlI w v l) (hv':SlI w v' l) (hl:l.length≤1048576) :
  Calls Tryz.prog 88 #[v,v'] w fun e w'=>e = .returned (.bool true)∧Ext w w':=by
 obtain ⟨ba,cp,rfl,hcs⟩:=hv.shape
 obtain ⟨ba',cp',rfl,hcs'⟩:=hv'.shape
 clear hv hv'
 have dn:((l.length:Int) != (l.length:Int)) = false:=by simp
 replace hcs:=Lib.hid hcs
 replace hcs':=Lib.hid hcs'
 go_enter Tryz.func88,Tryz.ntmps88
 go_wp2_with fail
 go_loopw [5] (fun i wr=>∃ k:Nat,k≤l.length∧i = .int .i64 (k:Int)∧Hid (Ext w wr)) (fun i _=>l.length - (intOf i).toNat)
 case atStart=>exact ⟨0,by omega,rfl,Lib.hid (Ext.refl _)⟩
 case round =>
  obtain ⟨k,hk,rfl,hI⟩:=hrel
  by_cases hlt:k < l.length
  ·have d0:decide ((k:Int) < (l.length:Int)) = true:=decide_eq_true (by omega)
   have g0':(0:Int)≤(k:Int):=by omega
   have g1:(k:Int) < (l.length:Int):=by omega
   obtain ⟨b,o,rfl,hc⟩:=hcs.out k hlt
   obtain ⟨b',o',rfl,hc'⟩:=hcs'.out k hlt
   have hd:=Lib.hid (hI.out.trans ((Ext.refl wr).drew))
   have m0:=hd.out.cell hc
   have m1:=hd.out.cell hc'
   generalize l[k] = u at *
   replace hc:=Lib.hid hc
   replace hc':=Lib.hid hc'
   go_wp2_with fail
   (refine wp_region_held_drew (S:=(fun V=>V.cell? ⟨b,o+k,none⟩ = some (.int .i64 u)∧V.cell? ⟨b',o'+k,none⟩ = some (.int .i64 u))) (by kernel_rfl) ?_ (fun hHeld=>?_))
   ·exact ⟨m0,m1⟩
   (refine takeL (i:=0) (v:=?_) rfl (by kernel_rfl) (by kernel_rfl) (by kernel_rfl) (fun _ _ _ h=>h) (Or.inl ⟨by rfl,?_⟩) (by assumption) ?_)
   rotate_left
   ·(intro w hSw;(try dsimp only at hSw);go_simp;first | done | with_reducible rfl)
   (try simp only [Act.put,List.setIfInBounds_toArray,List.set_cons_zero,List.set_cons_succ])
   (refine takeL (i:=1) (v:=?_) rfl (by kernel_rfl) (by kernel_rfl) (by kernel_rfl) (fun _ _ _ h=>h) (Or.inl ⟨by rfl,?_⟩) (by assumption) ?_)
   rotate_left
   ·(intro w hSw;(try dsimp only at hSw);go_simp;first | done | with_reducible rfl)
   (try simp only [Act.put,List.setIfInBounds_toArray,List.set_cons_zero,List.set_cons_succ])
   (refine takeL (i:=2) (v:=?_) rfl (by kernel_rfl) (by kernel_rfl) (by kernel_rfl) (fun _ _ _ h=>h) (Or.inl ⟨by rfl,?_⟩) (by assumption) ?_)
   rotate_left
   ·(intro w hSw;(try dsimp only at hSw);go_simp;first | done | with_reducible rfl)
   (try simp only [Act.put,List.setIfInBounds_toArray,List.set_cons_zero,List.set_cons_succ])
   (refine takeL (i:=3) (v:=?_) rfl (by kernel_rfl) (by kernel_rfl) (by kernel_rfl) (fun _ _ _ h=>h) (Or.inl ⟨by rfl,?_⟩) (by assumption) ?_)
   rotate_left
   ·(intro w hSw;(try dsimp only at hSw);go_simp;first | done | with_reducible rfl)
   (try simp only [Act.put,List.setIfInBounds_toArray,List.set_cons_zero,List.set_cons_succ])
   (refine takeL (i:=4) (v:=?_) rfl (by kernel_rfl) (by kernel_rfl) (by kernel_rfl) (fun _ _ _ h=>h) (Or.inl ⟨by rfl,?_⟩) (by assumption) ?_)
   rotate_left
   ·(intro w hSw;(try dsimp only at hSw);go_simp;first | done | with_reducible rfl)
   (try simp only [Act.put,List.setIfInBounds_toArray,List.set_cons_zero,List.set_cons_succ])
   (refine takeL (i:=5) (v:=?_) rfl (by kernel_rfl) (by kernel_rfl) (by kernel_rfl) (fun _ _ _ h=>h) (Or.inl ⟨by rfl,?_⟩) (by assumption) ?_)
   rotate_left
   ·(intro w hSw;(try dsimp only at hSw);go_simp;first | done | with_reducible rfl)
   (try simp only [Act.put,List.setIfInBounds_toArray,List.set_cons_zero,List.set_cons_succ])
   (refine takeL (i:=6) (v:=?_) rfl (by kernel_rfl) (by kernel_rfl) (by kernel_rfl) (fun _ _ _ h=>h) (Or.inl ⟨by rfl,?_⟩) (by assumption) ?_)
   rotate_left
   ·(intro w hSw;(try dsimp only at hSw);go_simp;first | done | with_reducible rfl)
   (try simp only [Act.put,List.setIfInBounds_toArray,List.set_cons_zero,List.set_cons_succ])
   (refine takeL (i:=7) (v:=?_) rfl (by kernel_rfl) (by kernel_rfl) (by kernel_rfl) (fun _ _ _ h=>h) (Or.inl ⟨by rfl,?_⟩) (by assumption) ?_)
   rotate_left
   ·(intro w hSw;(try dsimp only at hSw);go_simp;first | done | with_reducible rfl)
   (try simp only [Act.put,List.setIfInBounds_toArray,List.set_cons_zero,List.set_cons_succ])
   (refine takeL (i:=8) (v:=?_) rfl (by kernel_rfl) (by kernel_rfl) (by kernel_rfl) (fun _ _ _ h=>h) (Or.inl ⟨by rfl,?_⟩) (by assumption) ?_)
   rotate_left
   ·(intro w hSw;(try dsimp only at hSw);go_simp;first | done | with_reducible rfl)
   (try simp only [Act.put,List.setIfInBounds_toArray,List.set_cons_zero,List.set_cons_succ])
   (refine wpAnyH_done (by kernel_rfl) ?_ _)
   clear hHeld
   go_wp2_with fail
   go_roundw
   case rel=>exact ⟨k+1,by omega,by go_num,hd⟩
   case measure=>simp [intOf];omega
  ·obtain rfl:k = l.length:=by omega
   have d0:decide ((l.length:Int) < (l.length:Int)) = false:=decide_eq_false (by omega)
   go_wp2_with fail
   go_ret
   exact ⟨rfl,hI.out⟩
theorem SlT.shape {w:World} {v:Value} {T:List (List Int)} (h:SlT w v T):∃ ba cp,v = .slice ba T.length cp∧∀ j (hj:j < T.length),∃ b o u,ba = some ⟨b,o,none⟩∧w.cell? ⟨b,o+j,none⟩ = some u∧SlI w u T[j]:=by
 obtain ⟨ba,cp,rfl,hv0⟩:=h
 refine ⟨ba,cp,rfl,fun j hj=>?_⟩
 rcases hv0 with ⟨_,h2,_⟩ | ⟨b,o,rfl,h2⟩
 ·rw [h2] at hj;simp at hj
 ·obtain ⟨u,h3,h4⟩:=h2 j hj
  exact ⟨b,o,u,rfl,h3,h4⟩
set_option maxRecDepth 100000 in
set_option maxHeartbeats 4000000 in
theorem refSame5_any {n:Int} {w:World} {v v':Value} {T:List (List Int)} (hv:SlT w v T) (hv':SlT w v' T) (hl:T.length≤9223372036854775806) (hr:∀ c∈T,c.length≤1048576) :
  Calls Tryz.prog 24 #[.agg #[.int .i64 n,v],.agg #[.int .i64 n,v']] w fun e w'=>e = .returned (.bool true)∧Ext w w':=by
 obtain ⟨e0,e1⟩:=alloc2h w (.cells #[.int .i64 n,v] 24) (.cells #[.int .i64 n,v'] 24)
 have hx1:Ext w ((w.alloc (.cells #[.int .i64 n,v] 24)).alloc (.cells #[.int .i64 n,v'] 24)):=((Ext.refl w).alloc _).alloc _
 obtain ⟨w1,hw1⟩:∃ w1,w1 = (w.alloc (.cells #[.int .i64 n,v] 24)).alloc (.cells #[.int .i64 n,v'] 24):=⟨_,rfl⟩
 rw [←hw1] at e0 e1 hx1
 obtain ⟨ba,cp,rfl,hcs⟩:=(hv.ext hx1.below).shape
 obtain ⟨ba',cp',rfl,hcs'⟩:=(hv'.ext hx1.below).shape
 clear hv hv'
 have dn:((T.length:Int) != (T.length:Int)) = false:=by simp
 have dn2:(n != n) = false:=by simp
 have hF:∀ W,Ext w1 W→(W.cell? ⟨w.heap.size,0,none⟩ = some (.int .i64 n)∧W.cell? ⟨w.heap.size,1,none⟩ = some (.slice ba T.length cp))∧W.cell? ⟨w.heap.size+1,0,none⟩ = some (.int .i64 n)∧W.cell? ⟨w.heap.size+1,1,none⟩ = some (.slice ba' T.length cp'):=fun W h =>
  ⟨⟨h.cell (by rw [World.cell?,e0];rfl),h.cell (by rw [World.cell?,e0];rfl)⟩,h.cell (by rw [World.cell?,e1];rfl),h.cell (by rw [World.cell?,e1];rfl)⟩
 replace e0:=Lib.hid e0
 replace e1:=Lib.hid e1
 replace hcs:=Lib.hid hcs
 replace hcs':=Lib.hid hcs'
 replace hr:=Lib.hid hr
 obtain ⟨⟨y0,y1⟩,y2,y3⟩:=hF w1 (Ext.refl _)
 replace hF:=Lib.hid hF
 go_enter Tryz.func24,Tryz.ntmps24
 go_wp2_with fail
 rw [←hw1]
 replace hw1:=Lib.hid hw1
 go_wp2_with fail
 clear y0 y1 y2 y3
 go_loopw [5] (fun i wr=>∃ k:Nat,k≤T.length∧i = .int .i64 (k:Int)∧Hid (Ext w1 wr)) (fun i _=>T.length - (intOf i).toNat)
 case atStart=>exact ⟨0,by omega,rfl,Lib.hid (Ext.refl _)⟩
 case round =>
  obtain ⟨k,hk,rfl,hI⟩:=hrel
  obtain ⟨⟨y0,y1⟩,y2,y3⟩:=hF.out wr hI.out
  by_cases hlt:k < T.length
  ·have d0:decide ((k:Int) < (T.length:Int)) = true:=decide_eq_true (by omega)
   have g0':(0:Int)≤(k:Int):=by omega
   have g1:(k:Int) < (T.length:Int):=by omega
   obtain ⟨b,o,u,rfl,hc,hu⟩:=hcs.out k hlt
   obtain ⟨b',o',u',rfl,hc',hu'⟩:=hcs'.out k hlt
   have hrk:=hr.out _ (List.getElem_mem hlt)
   have hd:=Lib.hid (hI.out.trans ((Ext.refl wr).drew))
   have m0:=hd.out.cell hc
   have m1:=hd.out.cell hc'
   have q:=fun W (h:Ext w1 W)=>refSameInts_any (hu.ext h.below) (hu'.ext h.below) hrk
   generalize T[k] = c at *
   have hsu:∃ ba cp,u = .slice ba c.length cp:=by obtain ⟨ba,cp,h,_⟩:=hu;exact ⟨ba,cp,h⟩
   have hsu':∃ ba cp,u' = .slice ba c.length cp:=by obtain ⟨ba,cp,h,_⟩:=hu';exact ⟨ba,cp,h⟩
   obtain ⟨ua,uc,rfl⟩:=hsu
   obtain ⟨ua',uc',rfl⟩:=hsu'
   replace hc:=Lib.hid hc
   replace hc':=Lib.hid hc'
   replace q:=Lib.hid q
   replace hrk:=Lib.hid hrk
   clear hu hu'
   have hS:∀ V,Ext w1 V→(V.cell? ⟨w.heap.size,1,none⟩ = some (.slice (some ⟨b,o,none⟩) T.length cp)∧V.cell? ⟨w.heap.size+1,1,none⟩ = some (.slice (some ⟨b',o',none⟩) T.length cp'))∧V.cell? ⟨b,o+k,none⟩ = some (.slice ua c.length uc)∧V.cell? ⟨b',o'+k,none⟩ = some (.slice ua' c.length uc'):=fun V h=>⟨⟨(hF.out V h).1.2,(hF.out V h).2.2⟩,h.cell hc.out,h.cell hc'.out⟩
   replace hS:=Lib.hid hS
   go_wp2_with fail
   (refine wp_region_held_drew (S:=(fun V=>(V.cell? ⟨w.heap.size,1,none⟩ = some (.slice (some ⟨b,o,none⟩) T.length cp)∧V.cell? ⟨w.heap.size+1,1,none⟩ = some (.slice (some ⟨b',o',none⟩) T.length cp'))∧V.cell? ⟨b,o+k,none⟩ = some (.slice ua c.length uc)∧V.cell? ⟨b',o'+k,none⟩ = some (.slice ua' c.length uc'))) (by kernel_rfl) ?_ (fun hHeld=>?_))
   ·exact hS.out _ hd.out
   (refine takeL (i:=0) (v:=?_) rfl (by kernel_rfl) (by kernel_rfl) (by kernel_rfl) (fun _ _ _ h=>h) (Or.inl ⟨by rfl,?_⟩) (by assumption) ?_)
   rotate_left
   ·(intro w hSw;(try dsimp only at hSw);go_simp;first | done | with_reducible rfl)
   (try simp only [Act.put,List.setIfInBounds_toArray,List.set_cons_zero,List.set_cons_succ])
   (refine takeL (i:=1) (v:=?_) rfl (by kernel_rfl) (by kernel_rfl) (by kernel_rfl) (fun _ _ _ h=>h) (Or.inl ⟨by rfl,?_⟩) (by assumption) ?_)
   rotate_left
   ·(intro w hSw;(try dsimp only at hSw);go_simp;first | done | with_reducible rfl)
   (try simp only [Act.put,List.setIfInBounds_toArray,List.set_cons_zero,List.set_cons_succ])
   (refine takeL (i:=2) (v:=?_) rfl (by kernel_rfl) (by kernel_rfl) (by kernel_rfl) (fun _ _ _ h=>h) (Or.inl ⟨by rfl,?_⟩) (by assumption) ?_)
   rotate_left
   ·(intro w hSw;(try dsimp only at hSw);go_simp;first | done | with_reducible rfl)
   (try simp only [Act.put,List.setIfInBounds_toArray,List.set_cons_zero,List.set_cons_succ])
   (refine takeL (i:=3) (v:=?_) rfl (by kernel_rfl) (by kernel_rfl) (by kernel_rfl) (fun _ _ _ h=>h) (Or.inl ⟨by rfl,?_⟩) (by assumption) ?_)
   rotate_left
   ·(intro w hSw;(try dsimp only at hSw);go_simp;first | done | with_reducible rfl)
   (try simp only [Act.put,List.setIfInBounds_toArray,List.set_cons_zero,List.set_cons_succ])
   (refine takeL (i:=4) (v:=?_) rfl (by kernel_rfl) (by kernel_rfl) (by kernel_rfl) (fun _ _ _ h=>h) (Or.inl ⟨by rfl,?_⟩) (by assumption) ?_)
   rotate_left
   ·(intro w hSw;(try dsimp only at hSw);go_simp;first | done | with_reducible rfl)
   (try simp only [Act.put,List.setIfInBounds_toArray,List.set_cons_zero,List.set_cons_succ])
   (refine takeL (i:=5) (v:=?_) rfl (by kernel_rfl) (by kernel_rfl) (by kernel_rfl) (fun _ _ _ h=>h) (Or.inl ⟨by rfl,?_⟩) (by assumption) ?_)
   rotate_left
   ·(intro w hSw;(try dsimp only at hSw);go_simp;first | done | with_reducible rfl)
   (try simp only [Act.put,List.setIfInBounds_toArray,List.set_cons_zero,List.set_cons_succ])
   (refine takeL (i:=6) (v:=?_) rfl (by kernel_rfl) (by kernel_rfl) (by kernel_rfl) (fun _ _ _ h=>h) (Or.inl ⟨by rfl,?_⟩) (by assumption) ?_)
   rotate_left
   ·(intro w hSw;(try dsimp only at hSw);go_simp;first | done | with_reducible rfl)
   (try simp only [Act.put,List.setIfInBounds_toArray,List.set_cons_zero,List.set_cons_succ])
   (refine takeL (i:=7) (v:=?_) rfl (by kernel_rfl) (by kernel_rfl) (by kernel_rfl) (fun _ _ _ h=>h) (Or.inl ⟨by rfl,?_⟩) (by assumption) ?_)
   rotate_left
   ·(intro w hSw;(try dsimp only at hSw);go_simp;first | done | with_reducible rfl)
   (try simp only [Act.put,List.setIfInBounds_toArray,List.set_cons_zero,List.set_cons_succ])
   (refine takeL (i:=8) (v:=?_) rfl (by kernel_rfl) (by kernel_rfl) (by kernel_rfl) (fun _ _ _ h=>h) (Or.inl ⟨by rfl,?_⟩) (by assumption) ?_)
   rotate_left
   ·(intro w hSw;(try dsimp only at hSw);go_simp;first | done | with_reducible rfl)
   (try simp only [Act.put,List.setIfInBounds_toArray,List.set_cons_zero,List.set_cons_succ])
   (refine takeL (i:=9) (v:=?_) rfl (by kernel_rfl) (by kernel_rfl) (by kernel_rfl) (fun _ _ _ h=>h) (Or.inl ⟨by rfl,?_⟩) (by assumption) ?_)
   rotate_left
   ·(intro w hSw;(try dsimp only at hSw);go_simp;first | done | with_reducible rfl)
   (try simp only [Act.put,List.setIfInBounds_toArray,List.set_cons_zero,List.set_cons_succ])
   (refine wpAnyH_ready (rs:=[10]) (by kernel_rfl) (by simp) ?_)
   (refine consL rfl (fun K hK=>?_))
   ((rw [if_pos (by rfl)]);go_simp;refine (q.out _ hd.out).mono ?_;rintro e w3 ⟨rfl,hb3⟩;have hd3:=Lib.hid (hd.out.trans hb3);refine hK.out _ _ (hS.out _ hd3.out) (fun hHeld=>?_);clear hb3)
   (clear hK K)
   (try simp only [Act.put,List.setIfInBounds_toArray,List.set_cons_zero,List.set_cons_succ])
   (refine takeL (i:=11) (v:=?_) rfl (by kernel_rfl) (by kernel_rfl) (by kernel_rfl) (fun _ _ _ h=>h) (Or.inl ⟨by rfl,?_⟩) (by assumption) ?_)
   rotate_left
   ·(intro w hSw;(try dsimp only at hSw);go_simp;first | done | with_reducible rfl)
   (try simp only [Act.put,List.setIfInBounds_toArray,List.set_cons_zero,List.set_cons_succ])
   (refine wpAnyH_done (by kernel_rfl) ?_ _)
   clear hHeld
   go_wp2_with fail
   go_roundw
   case rel=>exact ⟨k+1,by omega,by go_num,hd3⟩
   case measure=>simp [intOf];omega
  ·obtain rfl:k = T.length:=by omega
   have d0:decide ((T.length:Int) < (T.length:Int)) = false:=decide_eq_false (by omega)
   go_wp2_with fail
   go_ret
   exact ⟨rfl,hx1.trans hI.out⟩
end Go.Proofs.YtmnjakejhbpkoaaGreatDoor
