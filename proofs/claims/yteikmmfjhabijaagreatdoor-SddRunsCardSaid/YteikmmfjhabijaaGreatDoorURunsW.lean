import Derived.Test.YteikmmfjhabijaaGreatDoorURun
import Derived.Test.YteikmmfjhabijaaGreatDoorUBegin
import Derived.Test.YteikmmfjhabijaaGreatDoorUShows
set_option linter.unusedSimpArgs false
set_option linter.unusedVariables false
namespace Go.Proofs.YteikmmfjhabijaaGreatDoor
open Go Go.RowKit Go.Shelf
theorem RunAt.below {wa w w':World} {bx:List (Nat × Array Value)} {t:List VN} {l:List Int} {sb k:Nat} {s:St} {va vf:Value} {rs:List Res} (h:RunAt wa bx t l sb k s va vf rs w) (hb:Below w.heap.size w w'):RunAt wa bx t l sb k s va vf rs w' :=
 ⟨h.g.below hb,h.bel.trans (hb.mono h.g.sz),h.ok,h.two⟩
theorem RunAt.hold {wa w:World} {bx:List (Nat × Array Value)} {t:List VN} {l:List Int} {sb k y:Nat} {s:St} {va vf:Value} {rs:List Res} {c:Array Value} (h:RunAt wa bx t l sb k s va vf rs w) (hz:w.heap[y]? = some (.cells c 35 (0,0))):RunAt wa [(y,c)] t l sb k s va vf rs w :=
 ⟨h.g.setb (fun p hp=>by obtain rfl:=List.mem_singleton.1 hp;exact hz),h.bel,h.ok,h.two⟩
theorem RunAt.store {wa w:World} {bx:List (Nat × Array Value)} {t:List VN} {l:List Int} {sb k y:Nat} {s:St} {va vf:Value} {rs:List Res} {a0 a1 a2 a3:Value} (h:RunAt wa bx t l sb k s va vf rs w)
  (hz:w.heap[y]? = some (.cells #[a0,a1,a2,a3] 35 (0,0))) (hy:wa.heap.size≤y) {W:World}
  (hW:W = (((w.setCell ⟨y,0,none⟩ (.pointer (some ⟨sb,0,none⟩))).setCell ⟨y,1,none⟩ va).setCell ⟨y,2,none⟩ vf).setCell ⟨y,3,none⟩ (.bool false)) :
  RunAt wa [(y,#[.pointer (some ⟨sb,0,none⟩),va,vf,.bool false])] t l sb k s va vf rs W:=by
 obtain ⟨g1,g2,g3⟩:=run_set4 (h.g.setb (bx':=[]) (fun p hp=>by cases hp)) hz hy (fun p hp=>by cases hp) _ _ _ _ hW
 exact ⟨g1.setb (fun p hp=>by obtain rfl:=List.mem_singleton.1 hp;exact g3),g2 _ h.bel,h.ok,h.two⟩
set_option maxRecDepth 100000 in
set_option maxHeartbeats 2000000 in
theorem runs_works {t:List VN} {n:Nat} (w:World) (ba bo:Option Addr) (cap co:Nat) (hT:TzTab w) (hP:PowTab w) (h:t = []∨∃ b o,ba = some ⟨b,o,none⟩∧TreeAt w b o t) (hn:lightB t n = false) :
  Calls Tryz.prog 5 #[.agg #[.slice ba t.length cap,.slice bo n co]] w fun e w'=>e = .returned (.bool true)∧Below w.heap.size w w':=by
 have hxb:=((Ext.refl w).alloc (.cells #[.slice ba t.length cap,.slice bo n co] 26))
 have hw:∀ w',Ext w w'→Calls Tryz.prog 16 #[] w' fun e w''=>e = .returned (.bool true)∧Below w'.heap.size w' w'':=fun w' hx=>works_any w' (hT.same (hx.below.block _ hT.lt')) (hP.same (hx.below.block _ hP.lt))
 have hq:=light_any (n:=n) (w.alloc (.cells #[.slice ba t.length cap,.slice bo n co] 26)) ba bo cap co (h.imp id (fun ⟨b,o,e,ht⟩=>⟨b,o,e,ht.ext hxb⟩))
 rw [hn] at hq
 go_enter Tryz.func5,Tryz.ntmps5
 go_wp2_with fail
 refine hq.mono ?_
 rintro e w1 ⟨rfl,hx1⟩
 go_wp2_with fail
 refine (hw w1 (hxb.trans hx1)).mono ?_
 rintro e w2 ⟨rfl,hb2⟩
 go_wp2_with fail
 go_ret
 exact ⟨rfl,(hxb.trans hx1).below.trans (hb2.mono (hxb.trans hx1).size)⟩
set_option maxRecDepth 100000 in
set_option maxHeartbeats 8000000 in
theorem runs_ok {t:List VN} {os:List OpD} (w:World) (b o cap:Nat) (bo:Option Addr) (co:Nat) (hT:TzTab w) (hP:PowTab w) (h:TreeAt w b o t) (ho:OpsIn w bo os) (hn:lightB t os.length = true) :
  Calls Tryz.prog 5 #[.agg #[.slice (some ⟨b,o,none⟩) t.length cap,.slice bo os.length co]] w fun e w'=>e = .returned (.bool true)∧Below w.heap.size w w':=by
 have hn':=hn
 unfold lightB at hn'
 simp only [Bool.and_eq_true,decide_eq_true_eq] at hn'
 obtain ⟨t0,t9,hn25,hc⟩:=hn'
 obtain ⟨l,hl,hl6,hsb,hvo⟩:=vars_few hc (by omega)
 have hl0:0 < l.length:=by rw [hsb.len hc (by omega)];exact L.nv_pos hc _ (by omega)
 generalize hx:w.heap.size = x at *
 have hgP:=hP.lt
 have hgT:=hT.lt'
 obtain ⟨w1,hw1⟩:∃ w1,w1 = w.alloc (.cells #[.slice (some ⟨b,o,none⟩) t.length cap,.slice bo os.length co] 26):=⟨_,rfl⟩
 have hb1:Below w.heap.size w w1:=by rw [hw1];exact (Below.refl _ _).alloc (Nat.le_refl _) _
 have hbx:w1.heap[x]? = some (.cells #[.slice (some ⟨b,o,none⟩) t.length cap,.slice bo os.length co] 26 (0,0)):=by rw [hw1,←hx];exact heap_alloc_new _ _
 have hx1:w1.heap.size = x+1:=by rw [hw1,←hx];simp
 have hlight:=light_any (n:=os.length) w1 (some ⟨b,o,none⟩) bo cap co (.inr ⟨b,o,rfl,h.below hb1⟩)
 rw [hn] at hlight
 have hT1:=hT.same (hb1.block _ hT.lt')
 have hP1:=hP.same (hb1.block _ hP.lt)
 have ht1:=h.below hb1
 have hop1:os = []∨∃ b o,bo = some ⟨b,o,none⟩∧∀ j (hj:j < os.length),OpAt w1 b (o+j * 3) os[j]:=ho.2.imp id (fun ⟨b,o,e,hh⟩=>⟨b,o,e,fun j hj=>by
  obtain ⟨z0,z1,z2⟩:=hh j hj
  exact ⟨(hb1.cell (World.block_lt_of_cell? w _ z0)).trans z0,(hb1.cell (World.block_lt_of_cell? w _ z1)).trans z1,(hb1.cell (World.block_lt_of_cell? w _ z2)).trans z2⟩⟩)
 have hopk:=ho.1
 obtain ⟨k0,k1⟩:=pbox_cells hbx
 clear h ho hT hP
 replace hl:=Lib.hid hl
 replace hc:=Lib.hid hc
 replace hsb:=Lib.hid hsb
 replace hvo:=Lib.hid hvo
 replace hx:=Lib.hid hx
 replace hbx:=Lib.hid hbx
 replace hw1:=Lib.hid hw1
 replace hopk:=Lib.hid hopk
 replace hop1:=Lib.hid hop1
 replace ht1:=Lib.hid ht1
 go_enter Tryz.func5,Tryz.ntmps5
 go_wp2_with fail
 rw [←hw1.out]
 simp only [hx.out]
 clear hw1
 refine hlight.mono ?_
 rintro e w2 ⟨rfl,hx2⟩
 have hxb2:=hx2.below
 have hs2:=hx2.size
 have q1:=begin_any (wa:=w1) (w:=w2) b o cap hxb2 ⟨by have:=hx.out;omega,by have:=hx.out;omega⟩ (hT1.same (hxb2.block _ hT1.lt')) (hP1.same (hxb2.block _ hP1.lt)) (ht1.out.ext hx2) hc.out t9 hl.out hl6 hl0
 have j0:=hx2.cell k0
 have j1:=hx2.cell k1
 clear hlight
 go_wp2_with fail
 refine q1.mono ?_
 rintro e w3 ⟨sb,va,vf,rs,rfl,hRun,hrl⟩
 clear q1 j0 j1
 obtain ⟨gA,nA,cA,gF,nF,cF,rfl,rfl⟩:=hRun.shape
 unfold runV
 generalize hy:w3.heap.size = y at *
 have hNy:w1.heap.size≤y:=by rw [←hy];exact hRun.g.sz
 have hz3:=heap_alloc_new w3 (.cells #[.pointer (some ⟨sb,0,none⟩),.slice (some ⟨gA,0,none⟩) nA cA,.slice (some ⟨gF,0,none⟩) nF cF,.bool false] 35)
 rw [hy] at hz3
 have hRun4:=Lib.hid ((hRun.below ((Below.refl _ _).alloc (Nat.le_refl _) (.cells #[.pointer (some ⟨sb,0,none⟩),.slice (some ⟨gA,0,none⟩) nA cA,.slice (some ⟨gF,0,none⟩) nF cF,.bool false] 35))).hold hz3)
 clear hz3
 replace hRun:=Lib.hid hRun
 replace hy:=Lib.hid hy
 go_wp2_with fail
 simp only [hy.out]
 generalize hw4:w3.alloc (.cells #[.pointer (some ⟨sb,0,none⟩),.slice (some ⟨gA,0,none⟩) nA cA,.slice (some ⟨gF,0,none⟩) nF cF,.bool false] 35) = w4 at *
 clear hRun hw4 hy
 go_loopw [4] (fun i wr=>∃ (k:Nat) (s:St) (va vf:Value) (rs:List Res),k≤os.length∧i = .int .i64 (k:Int)∧Hid (RunAt w1 [(y,#[.pointer (some ⟨sb,0,none⟩),va,vf,.bool false])] t l sb (300000 - 127 * k) s va vf rs wr)∧rs.length≤2+2 * k) (fun i _=>os.length - (intOf i).toNat)
 case atStart=>exact ⟨0,newSt t,.slice (some ⟨gA,0,none⟩) nA cA,.slice (some ⟨gF,0,none⟩) nF cF,rs,by omega,rfl,hRun4,by omega⟩
 case round =>
  clear hRun4 hrl
  obtain ⟨k,s,va,vf,rs,hk,rfl,hI,hrl⟩:=hrel
  have hbel:=hI.out.bel
  have hby':wr.heap[y]? = some (.cells #[.pointer (some ⟨sb,0,none⟩),va,vf,.bool false] 35 (0,0)):=hI.out.g.hb (y,#[.pointer (some ⟨sb,0,none⟩),va,vf,.bool false]) (List.mem_cons_self ..)
  have c0:=(hbel.cell (show (⟨x,0,none⟩:Addr).block < w1.heap.size by show x < _;omega)).trans k0
  have c1:=(hbel.cell (show (⟨x,1,none⟩:Addr).block < w1.heap.size by show x < _;omega)).trans k1
  obtain ⟨y0,y1,y2,y3⟩:=box4 hby'
  replace hby':=Lib.hid hby'
  replace hbel:=Lib.hid hbel
  by_cases hlt:k < os.length
  ·have dlt:decide ((k:Int) < (os.length:Int)) = true:=decide_eq_true (by omega)
   obtain ⟨bo',oo,rfl,hop⟩:=hop1.out.resolve_left (by intro e;rw [e] at hlt;simp at hlt)
   obtain ⟨z0,z1,z2⟩:=hop k hlt
   obtain ⟨pk1,pk2,pk3⟩:=hopk.out os[k] (List.getElem_mem hlt)
   generalize os[k] = p at *
   have o0:=(hbel.out.cell (World.block_lt_of_cell? w1 _ z0)).trans z0
   have o1:=(hbel.out.cell (World.block_lt_of_cell? w1 _ z1)).trans z1
   have o2:=(hbel.out.cell (World.block_lt_of_cell? w1 _ z2)).trans z2
   have qd:=do_any (k':=300000 - 127 * (k+1)) (kd:=p.kd) (A:=p.a) (Bz:=p.b) (cap:=cap) (hI.out.below (Below.refl wr.heap.size wr).drew) ht1.out (by omega) hl.out hl6 hsb.out hvo.out (by omega) (by omega) pk1 pk2 pk3
   unfold runV at qd
   clear z0 z1 z2 hop
   go_wp2_with fail
   (refine wp_region_held_drew (S:=(fun _=>True)) (by kernel_rfl) ?_ (fun hHeld=>?_))
   ·trivial
   (refine takeL (i:=1) (v:=?_) rfl (by kernel_rfl) (by kernel_rfl) (by kernel_rfl) (fun _ _ _ h=>h) (Or.inl ⟨by rfl,?_⟩) (by assumption) ?_)
   rotate_left
   ·(intro w hSw;(try dsimp only at hSw);go_simp;first | done | with_reducible rfl)
   (try simp only [Act.put,List.setIfInBounds_toArray,List.set_cons_zero,List.set_cons_succ])
   (refine takeL (i:=3) (v:=?_) rfl (by kernel_rfl) (by kernel_rfl) (by kernel_rfl) (fun _ _ _ h=>h) (Or.inl ⟨by rfl,?_⟩) (by assumption) ?_)
   rotate_left
   ·(intro w hSw;(try dsimp only at hSw);go_simp;first | done | with_reducible rfl)
   (try simp only [Act.put,List.setIfInBounds_toArray,List.set_cons_zero,List.set_cons_succ])
   (refine takeL (i:=5) (v:=?_) rfl (by kernel_rfl) (by kernel_rfl) (by kernel_rfl) (fun _ _ _ h=>h) (Or.inl ⟨by rfl,?_⟩) (by assumption) ?_)
   rotate_left
   ·(intro w hSw;(try dsimp only at hSw);go_simp;first | done | with_reducible rfl)
   (try simp only [Act.put,List.setIfInBounds_toArray,List.set_cons_zero,List.set_cons_succ])
   (refine wpAnyH_ready (rs:=[0,2,4]) (by kernel_rfl) (by simp) ?_)
   (refine consL3 rfl rfl rfl (fun K hK=>?_) (fun K hK=>?_) (fun K hK=>?_))
   (rw [if_pos (by rfl)])
   go_simp
   (refine hK.out _ _ trivial (fun hT=>?_))
   (clear hT hK K)
   (try simp only [Act.put,List.setIfInBounds_toArray,List.set_cons_zero,List.set_cons_succ])
   (refine wpAnyH_ready (rs:=[2,4]) (by kernel_rfl) (by simp) ?_)
   (refine consL2 rfl rfl (fun K hK=>?_) (fun K hK=>?_))
   (rw [if_pos (by rfl)])
   go_simp
   (refine hK.out _ _ trivial (fun hT=>?_))
   (clear hT hK K)
   (try simp only [Act.put,List.setIfInBounds_toArray,List.set_cons_zero,List.set_cons_succ])
   (refine wpAnyH_ready (rs:=[4]) (by kernel_rfl) (by simp) ?_)
   (refine consL rfl (fun K hK=>?_))
   (rw [if_pos (by rfl)])
   go_simp
   (refine hK.out _ _ trivial (fun hT=>?_))
   (clear hT hK K)
   (try simp only [Act.put,List.setIfInBounds_toArray,List.set_cons_zero,List.set_cons_succ])
   (refine takeL (i:=6) (v:=?_) rfl (by kernel_rfl) (by kernel_rfl) (by kernel_rfl) (fun _ _ _ h=>h) (Or.inl ⟨by rfl,?_⟩) (by assumption) ?_)
   rotate_left
   ·(intro w hSw;(try dsimp only at hSw);go_simp;first | done | with_reducible rfl)
   (try simp only [Act.put,List.setIfInBounds_toArray,List.set_cons_zero,List.set_cons_succ])
   (refine wpAnyH_ready (rs:=[7]) (by kernel_rfl) (by simp) ?_)
   (refine consL rfl (fun K hK=>?_))
   (rw [if_pos (by rfl)])
   go_simp
   (refine hK.out _ _ trivial (fun hT=>?_))
   (clear hT hK K)
   (try simp only [Act.put,List.setIfInBounds_toArray,List.set_cons_zero,List.set_cons_succ])
   refine ?hRest1
   rotate_left
   (rw [if_pos (by rfl)])
   go_simp
   (refine hK.out _ _ trivial (fun hT=>?_))
   (clear hT hK K)
   (try simp only [Act.put,List.setIfInBounds_toArray,List.set_cons_zero,List.set_cons_succ])
   (refine takeL (i:=6) (v:=?_) rfl (by kernel_rfl) (by kernel_rfl) (by kernel_rfl) (fun _ _ _ h=>h) (Or.inl ⟨by rfl,?_⟩) (by assumption) ?_)
   rotate_left
   ·(intro w hSw;(try dsimp only at hSw);go_simp;first | done | with_reducible rfl)
   (try simp only [Act.put,List.setIfInBounds_toArray,List.set_cons_zero,List.set_cons_succ])
   (refine wpAnyH_ready (rs:=[2,7]) (by kernel_rfl) (by simp) ?_)
   (refine consL2 rfl rfl (fun K hK=>?_) (fun K hK=>?_))
   (rw [if_pos (by rfl)])
   go_simp
   (refine hK.out _ _ trivial (fun hT=>?_))
   (clear hT hK K)
   (try simp only [Act.put,List.setIfInBounds_toArray,List.set_cons_zero,List.set_cons_succ])
   (refine wpAnyH_ready (rs:=[7]) (by kernel_rfl) (by simp) ?_)
   (refine consL rfl (fun K hK=>?_))
   (rw [if_pos (by rfl)])
   go_simp
   (refine hK.out _ _ trivial (fun hT=>?_))
   (clear hT hK K)
   (try simp only [Act.put,List.setIfInBounds_toArray,List.set_cons_zero,List.set_cons_succ])
   exact ?hRest1
   (rw [if_pos (by rfl)])
   go_simp
   (refine hK.out _ _ trivial (fun hT=>?_))
   (clear hT hK K)
   (try simp only [Act.put,List.setIfInBounds_toArray,List.set_cons_zero,List.set_cons_succ])
   (refine wpAnyH_ready (rs:=[2]) (by kernel_rfl) (by simp) ?_)
   (refine consL rfl (fun K hK=>?_))
   (rw [if_pos (by rfl)])
   go_simp
   (refine hK.out _ _ trivial (fun hT=>?_))
   (clear hT hK K)
   (try simp only [Act.put,List.setIfInBounds_toArray,List.set_cons_zero,List.set_cons_succ])
   exact ?hRest1
   (rw [if_pos (by rfl)])
   go_simp
   (refine hK.out _ _ trivial (fun hT=>?_))
   (clear hT hK K)
   (try simp only [Act.put,List.setIfInBounds_toArray,List.set_cons_zero,List.set_cons_succ])
   (refine wpAnyH_ready (rs:=[0,4]) (by kernel_rfl) (by simp) ?_)
   (refine consL2 rfl rfl (fun K hK=>?_) (fun K hK=>?_))
   (rw [if_pos (by rfl)])
   go_simp
   (refine hK.out _ _ trivial (fun hT=>?_))
   (clear hT hK K)
   (try simp only [Act.put,List.setIfInBounds_toArray,List.set_cons_zero,List.set_cons_succ])
   (refine wpAnyH_ready (rs:=[4]) (by kernel_rfl) (by simp) ?_)
   (refine consL rfl (fun K hK=>?_))
   (rw [if_pos (by rfl)])
   go_simp
   (refine hK.out _ _ trivial (fun hT=>?_))
   (clear hT hK K)
   (try simp only [Act.put,List.setIfInBounds_toArray,List.set_cons_zero,List.set_cons_succ])
   (refine takeL (i:=6) (v:=?_) rfl (by kernel_rfl) (by kernel_rfl) (by kernel_rfl) (fun _ _ _ h=>h) (Or.inl ⟨by rfl,?_⟩) (by assumption) ?_)
   rotate_left
   ·(intro w hSw;(try dsimp only at hSw);go_simp;first | done | with_reducible rfl)
   (try simp only [Act.put,List.setIfInBounds_toArray,List.set_cons_zero,List.set_cons_succ])
   (refine wpAnyH_ready (rs:=[7]) (by kernel_rfl) (by simp) ?_)
   (refine consL rfl (fun K hK=>?_))
   (rw [if_pos (by rfl)])
   go_simp
   (refine hK.out _ _ trivial (fun hT=>?_))
   (clear hT hK K)
   (try simp only [Act.put,List.setIfInBounds_toArray,List.set_cons_zero,List.set_cons_succ])
   exact ?hRest1
   (rw [if_pos (by rfl)])
   go_simp
   (refine hK.out _ _ trivial (fun hT=>?_))
   (clear hT hK K)
   (try simp only [Act.put,List.setIfInBounds_toArray,List.set_cons_zero,List.set_cons_succ])
   (refine takeL (i:=6) (v:=?_) rfl (by kernel_rfl) (by kernel_rfl) (by kernel_rfl) (fun _ _ _ h=>h) (Or.inl ⟨by rfl,?_⟩) (by assumption) ?_)
   rotate_left
   ·(intro w hSw;(try dsimp only at hSw);go_simp;first | done | with_reducible rfl)
   (try simp only [Act.put,List.setIfInBounds_toArray,List.set_cons_zero,List.set_cons_succ])
   (refine wpAnyH_ready (rs:=[0,7]) (by kernel_rfl) (by simp) ?_)
   (refine consL2 rfl rfl (fun K hK=>?_) (fun K hK=>?_))
   (rw [if_pos (by rfl)])
   go_simp
   (refine hK.out _ _ trivial (fun hT=>?_))
   (clear hT hK K)
   (try simp only [Act.put,List.setIfInBounds_toArray,List.set_cons_zero,List.set_cons_succ])
   (refine wpAnyH_ready (rs:=[7]) (by kernel_rfl) (by simp) ?_)
   (refine consL rfl (fun K hK=>?_))
   (rw [if_pos (by rfl)])
   go_simp
   (refine hK.out _ _ trivial (fun hT=>?_))
   (clear hT hK K)
   (try simp only [Act.put,List.setIfInBounds_toArray,List.set_cons_zero,List.set_cons_succ])
   exact ?hRest1
   (rw [if_pos (by rfl)])
   go_simp
   (refine hK.out _ _ trivial (fun hT=>?_))
   (clear hT hK K)
   (try simp only [Act.put,List.setIfInBounds_toArray,List.set_cons_zero,List.set_cons_succ])
   (refine wpAnyH_ready (rs:=[0]) (by kernel_rfl) (by simp) ?_)
   (refine consL rfl (fun K hK=>?_))
   (rw [if_pos (by rfl)])
   go_simp
   (refine hK.out _ _ trivial (fun hT=>?_))
   (clear hT hK K)
   (try simp only [Act.put,List.setIfInBounds_toArray,List.set_cons_zero,List.set_cons_succ])
   exact ?hRest1
   (rw [if_pos (by rfl)])
   go_simp
   (refine hK.out _ _ trivial (fun hT=>?_))
   (clear hT hK K)
   (try simp only [Act.put,List.setIfInBounds_toArray,List.set_cons_zero,List.set_cons_succ])
   (refine takeL (i:=6) (v:=?_) rfl (by kernel_rfl) (by kernel_rfl) (by kernel_rfl) (fun _ _ _ h=>h) (Or.inl ⟨by rfl,?_⟩) (by assumption) ?_)
   rotate_left
   ·(intro w hSw;(try dsimp only at hSw);go_simp;first | done | with_reducible rfl)
   (try simp only [Act.put,List.setIfInBounds_toArray,List.set_cons_zero,List.set_cons_succ])
   (refine wpAnyH_ready (rs:=[0,2,7]) (by kernel_rfl) (by simp) ?_)
   (refine consL3 rfl rfl rfl (fun K hK=>?_) (fun K hK=>?_) (fun K hK=>?_))
   (rw [if_pos (by rfl)])
   go_simp
   (refine hK.out _ _ trivial (fun hT=>?_))
   (clear hT hK K)
   (try simp only [Act.put,List.setIfInBounds_toArray,List.set_cons_zero,List.set_cons_succ])
   (refine wpAnyH_ready (rs:=[2,7]) (by kernel_rfl) (by simp) ?_)
   (refine consL2 rfl rfl (fun K hK=>?_) (fun K hK=>?_))
   (rw [if_pos (by rfl)])
   go_simp
   (refine hK.out _ _ trivial (fun hT=>?_))
   (clear hT hK K)
   (try simp only [Act.put,List.setIfInBounds_toArray,List.set_cons_zero,List.set_cons_succ])
   (refine wpAnyH_ready (rs:=[7]) (by kernel_rfl) (by simp) ?_)
   (refine consL rfl (fun K hK=>?_))
   (rw [if_pos (by rfl)])
   go_simp
   (refine hK.out _ _ trivial (fun hT=>?_))
   (clear hT hK K)
   (try simp only [Act.put,List.setIfInBounds_toArray,List.set_cons_zero,List.set_cons_succ])
   exact ?hRest1
   (rw [if_pos (by rfl)])
   go_simp
   (refine hK.out _ _ trivial (fun hT=>?_))
   (clear hT hK K)
   (try simp only [Act.put,List.setIfInBounds_toArray,List.set_cons_zero,List.set_cons_succ])
   (refine wpAnyH_ready (rs:=[2]) (by kernel_rfl) (by simp) ?_)
   (refine consL rfl (fun K hK=>?_))
   (rw [if_pos (by rfl)])
   go_simp
   (refine hK.out _ _ trivial (fun hT=>?_))
   (clear hT hK K)
   (try simp only [Act.put,List.setIfInBounds_toArray,List.set_cons_zero,List.set_cons_succ])
   exact ?hRest1
   (rw [if_pos (by rfl)])
   go_simp
   (refine hK.out _ _ trivial (fun hT=>?_))
   (clear hT hK K)
   (try simp only [Act.put,List.setIfInBounds_toArray,List.set_cons_zero,List.set_cons_succ])
   (refine wpAnyH_ready (rs:=[0,7]) (by kernel_rfl) (by simp) ?_)
   (refine consL2 rfl rfl (fun K hK=>?_) (fun K hK=>?_))
   (rw [if_pos (by rfl)])
   go_simp
   (refine hK.out _ _ trivial (fun hT=>?_))
   (clear hT hK K)
   (try simp only [Act.put,List.setIfInBounds_toArray,List.set_cons_zero,List.set_cons_succ])
   (refine wpAnyH_ready (rs:=[7]) (by kernel_rfl) (by simp) ?_)
   (refine consL rfl (fun K hK=>?_))
   (rw [if_pos (by rfl)])
   go_simp
   (refine hK.out _ _ trivial (fun hT=>?_))
   (clear hT hK K)
   (try simp only [Act.put,List.setIfInBounds_toArray,List.set_cons_zero,List.set_cons_succ])
   exact ?hRest1
   (rw [if_pos (by rfl)])
   go_simp
   (refine hK.out _ _ trivial (fun hT=>?_))
   (clear hT hK K)
   (try simp only [Act.put,List.setIfInBounds_toArray,List.set_cons_zero,List.set_cons_succ])
   (refine wpAnyH_ready (rs:=[0]) (by kernel_rfl) (by simp) ?_)
   (refine consL rfl (fun K hK=>?_))
   (rw [if_pos (by rfl)])
   go_simp
   (refine hK.out _ _ trivial (fun hT=>?_))
   (clear hT hK K)
   (try simp only [Act.put,List.setIfInBounds_toArray,List.set_cons_zero,List.set_cons_succ])
   exact ?hRest1
   (rw [if_pos (by rfl)])
   go_simp
   (refine hK.out _ _ trivial (fun hT=>?_))
   (clear hT hK K)
   (try simp only [Act.put,List.setIfInBounds_toArray,List.set_cons_zero,List.set_cons_succ])
   (refine wpAnyH_ready (rs:=[0,2]) (by kernel_rfl) (by simp) ?_)
   (refine consL2 rfl rfl (fun K hK=>?_) (fun K hK=>?_))
   (rw [if_pos (by rfl)])
   go_simp
   (refine hK.out _ _ trivial (fun hT=>?_))
   (clear hT hK K)
   (try simp only [Act.put,List.setIfInBounds_toArray,List.set_cons_zero,List.set_cons_succ])
   (refine wpAnyH_ready (rs:=[2]) (by kernel_rfl) (by simp) ?_)
   (refine consL rfl (fun K hK=>?_))
   (rw [if_pos (by rfl)])
   go_simp
   (refine hK.out _ _ trivial (fun hT=>?_))
   (clear hT hK K)
   (try simp only [Act.put,List.setIfInBounds_toArray,List.set_cons_zero,List.set_cons_succ])
   exact ?hRest1
   (rw [if_pos (by rfl)])
   go_simp
   (refine hK.out _ _ trivial (fun hT=>?_))
   (clear hT hK K)
   (try simp only [Act.put,List.setIfInBounds_toArray,List.set_cons_zero,List.set_cons_succ])
   (refine wpAnyH_ready (rs:=[0]) (by kernel_rfl) (by simp) ?_)
   (refine consL rfl (fun K hK=>?_))
   (rw [if_pos (by rfl)])
   go_simp
   (refine hK.out _ _ trivial (fun hT=>?_))
   (clear hT hK K)
   (try simp only [Act.put,List.setIfInBounds_toArray,List.set_cons_zero,List.set_cons_succ])
   exact ?hRest1
   (refine wpAnyH_ready (rs:=[8]) (by kernel_rfl) (by simp) ?_)
   (refine consL rfl (fun K hK=>?_))
   ((rw [if_pos (by rfl)]);go_simp;(go_at_call 18);refine qd.mono ?_;rintro e w6 ⟨va',vf',s',rs',rfl,hR6,hl6'⟩;obtain ⟨gA',nA',cA',gF',nF',cF',rfl,rfl⟩:=hR6.shape;(refine hK.out _ _ trivial (fun hT=>?_));clear hT)
   (clear hK K)
   (try simp only [Act.put,List.setIfInBounds_toArray,List.set_cons_zero,List.set_cons_succ])
   have hb6:w6.heap[y]? = some (.cells #[.pointer (some ⟨sb,0,none⟩),va,vf,.bool false] 35 (0,0)):=hR6.g.hb (y,#[.pointer (some ⟨sb,0,none⟩),va,vf,.bool false]) (List.mem_cons_self ..)
   obtain ⟨u0,u1,u2,u3⟩:=box4 hb6
   have f0:w6.frozen? ⟨y,0,none⟩ = false:=by simp [World.frozen?,hb6]
   have f1:w6.frozen? ⟨y,1,none⟩ = false:=by simp [World.frozen?,hb6]
   have f2:w6.frozen? ⟨y,2,none⟩ = false:=by simp [World.frozen?,hb6]
   have f3:w6.frozen? ⟨y,3,none⟩ = false:=by simp [World.frozen?,hb6]
   replace hb6:=Lib.hid hb6
   replace hR6:=Lib.hid hR6
   clear qd c0 c1 y0 y1 y2 y3 o0 o1 o2 hby' hbel hI
   (refine wpAnyH_ready (rs:=[9]) (by kernel_rfl) (by simp) ?_)
   (refine consL rfl (fun K hK=>?_))
   ((rw [if_pos (by rfl)]);go_simp;(refine hK.out _ _ trivial (fun hT=>?_));clear hT)
   (clear hK K)
   (try simp only [Act.put,List.setIfInBounds_toArray,List.set_cons_zero,List.set_cons_succ])
   (refine wpAnyH_done (by kernel_rfl) ?_ _)
   clear u0 u1 u2 u3 f0 f1 f2 f3
   have hR7:=hR6.out.store hb6.out hNy rfl
   obtain ⟨m,hm⟩:∃ m,m = rs'.length:=⟨_,rfl⟩
   have hm2:2≤m:=by
    obtain ⟨_,_,_,e,_⟩:=hR7.two
    rw [hm,e];simp
   have hm52:m≤1000:=by omega
   obtain rfl:nA' = m:=by
    obtain ⟨_,_,e,_⟩:=own_at hR7.g.oa (by rw [List.length_map,←hm];omega)
    rw [List.length_map,←hm] at e
    simpa using congrArg (fun v=>match v with | Value.slice _ n _=>n | _=>0) e
   obtain rfl:nF' = nA':=by
    obtain ⟨_,_,e,_⟩:=own_at hR7.g.of (by rw [List.length_map,←hm];omega)
    rw [List.length_map,←hm] at e
    simpa using congrArg (fun v=>match v with | Value.slice _ n _=>n | _=>0) e
   clear hb6 hR6
   generalize (((w6.setCell ⟨y,0,none⟩ (.pointer (some ⟨sb,0,none⟩))).setCell ⟨y,1,none⟩ (.slice (some ⟨gA',0,none⟩) nF' cA')).setCell ⟨y,2,none⟩ (.slice (some ⟨gF',0,none⟩) nF' cF')).setCell ⟨y,3,none⟩ (.bool false) = w7 at *
   have hb7:w7.heap[y]? = some (.cells #[.pointer (some ⟨sb,0,none⟩),.slice (some ⟨gA',0,none⟩) nF' cA',.slice (some ⟨gF',0,none⟩) nF' cF',.bool false] 35 (0,0)):=hR7.g.hb (y,#[.pointer (some ⟨sb,0,none⟩),.slice (some ⟨gA',0,none⟩) nF' cA',.slice (some ⟨gF',0,none⟩) nF' cF',.bool false]) (List.mem_cons_self ..)
   obtain ⟨y0,y1,y2,y3⟩:=box4 hb7
   have c0:=(hR7.bel.cell (show (⟨x,0,none⟩:Addr).block < w1.heap.size by show x < _;omega)).trans k0
   have qsh:=shows_any (cap:=cap) hR7 (ht1.out.below hR7.bel) (by omega) hl.out hsb.out hl6 (by omega)
   unfold runV at qsh
   replace hb7:=Lib.hid hb7
   replace hR7:=Lib.hid hR7
   replace hm:=Lib.hid hm
   go_wp2_with fail
   refine qsh.mono ?_
   rintro e w8 ⟨rfl,hb8⟩
   have hR8:=Lib.hid (hR7.out.below hb8)
   have hb8y:=Lib.hid ((hb8.block y (Array.getElem?_eq_some_iff.1 hb7.out).1).trans hb7.out)
   clear qsh hb8 hb7 hR7 y0 y1 y2 y3 c0
   go_wp2_with fail
   go_loopw [5] (fun i wr=>∃ k2:Nat,k2≤nF'∧i = .int .i64 (k2:Int)∧Hid (Below w8.heap.size w8 wr)) (fun i _=>nF' - (intOf i).toNat)
   case atStart=>exact ⟨0,by omega,rfl,Lib.hid (Below.refl _ _)⟩
   case round =>
    obtain ⟨k2,hk2,rfl,hJ⟩:=hrel
    have v1:=(box4 ((hJ.out.block y (Array.getElem?_eq_some_iff.1 hb8y.out).1).trans hb8y.out)).2.1
    by_cases hlt2:k2 < nF'
    ·have dlt2:decide ((k2:Int) < (nF':Int)) = true:=decide_eq_true (by omega)
     go_wp2_with fail
     clear v1
     go_loopw [6] (fun i wr=>∃ j2:Nat,j2≤k2∧i = .int .i64 (j2:Int)∧Hid (Below w8.heap.size w8 wr)) (fun i _=>k2 - (intOf i).toNat)
     case atStart=>exact ⟨0,by omega,rfl,hJ⟩
     case round =>
      clear hJ
      obtain ⟨j2,hj2,rfl,hJ⟩:=hrel
      by_cases hlt3:j2 < k2
      ·have dlt3:decide ((j2:Int) < (k2:Int)) = true:=decide_eq_true (by omega)
       have hRr:=hR8.out.below hJ.out
       obtain ⟨v0,v1,v2,v3⟩:=box4 ((hJ.out.block y (Array.getElem?_eq_some_iff.1 hb8y.out).1).trans hb8y.out)
       obtain ⟨rk,hrk⟩:∃ r,rs'[k2]? = some r:=⟨_,List.getElem?_eq_getElem (by rw [←hm.out];exact hlt2)⟩
       obtain ⟨rj,hrj⟩:∃ r,rs'[j2]? = some r:=⟨_,List.getElem?_eq_getElem (by rw [←hm.out];omega)⟩
       obtain ⟨hvk,htk⟩:=hRr.ok rk (List.mem_of_getElem? hrk)
       obtain ⟨hvj,htj⟩:=hRr.ok rj (List.mem_of_getElem? hrj)
       have hak:=hRr.g.tab (rk.v,rk.f) (List.mem_map.2 ⟨rk,List.mem_of_getElem? hrk,rfl⟩)
       have haj:=hRr.g.tab (rj.v,rj.f) (List.mem_map.2 ⟨rj,List.mem_of_getElem? hrj,rfl⟩)
       simp only at hak haj
       have hp64:=pow_le64 hl6
       have qs:=Lib.hid fun (W:World) (hW:Below wr.heap.size wr W)=>tsame_any (hak.below hW).slB (haj.below hW).slB (by rw [htj.len,htk.len]) (by rw [htk.len];omega)
       have hcanon:((rk.n:Int) == (rj.n:Int)) = decide (rk.f = rj.f):=by
        have e1:rk.f = L.tabO l (L.sem s'.nodes rk.n):=by rw [show L.sem s'.nodes rk.n = rk.φ from funext hvk.sem];exact htk.eq hsb.out.sorted
        have e2:rj.f = L.tabO l (L.sem s'.nodes rj.n):=by rw [show L.sem s'.nodes rj.n = rj.φ from funext hvj.sem];exact htj.eq hsb.out.sorted
        have e3:=hRr.g.room.inv.tab_eq (l:=l) (by rw [hRr.g.tree];exact hsb.out) hvk.lt hvj.lt
        rw [←e1,←e2] at e3
        rw [Bool.eq_iff_iff,decide_eq_true_iff,beq_iff_eq,e3]
        omega
       have a1:wr.cell? ⟨gA',k2,none⟩ = some (.int .i64 (rk.n:Nat)):=own_cellAt (own_cast hRr.g.oa (by rw [List.length_map,←hm.out]) rfl) (by rw [List.getElem?_map,hrk];rfl)
       have a2:wr.cell? ⟨gA',j2,none⟩ = some (.int .i64 (rj.n:Nat)):=own_cellAt (own_cast hRr.g.oa (by rw [List.length_map,←hm.out]) rfl) (by rw [List.getElem?_map,hrj];rfl)
       have a3:wr.cell? ⟨gF',k2,none⟩ = some rk.v:=own_cellAt (own_cast hRr.g.of (by rw [List.length_map,←hm.out]) rfl) (by rw [List.getElem?_map,hrk];rfl)
       have a4:wr.cell? ⟨gF',j2,none⟩ = some rj.v:=own_cellAt (own_cast hRr.g.of (by rw [List.length_map,←hm.out]) rfl) (by rw [List.getElem?_map,hrj];rfl)
       obtain ⟨g1,d1,l1,e1⟩:∃ g c n,rk.v = .slice (some ⟨g,0,none⟩) n c:=by obtain ⟨g,c,_,e,_⟩:=hak;exact ⟨g,c,_,e⟩
       obtain ⟨g2,d2,l2,e2⟩:∃ g c n,rj.v = .slice (some ⟨g,0,none⟩) n c:=by obtain ⟨g,c,_,e,_⟩:=haj;exact ⟨g,c,_,e⟩
       rw [e1] at a3 qs
       rw [e2] at a4 qs
       generalize decide (rk.f = rj.f) = D at *
       generalize rk.n = nk at *
       generalize rj.n = nj at *
       have hDD:(D != D) = false:=by cases D <;> rfl
       have F1:=Lib.hid fun (W:World) (hW:Below wr.heap.size wr W)=>And.intro ((hW.cell (World.block_lt_of_cell? wr _ v1)).trans v1) (And.intro ((hW.cell (World.block_lt_of_cell? wr _ v2)).trans v2) (And.intro ((hW.cell (World.block_lt_of_cell? wr _ a1)).trans a1) (And.intro ((hW.cell (World.block_lt_of_cell? wr _ a2)).trans a2) (And.intro ((hW.cell (World.block_lt_of_cell? wr _ a3)).trans a3) ((hW.cell (World.block_lt_of_cell? wr _ a4)).trans a4)))))
       have i0:(0:Int)≤k2:=by omega
       have i1:(k2:Int) < nF':=by omega
       have i2:(0:Int)≤j2:=by omega
       have i3:(j2:Int) < nF':=by omega
       clear v0 v1 v2 v3 a1 a2 a3 a4 e1 e2 hak haj htk htj hvk hvj hrk hrj hRr
       go_wp2_with fail
       (refine wp_region_belowB (by kernel_rfl) (by kernel_rfl) ?_
        repeat (refine wpQuiet_step (fun K hK=>?_)
                go_simp
                first
                 | (refine hK _ ?_;clear hK K)
                 | (replace hK:=Lib.hid hK
                    apply Exists.intro
                    refine ⟨fun wq hq=>?_,hK.out _ ?_⟩
                    ·(obtain ⟨f1,f2,f3,f4,f5,f6⟩:=F1.out wq hq)
                     go_simp
                     first
                      | done
                      | rfl
                      | exact ⟨rfl,rfl⟩
                      | (refine (qs.out wq hq).mono ?_;rintro e w' ⟨rfl,hb⟩;exact ⟨rfl,hq.trans (hb.mono hq.size)⟩)
                    clear hK K))
        refine wpQuiet_nil ?_)
       intro w9 hb9
       have hnext:Hid (Below w8.heap.size w8 w9):=Lib.hid (hJ.out.trans (hb9.mono hJ.out.size))
       clear F1 qs hb9 hJ
       go_wp2_with fail
       go_roundw
       case rel=>exact ⟨j2+1,by omega,by go_num,hnext⟩
       case measure=>simp [intOf];omega
      ·have dlt3:decide ((j2:Int) < (k2:Int)) = false:=decide_eq_false (by omega)
       go_wp2_with fail
       go_roundw
       case rel=>exact ⟨k2+1,by omega,by go_num,hJ⟩
       case measure=>simp [intOf];omega
    ·have dlt2:decide ((k2:Int) < (nF':Int)) = false:=decide_eq_false (by omega)
     have hnext:=Lib.hid (hR8.out.below hJ.out)
     go_wp2_with fail
     go_roundw
     case rel=>exact ⟨k+1,s',_,_,rs',by omega,by go_num,hnext,by omega⟩
     case measure=>simp [intOf];omega
  ·obtain rfl:k = os.length:=by omega
   have dlt:decide ((os.length:Int) < (os.length:Int)) = false:=decide_eq_false (by omega)
   have cw:=works_any wr (hT1.same (hbel.out.block _ hT1.lt')) (hP1.same (hbel.out.block _ hP1.lt))
   have hbw:Below w.heap.size w wr:=hb1.trans (hbel.out.mono (by rw [hx.out];omega))
   replace hbw:=Lib.hid hbw
   clear hI hlt
   go_wp2_with fail
   refine cw.mono ?_
   rintro e w9 ⟨rfl,hb9⟩
   go_wp2_with fail
   go_ret
   exact ⟨rfl,by have:=hbw.out.trans (hb9.mono hbw.out.size);rwa [hx.out] at this⟩
theorem runs_any {t:List VN} {os:List OpD} (w:World) (ba:Option Addr) (cap:Nat) (bo:Option Addr) (co:Nat) (hT:TzTab w) (hP:PowTab w) (h:t = []∨∃ b o,ba = some ⟨b,o,none⟩∧TreeAt w b o t) (ho:OpsIn w bo os) :
  Calls Tryz.prog 5 #[.agg #[.slice ba t.length cap,.slice bo os.length co]] w fun e w'=>e = .returned (.bool true)∧Below w.heap.size w w':=by
 cases hn:lightB t os.length
 ·exact runs_works w ba bo cap co hT hP h hn
 ·rcases h with rfl | ⟨b,o,rfl,ht⟩
  ·cases hn
  ·exact runs_ok w b o cap bo co hT hP ht ho hn
end Go.Proofs.YteikmmfjhabijaaGreatDoor
