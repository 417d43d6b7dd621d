import Derived.Test.YtemnmcfmabamcaaGreatDoorXVpost
import Derived.Test.YtemnmcfmabamcaaGreatDoorXReg
set_option linter.unusedSimpArgs false
set_option linter.unusedVariables false
namespace Go.Proofs.YtemnmcfmabamcaaGreatDoor
open Go Go.RowKit Go.Shelf
def NewTree (w:World) (u:List VN) (v:Value) (w':World):Prop:=∃ g cap,v = .slice (some ⟨g,0,none⟩) u.length cap∧TreeAt w' g 0 u∧w.heap.size≤g∧Below w.heap.size w w'
theorem own_tree {w:World} {N:Nat} {v:Value} {u:List VN} (h:w.ownsRow N 78 3 v u.length (treeCells u)) (hu:0 < u.length):∃ g cap,v = .slice (some ⟨g,0,none⟩) u.length cap∧TreeAt w g 0 u∧N≤g:=by
 have h':=h
 obtain ⟨_,⟨rfl,e⟩ | ⟨g,cap,cur,rfl,hg,_⟩⟩:=h
 ·rw [e] at hu;cases hu
 ·refine ⟨g,cap,rfl,fun j x hj=>?_,hg⟩
  have:=h'.cells (g:=g) rfl j x hj
  rwa [Addr.add_lit] at this
set_option maxRecDepth 100000 in
set_option maxHeartbeats 4000000 in
theorem postorder_any {w:World} {t:List VN} {b o cap fc:Nat} {caps:Array Value} {chg:Nat→VN→VN} {U:L.Tr} (ht:TreeAt w b o t) (hch:ChgLaw w t fc caps chg) (hU:L.IsT chg t (t.length - 1) U) (hs:U.size≤255) (htl:t.length≤255) :
  Calls Tryz.prog 123 #[.slice (some ⟨b,o,none⟩) t.length cap,.func (.func fc) #[] caps] w fun e w'=>∃ v,e = .returned v∧NewTree w (U.post 0) v w':=by
 have hmf:∀ (fn:Fn) (first cap:Array Value) (w:World),(Instr.makeFunc fn first cap).run Tryz.prog w = .ok (.func fn first cap) w:=fun _ _ _ _=>rfl
 have hK2:∀ (c:Array Value) (w:World),(callFunc 143 c).run Tryz.prog w = .ok (.enter 143 c) w:=fun c w=>by simp [go_sem,Tryz.func143]
 obtain ⟨g0,g1,g2,g3⟩:=four_all w (.cells #[.slice (some ⟨b,o,none⟩) t.length cap] 23) (.cells #[.func (.func fc) #[] caps] 178) (.cells #[.slice none 0 0] 23) (.cells #[.func (.func 143) #[] #[.pointer (some ⟨w.heap.size,0,none⟩),.pointer (some ⟨w.heap.size+1,0,none⟩),.pointer (some ⟨w.heap.size+3,0,none⟩),.pointer (some ⟨w.heap.size+2,0,none⟩)]] 124)
 have hb0:Below w.heap.size w ((((w.alloc (.cells #[.slice (some ⟨b,o,none⟩) t.length cap] 23)).alloc (.cells #[.func (.func fc) #[] caps] 178)).alloc (.cells #[.slice none 0 0] 23)).alloc (.cells #[.func (.func 143) #[] #[.pointer (some ⟨w.heap.size,0,none⟩),.pointer (some ⟨w.heap.size+1,0,none⟩),.pointer (some ⟨w.heap.size+3,0,none⟩),.pointer (some ⟨w.heap.size+2,0,none⟩)]] 124)):=(((((Ext.refl w).alloc _).alloc _).alloc _).alloc _).below
 have hC:PoC w t b o cap (.func (.func fc) #[] caps) [] (.slice none 0 0) _:=⟨hb0,g0,g1,g2,g3,World.ownsRow_nil _ _ _ _⟩
 have t0:=hU.lt
 have q:=po_law ht hch U (t.length - 1) [] _ _ hU hC (by simpa using hs)
 have hwr:IntKind.i64.wrap ((t.length:Int) - 1) = ((t.length - 1:Nat):Int):=by
  have:=hU.lt
  rw [IntWalk.i64_in _ (by omega)];omega
 clear g0 g1 g2 g3 hb0
 go_enter Tryz.func123,Tryz.ntmps123
 go_wp2_with fail
 refine q.mono ?_
 rintro e w' ⟨v',rfl,hC',_⟩
 obtain ⟨_,_,c2,_⟩:=hC'.cells
 have hpl:=L.Tr.post_len U 0
 have hrow:=hC'.row
 rw [List.nil_append,List.length_nil] at hrow
 obtain ⟨g,cp,rfl,hT,hg⟩:=own_tree hrow (by rw [hpl];exact U.pos)
 have hb:=hC'.below
 clear q hC hrow hC'
 replace hT:=Lib.hid hT
 replace hb:=Lib.hid hb
 go_wp2_with fail
 go_ret
 exact ⟨_,rfl,g,cp,by rw [hpl];rfl,hT.out,by omega,hb.out⟩
def innerB (t:List VN) (i:Int):Bool:=decide (0≤i) && (decide (i < t.length) && !leafB (t.getD i.toNat ⟨0,0,0⟩))
theorem innerB_get {t:List VN} {i:Int} (h:innerB t i = true):∃ (n:Nat) (y:VN),i = n∧t[n]? = some y∧leafB y = false:=by
 simp only [innerB,Bool.and_eq_true,decide_eq_true_eq,Bool.not_eq_true'] at h
 obtain ⟨h1,h2,h3⟩:=h
 refine ⟨i.toNat,t.getD i.toNat ⟨0,0,0⟩,by omega,?_,h3⟩
 rw [List.getD_eq_getElem?_getD,List.getElem?_eq_getElem (by omega)];rfl
set_option maxRecDepth 100000 in
set_option maxHeartbeats 2000000 in
theorem inner_any {t:List VN} (w:World) (b o cap:Nat) (ht:TreeAt w b o t) (i:Int):Calls Tryz.prog 122 #[.slice (some ⟨b,o,none⟩) t.length cap,.int .i64 i] w fun e w'=>e = .returned (.bool (innerB t i))∧Ext w w':=by
 by_cases h0:0≤i
 ·have d0:decide (i≥0) = true:=decide_eq_true h0
  by_cases h1:i < t.length
  ·have d1:decide (i < (t.length:Int)) = true:=decide_eq_true h1
   obtain ⟨n,rfl⟩:∃ n:Nat,i = n:=⟨i.toNat,by omega⟩
   obtain ⟨n0,n1,n2⟩:=ht.node (k:=n) (by omega)
   have hq:=isLeaf_any (t[n]'(by omega)) w
   have hin:innerB t n = !leafB (t[n]'(by omega)):=by
    unfold innerB
    rw [decide_eq_true h0,decide_eq_true h1,Int.toNat_natCast,List.getD_eq_getElem?_getD,List.getElem?_eq_getElem (by omega)];rfl
   rw [hin]
   generalize t[n]'(by omega) = y at *
   clear hin
   go_enter Tryz.func122,Tryz.ntmps122
   go_wp2_with fail
   refine hq.mono ?_
   rintro e w1 ⟨rfl,hx1⟩
   clear hq
   go_wp2_with fail
   go_ret
   exact ⟨rfl,hx1⟩
  ·have d1:decide (i < (t.length:Int)) = false:=decide_eq_false h1
   have hin:innerB t i = false:=by unfold innerB;rw [decide_eq_false h1];simp
   rw [hin]
   go_enter Tryz.func122,Tryz.ntmps122
   go_wp2_with fail
   go_ret
   exact ⟨rfl,Ext.refl _⟩
 ·have d0:decide (i≥0) = false:=decide_eq_false h0
  have hin:innerB t i = false:=by unfold innerB;rw [decide_eq_false h0];simp
  rw [hin]
  go_enter Tryz.func122,Tryz.ntmps122
  go_wp2_with fail
  go_ret
  exact ⟨rfl,Ext.refl _⟩
theorem two_boxes (W:World) (X Y:Array Value) (s t:TypeId):Below W.heap.size W ((W.alloc (.cells X s)).alloc (.cells Y t))∧((W.alloc (.cells X s)).alloc (.cells Y t)).heap[W.heap.size]? = some (.cells X s (0,0))∧((W.alloc (.cells X s)).alloc (.cells Y t)).heap[W.heap.size+1]? = some (.cells Y t (0,0)):=by
 refine ⟨(((Ext.refl W).alloc _).alloc _).below,?_,?_⟩
 ·rw [Below.heap_alloc _ _ _ (by simp)];exact heap_new_at _ _ _ rfl
 ·exact heap_new_at _ _ _ (by simp)
set_option maxRecDepth 100000 in
set_option maxHeartbeats 2000000 in
theorem swap_chg {w:World} {t:List VN} {n pb:Nat} (hb:w.cell? ⟨pb,0,none⟩ = some (.int .i64 (n:Nat))):ChgLaw w t 126 #[.pointer (some ⟨pb,0,none⟩)] (L.chS n):=by
 refine ⟨fun c w=>by simp [go_sem,Tryz.func126],fun i y hy hl W hW=>?_⟩
 have hbW:=(hW.cell (World.block_lt_of_cell? w _ hb)).trans hb
 obtain ⟨yl,yr,yv⟩:=y
 show Calls Tryz.prog 126 #[.int .i64 (i:Int),.agg #[.int .i64 yl,.int .i64 yr,.int .i64 yv],.pointer (some ⟨pb,0,none⟩)] W _
 have hx:=((Ext.refl W).alloc (.cells #[.int .i64 yl,.int .i64 yr,.int .i64 yv] 78)).alloc (.cells #[.int .i64 0,.int .i64 0,.int .i64 0] 78)
 have hbX:=hx.cell hbW
 by_cases hi:i = n
 ·subst hi
  have d0:((i:Int) == (i:Int)) = true:=by simp
  go_enter Tryz.func126,Tryz.ntmps126
  go_wp2_with fail
  obtain ⟨h1,_,h3⟩:=two_boxes W #[.int .i64 yr,.int .i64 yl,.int .i64 yv] #[.int .i64 yr,.int .i64 yl,.int .i64 yv] 78 78
  obtain ⟨e0,e1,e2⟩:=box3 h3
  exact bodyPost_ret (v:=.agg #[.int .i64 yr,.int .i64 yl,.int .i64 yv]) (by simp [results,Tryz.results126,go_sem,e0,e1,e2]) rfl ⟨by simp [encVN,L.chS],h1⟩
 ·have d0:((i:Int) == (n:Int)) = false:=by simp;omega
  go_enter Tryz.func126,Tryz.ntmps126
  go_wp2_with fail
  obtain ⟨h1,_,h3⟩:=two_boxes W #[.int .i64 yl,.int .i64 yr,.int .i64 yv] #[.int .i64 yl,.int .i64 yr,.int .i64 yv] 78 78
  obtain ⟨e0,e1,e2⟩:=box3 h3
  exact bodyPost_ret (v:=.agg #[.int .i64 yl,.int .i64 yr,.int .i64 yv]) (by simp [results,Tryz.results126,go_sem,e0,e1,e2]) rfl ⟨by simp [encVN,L.chS,hi],h1⟩
set_option maxRecDepth 100000 in
set_option maxHeartbeats 2000000 in
theorem right_chg {w:World} {t:List VN} {b o cap n low pa pt pl pp:Nat} {x:VN} {a bb c:Int} (ht:TreeAt w b o t) (hpa:w.cell? ⟨pa,0,none⟩ = some (.int .i64 (n:Nat))) (hpt:w.cell? ⟨pt,0,none⟩ = some (.slice (some ⟨b,o,none⟩) t.length cap)) (hpl:w.cell? ⟨pl,0,none⟩ = some (.int .i64 (low:Nat)))
  (hpp:w.cell? ⟨pp,1,none⟩ = some (.int .i64 c)) (hx:t[low]? = some x) (x1:x.left = a) (x2:x.right = bb):ChgLaw w t 124 #[.pointer (some ⟨pa,0,none⟩),.pointer (some ⟨pt,0,none⟩),.pointer (some ⟨pl,0,none⟩),.pointer (some ⟨pp,0,none⟩)] (L.chR n low a bb c):=by
 refine ⟨fun c w=>by simp [go_sem,Tryz.func124],fun i y hy hl W hW=>?_⟩
 obtain ⟨hlw,rfl⟩:=List.getElem?_eq_some_iff.1 hx
 obtain ⟨n0,n1,n2⟩:=(ht.below hW).node hlw
 rw [x1] at n0
 rw [x2] at n1
 have ga:=(hW.cell (World.block_lt_of_cell? w _ hpa)).trans hpa
 have gt:=(hW.cell (World.block_lt_of_cell? w _ hpt)).trans hpt
 have gl:=(hW.cell (World.block_lt_of_cell? w _ hpl)).trans hpl
 have gp:=(hW.cell (World.block_lt_of_cell? w _ hpp)).trans hpp
 have l0:(0:Int)≤low:=by omega
 have l1:(low:Int) < t.length:=by omega
 obtain ⟨yl,yr,yv⟩:=y
 show Calls Tryz.prog 124 #[.int .i64 (i:Int),.agg #[.int .i64 yl,.int .i64 yr,.int .i64 yv],.pointer (some ⟨pa,0,none⟩),.pointer (some ⟨pt,0,none⟩),.pointer (some ⟨pl,0,none⟩),.pointer (some ⟨pp,0,none⟩)] W _
 obtain ⟨hb2,_,hz⟩:=two_boxes W #[.int .i64 yl,.int .i64 yr,.int .i64 yv] #[.int .i64 0,.int .i64 0,.int .i64 0] 78 78
 have hx2:=((Ext.refl W).alloc (.cells #[.int .i64 yl,.int .i64 yr,.int .i64 yv] 78)).alloc (.cells #[.int .i64 0,.int .i64 0,.int .i64 0] 78)
 have ga1:=hx2.cell ga
 have gl1:=hx2.cell gl
 obtain ⟨W2,hW2⟩:∃ W2,W2 = (W.alloc (.cells #[.int .i64 yl,.int .i64 yr,.int .i64 yv] 78)).alloc (.cells #[.int .i64 0,.int .i64 0,.int .i64 0] 78):=⟨_,rfl⟩
 rw [←hW2] at hb2 hz hx2
 have ga2:=hx2.cell ga
 have gt2:=hx2.cell gt
 have gl2:=hx2.cell gl
 have gp2:=hx2.cell gp
 have m0:=hx2.cell n0
 have m1:=hx2.cell n1
 have b1:=World.block_lt_of_cell? W _ gt
 have b2:=World.block_lt_of_cell? W _ gl
 have b3:=World.block_lt_of_cell? W _ gp
 have b4:=World.block_lt_of_cell? W _ n0
 obtain ⟨z0,z1,z2⟩:=box3 hz
 have f0:W2.frozen? ⟨W.heap.size+1,0,none⟩ = false:=by simp [World.frozen?,hz]
 have f1:W2.frozen? ⟨W.heap.size+1,1,none⟩ = false:=by simp [World.frozen?,hz]
 have f2:W2.frozen? ⟨W.heap.size+1,2,none⟩ = false:=by simp [World.frozen?,hz]
 simp only at b1 b2 b3 b4
 have hset:∀ u v0 v1:Value,∀ k,k < W.heap.size→(((W2.setCell ⟨W.heap.size+1,0,none⟩ u).setCell ⟨W.heap.size+1,1,none⟩ v0).setCell ⟨W.heap.size+1,2,none⟩ v1).heap[k]? = W2.heap[k]?:=fun u v0 v1 k hk=>by
  rw [heap_far _ _ (by omega),heap_far _ _ (by omega),heap_far _ _ (by omega)]
 have hend:∀ u0 u1 u2:Value,Below W.heap.size W (((W2.setCell ⟨W.heap.size+1,0,none⟩ u0).setCell ⟨W.heap.size+1,1,none⟩ u1).setCell ⟨W.heap.size+1,2,none⟩ u2).drew∧(((W2.setCell ⟨W.heap.size+1,0,none⟩ u0).setCell ⟨W.heap.size+1,1,none⟩ u1).setCell ⟨W.heap.size+1,2,none⟩ u2).drew.heap[W.heap.size+1]? = some (.cells #[u0,u1,u2] 78 (0,0)):=fun u0 u1 u2=>by
  have h1:=((hb2.setCell (p:=⟨W.heap.size+1,0,none⟩) (Nat.le_succ _) u0).setCell (p:=⟨W.heap.size+1,1,none⟩) (Nat.le_succ _) u1).setCell (p:=⟨W.heap.size+1,2,none⟩) (Nat.le_succ _) u2
  exact ⟨h1.trans ((Below.refl _ _).drew.mono h1.size),heap_set (heap_set (heap_set hz 0 u0) 1 u1) 2 u2⟩
 replace hset:=Lib.hid hset
 replace hend:=Lib.hid hend
 replace hW2:=Lib.hid hW2
 replace hz:=Lib.hid hz
 by_cases hi:i = n
 ·subst hi
  have d0:((i:Int) == (i:Int)) = true:=by simp
  go_enter Tryz.func124,Tryz.ntmps124
  go_wp2_with fail
  rw [←hW2.out]
  clear ga1 gl1
  (refine wp_region_held_drew (S:=(fun w'=>w'.cell? ⟨pt,0,none⟩ = some (.slice (some ⟨b,o,none⟩) t.length cap)∧w'.cell? ⟨pl,0,none⟩ = some (.int .i64 (low:Nat))∧w'.cell? ⟨pp,1,none⟩ = some (.int .i64 c)∧w'.cell? ⟨b,o+low * 3,none⟩ = some (.int .i64 a)∧w'.cell? ⟨b,o+low * 3+1,none⟩ = some (.int .i64 bb))) (by kernel_rfl) ?_ (fun hHeld=>?_))
  ·exact ⟨gt2,gl2,gp2,m0,m1⟩
  (refine takeL (i:=0) (v:=?_) rfl (by kernel_rfl) (by kernel_rfl) (by kernel_rfl) (fun _ _ _ h=>h) (Or.inl ⟨by rfl,?_⟩) (by assumption) ?_)
  rotate_left
  ·(intro w hSw;(try dsimp only at hSw);go_simp;first | done | with_reducible rfl)
  (try simp only [Act.put,List.setIfInBounds_toArray,List.set_cons_zero,List.set_cons_succ])
  (refine takeL (i:=1) (v:=?_) rfl (by kernel_rfl) (by kernel_rfl) (by kernel_rfl) (fun _ _ _ h=>h) (Or.inl ⟨by rfl,?_⟩) (by assumption) ?_)
  rotate_left
  ·(intro w hSw;(try dsimp only at hSw);go_simp;first | done | with_reducible rfl)
  (try simp only [Act.put,List.setIfInBounds_toArray,List.set_cons_zero,List.set_cons_succ])
  (refine takeL (i:=2) (v:=?_) rfl (by kernel_rfl) (by kernel_rfl) (by kernel_rfl) (fun _ _ _ h=>h) (Or.inl ⟨by rfl,?_⟩) (by assumption) ?_)
  rotate_left
  ·(intro w hSw;(try dsimp only at hSw);go_simp;first | done | with_reducible rfl)
  (try simp only [Act.put,List.setIfInBounds_toArray,List.set_cons_zero,List.set_cons_succ])
  (refine takeL (i:=3) (v:=?_) rfl (by kernel_rfl) (by kernel_rfl) (by kernel_rfl) (fun _ _ _ h=>h) (Or.inl ⟨by rfl,?_⟩) (by assumption) ?_)
  rotate_left
  ·(intro w hSw;(try dsimp only at hSw);go_simp;first | done | with_reducible rfl)
  (try simp only [Act.put,List.setIfInBounds_toArray,List.set_cons_zero,List.set_cons_succ])
  (refine takeL (i:=4) (v:=?_) rfl (by kernel_rfl) (by kernel_rfl) (by kernel_rfl) (fun _ _ _ h=>h) (Or.inl ⟨by rfl,?_⟩) (by assumption) ?_)
  rotate_left
  ·(intro w hSw;(try dsimp only at hSw);go_simp;first | done | with_reducible rfl)
  (try simp only [Act.put,List.setIfInBounds_toArray,List.set_cons_zero,List.set_cons_succ])
  (refine takeL (i:=5) (v:=?_) rfl (by kernel_rfl) (by kernel_rfl) (by kernel_rfl) (fun _ _ _ h=>h) (Or.inl ⟨by rfl,?_⟩) (by assumption) ?_)
  rotate_left
  ·(intro w hSw;(try dsimp only at hSw);go_simp;first | done | with_reducible rfl)
  (try simp only [Act.put,List.setIfInBounds_toArray,List.set_cons_zero,List.set_cons_succ])
  (refine takeL (i:=6) (v:=?_) rfl (by kernel_rfl) (by kernel_rfl) (by kernel_rfl) (fun _ _ _ h=>h) (Or.inl ⟨by rfl,?_⟩) (by assumption) ?_)
  rotate_left
  ·(intro w hSw;(try dsimp only at hSw);go_simp;first | done | with_reducible rfl)
  (try simp only [Act.put,List.setIfInBounds_toArray,List.set_cons_zero,List.set_cons_succ])
  have hs3:=fun u v0 v1=>hset.out u v0 v1
  (refine wpAnyH_ready (rs:=[7]) (by kernel_rfl) (by simp) ?_)
  (refine consL rfl (fun K hK=>?_))
  ((rw [if_pos (by rfl)]);go_simp;refine hK.out _ _ ⟨(World.cell?_of_block (hs3 _ _ _ _ b1)).trans gt2,(World.cell?_of_block (hs3 _ _ _ _ b2)).trans gl2,(World.cell?_of_block (hs3 _ _ _ _ b3)).trans gp2,(World.cell?_of_block (hs3 _ _ _ _ b4)).trans m0,(World.cell?_of_block (hs3 _ _ _ _ b4)).trans m1⟩ (fun hHeld=>?_))
  (clear hK K)
  (try simp only [Act.put,List.setIfInBounds_toArray,List.set_cons_zero,List.set_cons_succ])
  (refine wpAnyH_done (by kernel_rfl) ?_ _)
  go_wp2_with fail
  obtain ⟨hbe,hze⟩:=hend.out (.int .i64 a) (.int .i64 low) (.int .i64 0)
  obtain ⟨e0,e1,e2⟩:=box3 hze
  exact bodyPost_ret (v:=.agg #[.int .i64 a,.int .i64 low,.int .i64 0]) (by simp [results,Tryz.results124,go_sem,e0,e1,e2]) rfl ⟨by simp [encVN,L.chR],hbe⟩
 ·have d0:((i:Int) == (n:Int)) = false:=by simp;omega
  by_cases hj:i = low
  ·subst hj
   have d1:((i:Int) == (i:Int)) = true:=by simp
   go_enter Tryz.func124,Tryz.ntmps124
   go_wp2_with fail
   rw [←hW2.out]
   clear ga1 gl1
   (refine wp_region_held_drew (S:=(fun w'=>w'.cell? ⟨pt,0,none⟩ = some (.slice (some ⟨b,o,none⟩) t.length cap)∧w'.cell? ⟨pl,0,none⟩ = some (.int .i64 (i:Nat))∧w'.cell? ⟨pp,1,none⟩ = some (.int .i64 c)∧w'.cell? ⟨b,o+i * 3,none⟩ = some (.int .i64 a)∧w'.cell? ⟨b,o+i * 3+1,none⟩ = some (.int .i64 bb))) (by kernel_rfl) ?_ (fun hHeld=>?_))
   ·exact ⟨gt2,gl2,gp2,m0,m1⟩
   (refine takeL (i:=0) (v:=?_) rfl (by kernel_rfl) (by kernel_rfl) (by kernel_rfl) (fun _ _ _ h=>h) (Or.inl ⟨by rfl,?_⟩) (by assumption) ?_)
   rotate_left
   ·(intro w hSw;(try dsimp only at hSw);go_simp;first | done | with_reducible rfl)
   (try simp only [Act.put,List.setIfInBounds_toArray,List.set_cons_zero,List.set_cons_succ])
   (refine takeL (i:=1) (v:=?_) rfl (by kernel_rfl) (by kernel_rfl) (by kernel_rfl) (fun _ _ _ h=>h) (Or.inl ⟨by rfl,?_⟩) (by assumption) ?_)
   rotate_left
   ·(intro w hSw;(try dsimp only at hSw);go_simp;first | done | with_reducible rfl)
   (try simp only [Act.put,List.setIfInBounds_toArray,List.set_cons_zero,List.set_cons_succ])
   (refine takeL (i:=2) (v:=?_) rfl (by kernel_rfl) (by kernel_rfl) (by kernel_rfl) (fun _ _ _ h=>h) (Or.inl ⟨by rfl,?_⟩) (by assumption) ?_)
   rotate_left
   ·(intro w hSw;(try dsimp only at hSw);go_simp;first | done | with_reducible rfl)
   (try simp only [Act.put,List.setIfInBounds_toArray,List.set_cons_zero,List.set_cons_succ])
   (refine takeL (i:=3) (v:=?_) rfl (by kernel_rfl) (by kernel_rfl) (by kernel_rfl) (fun _ _ _ h=>h) (Or.inl ⟨by rfl,?_⟩) (by assumption) ?_)
   rotate_left
   ·(intro w hSw;(try dsimp only at hSw);go_simp;first | done | with_reducible rfl)
   (try simp only [Act.put,List.setIfInBounds_toArray,List.set_cons_zero,List.set_cons_succ])
   (refine takeL (i:=4) (v:=?_) rfl (by kernel_rfl) (by kernel_rfl) (by kernel_rfl) (fun _ _ _ h=>h) (Or.inl ⟨by rfl,?_⟩) (by assumption) ?_)
   rotate_left
   ·(intro w hSw;(try dsimp only at hSw);go_simp;first | done | with_reducible rfl)
   (try simp only [Act.put,List.setIfInBounds_toArray,List.set_cons_zero,List.set_cons_succ])
   (refine takeL (i:=5) (v:=?_) rfl (by kernel_rfl) (by kernel_rfl) (by kernel_rfl) (fun _ _ _ h=>h) (Or.inl ⟨by rfl,?_⟩) (by assumption) ?_)
   rotate_left
   ·(intro w hSw;(try dsimp only at hSw);go_simp;first | done | with_reducible rfl)
   (try simp only [Act.put,List.setIfInBounds_toArray,List.set_cons_zero,List.set_cons_succ])
   (refine takeL (i:=6) (v:=?_) rfl (by kernel_rfl) (by kernel_rfl) (by kernel_rfl) (fun _ _ _ h=>h) (Or.inl ⟨by rfl,?_⟩) (by assumption) ?_)
   rotate_left
   ·(intro w hSw;(try dsimp only at hSw);go_simp;first | done | with_reducible rfl)
   (try simp only [Act.put,List.setIfInBounds_toArray,List.set_cons_zero,List.set_cons_succ])
   (refine takeL (i:=7) (v:=?_) rfl (by kernel_rfl) (by kernel_rfl) (by kernel_rfl) (fun _ _ _ h=>h) (Or.inl ⟨by rfl,?_⟩) (by assumption) ?_)
   rotate_left
   ·(intro w hSw;(try dsimp only at hSw);go_simp;first | done | with_reducible rfl)
   (try simp only [Act.put,List.setIfInBounds_toArray,List.set_cons_zero,List.set_cons_succ])
   have hs3:=fun u v0 v1=>hset.out u v0 v1
   (refine wpAnyH_ready (rs:=[8]) (by kernel_rfl) (by simp) ?_)
   (refine consL rfl (fun K hK=>?_))
   ((rw [if_pos (by rfl)]);go_simp;refine hK.out _ _ ⟨(World.cell?_of_block (hs3 _ _ _ _ b1)).trans gt2,(World.cell?_of_block (hs3 _ _ _ _ b2)).trans gl2,(World.cell?_of_block (hs3 _ _ _ _ b3)).trans gp2,(World.cell?_of_block (hs3 _ _ _ _ b4)).trans m0,(World.cell?_of_block (hs3 _ _ _ _ b4)).trans m1⟩ (fun hHeld=>?_))
   (clear hK K)
   (try simp only [Act.put,List.setIfInBounds_toArray,List.set_cons_zero,List.set_cons_succ])
   (refine wpAnyH_done (by kernel_rfl) ?_ _)
   go_wp2_with fail
   obtain ⟨hbe,hze⟩:=hend.out (.int .i64 bb) (.int .i64 c) (.int .i64 0)
   obtain ⟨e0,e1,e2⟩:=box3 hze
   exact bodyPost_ret (v:=.agg #[.int .i64 bb,.int .i64 c,.int .i64 0]) (by simp [results,Tryz.results124,go_sem,e0,e1,e2]) rfl ⟨by simp [encVN,L.chR,hi],hbe⟩
  ·have d1:((i:Int) == (low:Int)) = false:=by simp;omega
   go_enter Tryz.func124,Tryz.ntmps124
   go_wp2_with fail
   obtain ⟨h1,_,h3⟩:=two_boxes W #[.int .i64 yl,.int .i64 yr,.int .i64 yv] #[.int .i64 yl,.int .i64 yr,.int .i64 yv] 78 78
   obtain ⟨e0,e1,e2⟩:=box3 h3
   exact bodyPost_ret (v:=.agg #[.int .i64 yl,.int .i64 yr,.int .i64 yv]) (by simp [results,Tryz.results124,go_sem,e0,e1,e2]) rfl ⟨by simp [encVN,L.chR,hi,hj],h1⟩
set_option maxRecDepth 100000 in
set_option maxHeartbeats 2000000 in
theorem left_chg {w:World} {t:List VN} {b o cap n low pa pt pl pp:Nat} {x:VN} {a bb c:Int} (ht:TreeAt w b o t) (hpa:w.cell? ⟨pa,0,none⟩ = some (.int .i64 (n:Nat))) (hpt:w.cell? ⟨pt,0,none⟩ = some (.slice (some ⟨b,o,none⟩) t.length cap)) (hpl:w.cell? ⟨pl,0,none⟩ = some (.int .i64 (low:Nat)))
  (hpp:w.cell? ⟨pp,0,none⟩ = some (.int .i64 a)) (hx:t[low]? = some x) (x1:x.left = bb) (x2:x.right = c):ChgLaw w t 125 #[.pointer (some ⟨pa,0,none⟩),.pointer (some ⟨pl,0,none⟩),.pointer (some ⟨pt,0,none⟩),.pointer (some ⟨pp,0,none⟩)] (L.chL n low a bb c):=by
 refine ⟨fun c w=>by simp [go_sem,Tryz.func125],fun i y hy hl W hW=>?_⟩
 obtain ⟨hlw,rfl⟩:=List.getElem?_eq_some_iff.1 hx
 obtain ⟨n0,n1,n2⟩:=(ht.below hW).node hlw
 rw [x1] at n0
 rw [x2] at n1
 have ga:=(hW.cell (World.block_lt_of_cell? w _ hpa)).trans hpa
 have gt:=(hW.cell (World.block_lt_of_cell? w _ hpt)).trans hpt
 have gl:=(hW.cell (World.block_lt_of_cell? w _ hpl)).trans hpl
 have gp:=(hW.cell (World.block_lt_of_cell? w _ hpp)).trans hpp
 have l0:(0:Int)≤low:=by omega
 have l1:(low:Int) < t.length:=by omega
 obtain ⟨yl,yr,yv⟩:=y
 show Calls Tryz.prog 125 #[.int .i64 (i:Int),.agg #[.int .i64 yl,.int .i64 yr,.int .i64 yv],.pointer (some ⟨pa,0,none⟩),.pointer (some ⟨pl,0,none⟩),.pointer (some ⟨pt,0,none⟩),.pointer (some ⟨pp,0,none⟩)] W _
 obtain ⟨hb2,_,hz⟩:=two_boxes W #[.int .i64 yl,.int .i64 yr,.int .i64 yv] #[.int .i64 0,.int .i64 0,.int .i64 0] 78 78
 have hx2:=((Ext.refl W).alloc (.cells #[.int .i64 yl,.int .i64 yr,.int .i64 yv] 78)).alloc (.cells #[.int .i64 0,.int .i64 0,.int .i64 0] 78)
 have ga1:=hx2.cell ga
 have gl1:=hx2.cell gl
 obtain ⟨W2,hW2⟩:∃ W2,W2 = (W.alloc (.cells #[.int .i64 yl,.int .i64 yr,.int .i64 yv] 78)).alloc (.cells #[.int .i64 0,.int .i64 0,.int .i64 0] 78):=⟨_,rfl⟩
 rw [←hW2] at hb2 hz hx2
 have ga2:=hx2.cell ga
 have gt2:=hx2.cell gt
 have gl2:=hx2.cell gl
 have gp2:=hx2.cell gp
 have m0:=hx2.cell n0
 have m1:=hx2.cell n1
 have b1:=World.block_lt_of_cell? W _ gt
 have b2:=World.block_lt_of_cell? W _ gl
 have b3:=World.block_lt_of_cell? W _ gp
 have b4:=World.block_lt_of_cell? W _ n0
 obtain ⟨z0,z1,z2⟩:=box3 hz
 have f0:W2.frozen? ⟨W.heap.size+1,0,none⟩ = false:=by simp [World.frozen?,hz]
 have f1:W2.frozen? ⟨W.heap.size+1,1,none⟩ = false:=by simp [World.frozen?,hz]
 have f2:W2.frozen? ⟨W.heap.size+1,2,none⟩ = false:=by simp [World.frozen?,hz]
 simp only at b1 b2 b3 b4
 have hset:∀ u v0 v1:Value,∀ k,k < W.heap.size→(((W2.setCell ⟨W.heap.size+1,0,none⟩ u).setCell ⟨W.heap.size+1,1,none⟩ v0).setCell ⟨W.heap.size+1,2,none⟩ v1).heap[k]? = W2.heap[k]?:=fun u v0 v1 k hk=>by
  rw [heap_far _ _ (by omega),heap_far _ _ (by omega),heap_far _ _ (by omega)]
 have hend:∀ u0 u1 u2:Value,Below W.heap.size W (((W2.setCell ⟨W.heap.size+1,0,none⟩ u0).setCell ⟨W.heap.size+1,1,none⟩ u1).setCell ⟨W.heap.size+1,2,none⟩ u2).drew∧(((W2.setCell ⟨W.heap.size+1,0,none⟩ u0).setCell ⟨W.heap.size+1,1,none⟩ u1).setCell ⟨W.heap.size+1,2,none⟩ u2).drew.heap[W.heap.size+1]? = some (.cells #[u0,u1,u2] 78 (0,0)):=fun u0 u1 u2=>by
  have h1:=((hb2.setCell (p:=⟨W.heap.size+1,0,none⟩) (Nat.le_succ _) u0).setCell (p:=⟨W.heap.size+1,1,none⟩) (Nat.le_succ _) u1).setCell (p:=⟨W.heap.size+1,2,none⟩) (Nat.le_succ _) u2
  exact ⟨h1.trans ((Below.refl _ _).drew.mono h1.size),heap_set (heap_set (heap_set hz 0 u0) 1 u1) 2 u2⟩
 replace hset:=Lib.hid hset
 replace hend:=Lib.hid hend
 replace hW2:=Lib.hid hW2
 replace hz:=Lib.hid hz
 by_cases hi:i = n
 ·subst hi
  have d0:((i:Int) == (i:Int)) = true:=by simp
  go_enter Tryz.func125,Tryz.ntmps125
  go_wp2_with fail
  rw [←hW2.out]
  clear ga1 gl1
  (refine wp_region_held_drew (S:=(fun w'=>w'.cell? ⟨pt,0,none⟩ = some (.slice (some ⟨b,o,none⟩) t.length cap)∧w'.cell? ⟨pl,0,none⟩ = some (.int .i64 (low:Nat))∧w'.cell? ⟨pp,0,none⟩ = some (.int .i64 a)∧w'.cell? ⟨b,o+low * 3,none⟩ = some (.int .i64 bb)∧w'.cell? ⟨b,o+low * 3+1,none⟩ = some (.int .i64 c))) (by kernel_rfl) ?_ (fun hHeld=>?_))
  ·exact ⟨gt2,gl2,gp2,m0,m1⟩
  (refine takeL (i:=0) (v:=?_) rfl (by kernel_rfl) (by kernel_rfl) (by kernel_rfl) (fun _ _ _ h=>h) (Or.inl ⟨by rfl,?_⟩) (by assumption) ?_)
  rotate_left
  ·(intro w hSw;(try dsimp only at hSw);go_simp;first | done | with_reducible rfl)
  (try simp only [Act.put,List.setIfInBounds_toArray,List.set_cons_zero,List.set_cons_succ])
  (refine takeL (i:=1) (v:=?_) rfl (by kernel_rfl) (by kernel_rfl) (by kernel_rfl) (fun _ _ _ h=>h) (Or.inl ⟨by rfl,?_⟩) (by assumption) ?_)
  rotate_left
  ·(intro w hSw;(try dsimp only at hSw);go_simp;first | done | with_reducible rfl)
  (try simp only [Act.put,List.setIfInBounds_toArray,List.set_cons_zero,List.set_cons_succ])
  (refine takeL (i:=2) (v:=?_) rfl (by kernel_rfl) (by kernel_rfl) (by kernel_rfl) (fun _ _ _ h=>h) (Or.inl ⟨by rfl,?_⟩) (by assumption) ?_)
  rotate_left
  ·(intro w hSw;(try dsimp only at hSw);go_simp;first | done | with_reducible rfl)
  (try simp only [Act.put,List.setIfInBounds_toArray,List.set_cons_zero,List.set_cons_succ])
  (refine takeL (i:=3) (v:=?_) rfl (by kernel_rfl) (by kernel_rfl) (by kernel_rfl) (fun _ _ _ h=>h) (Or.inl ⟨by rfl,?_⟩) (by assumption) ?_)
  rotate_left
  ·(intro w hSw;(try dsimp only at hSw);go_simp;first | done | with_reducible rfl)
  (try simp only [Act.put,List.setIfInBounds_toArray,List.set_cons_zero,List.set_cons_succ])
  (refine takeL (i:=4) (v:=?_) rfl (by kernel_rfl) (by kernel_rfl) (by kernel_rfl) (fun _ _ _ h=>h) (Or.inl ⟨by rfl,?_⟩) (by assumption) ?_)
  rotate_left
  ·(intro w hSw;(try dsimp only at hSw);go_simp;first | done | with_reducible rfl)
  (try simp only [Act.put,List.setIfInBounds_toArray,List.set_cons_zero,List.set_cons_succ])
  (refine takeL (i:=5) (v:=?_) rfl (by kernel_rfl) (by kernel_rfl) (by kernel_rfl) (fun _ _ _ h=>h) (Or.inl ⟨by rfl,?_⟩) (by assumption) ?_)
  rotate_left
  ·(intro w hSw;(try dsimp only at hSw);go_simp;first | done | with_reducible rfl)
  (try simp only [Act.put,List.setIfInBounds_toArray,List.set_cons_zero,List.set_cons_succ])
  (refine takeL (i:=6) (v:=?_) rfl (by kernel_rfl) (by kernel_rfl) (by kernel_rfl) (fun _ _ _ h=>h) (Or.inl ⟨by rfl,?_⟩) (by assumption) ?_)
  rotate_left
  ·(intro w hSw;(try dsimp only at hSw);go_simp;first | done | with_reducible rfl)
  (try simp only [Act.put,List.setIfInBounds_toArray,List.set_cons_zero,List.set_cons_succ])
  have hs3:=fun u v0 v1=>hset.out u v0 v1
  (refine wpAnyH_ready (rs:=[7]) (by kernel_rfl) (by simp) ?_)
  (refine consL rfl (fun K hK=>?_))
  ((rw [if_pos (by rfl)]);go_simp;refine hK.out _ _ ⟨(World.cell?_of_block (hs3 _ _ _ _ b1)).trans gt2,(World.cell?_of_block (hs3 _ _ _ _ b2)).trans gl2,(World.cell?_of_block (hs3 _ _ _ _ b3)).trans gp2,(World.cell?_of_block (hs3 _ _ _ _ b4)).trans m0,(World.cell?_of_block (hs3 _ _ _ _ b4)).trans m1⟩ (fun hHeld=>?_))
  (clear hK K)
  (try simp only [Act.put,List.setIfInBounds_toArray,List.set_cons_zero,List.set_cons_succ])
  (refine wpAnyH_done (by kernel_rfl) ?_ _)
  go_wp2_with fail
  obtain ⟨hbe,hze⟩:=hend.out (.int .i64 low) (.int .i64 c) (.int .i64 0)
  obtain ⟨e0,e1,e2⟩:=box3 hze
  exact bodyPost_ret (v:=.agg #[.int .i64 low,.int .i64 c,.int .i64 0]) (by simp [results,Tryz.results125,go_sem,e0,e1,e2]) rfl ⟨by simp [encVN,L.chL],hbe⟩
 ·have d0:((i:Int) == (n:Int)) = false:=by simp;omega
  by_cases hj:i = low
  ·subst hj
   have d1:((i:Int) == (i:Int)) = true:=by simp
   go_enter Tryz.func125,Tryz.ntmps125
   go_wp2_with fail
   rw [←hW2.out]
   clear ga1 gl1
   (refine wp_region_held_drew (S:=(fun w'=>w'.cell? ⟨pt,0,none⟩ = some (.slice (some ⟨b,o,none⟩) t.length cap)∧w'.cell? ⟨pl,0,none⟩ = some (.int .i64 (i:Nat))∧w'.cell? ⟨pp,0,none⟩ = some (.int .i64 a)∧w'.cell? ⟨b,o+i * 3,none⟩ = some (.int .i64 bb)∧w'.cell? ⟨b,o+i * 3+1,none⟩ = some (.int .i64 c))) (by kernel_rfl) ?_ (fun hHeld=>?_))
   ·exact ⟨gt2,gl2,gp2,m0,m1⟩
   (refine takeL (i:=0) (v:=?_) rfl (by kernel_rfl) (by kernel_rfl) (by kernel_rfl) (fun _ _ _ h=>h) (Or.inl ⟨by rfl,?_⟩) (by assumption) ?_)
   rotate_left
   ·(intro w hSw;(try dsimp only at hSw);go_simp;first | done | with_reducible rfl)
   (try simp only [Act.put,List.setIfInBounds_toArray,List.set_cons_zero,List.set_cons_succ])
   (refine takeL (i:=1) (v:=?_) rfl (by kernel_rfl) (by kernel_rfl) (by kernel_rfl) (fun _ _ _ h=>h) (Or.inl ⟨by rfl,?_⟩) (by assumption) ?_)
   rotate_left
   ·(intro w hSw;(try dsimp only at hSw);go_simp;first | done | with_reducible rfl)
   (try simp only [Act.put,List.setIfInBounds_toArray,List.set_cons_zero,List.set_cons_succ])
   (refine takeL (i:=2) (v:=?_) rfl (by kernel_rfl) (by kernel_rfl) (by kernel_rfl) (fun _ _ _ h=>h) (Or.inl ⟨by rfl,?_⟩) (by assumption) ?_)
   rotate_left
   ·(intro w hSw;(try dsimp only at hSw);go_simp;first | done | with_reducible rfl)
   (try simp only [Act.put,List.setIfInBounds_toArray,List.set_cons_zero,List.set_cons_succ])
   (refine takeL (i:=3) (v:=?_) rfl (by kernel_rfl) (by kernel_rfl) (by kernel_rfl) (fun _ _ _ h=>h) (Or.inl ⟨by rfl,?_⟩) (by assumption) ?_)
   rotate_left
   ·(intro w hSw;(try dsimp only at hSw);go_simp;first | done | with_reducible rfl)
   (try simp only [Act.put,List.setIfInBounds_toArray,List.set_cons_zero,List.set_cons_succ])
   (refine takeL (i:=4) (v:=?_) rfl (by kernel_rfl) (by kernel_rfl) (by kernel_rfl) (fun _ _ _ h=>h) (Or.inl ⟨by rfl,?_⟩) (by assumption) ?_)
   rotate_left
   ·(intro w hSw;(try dsimp only at hSw);go_simp;first | done | with_reducible rfl)
   (try simp only [Act.put,List.setIfInBounds_toArray,List.set_cons_zero,List.set_cons_succ])
   (refine takeL (i:=5) (v:=?_) rfl (by kernel_rfl) (by kernel_rfl) (by kernel_rfl) (fun _ _ _ h=>h) (Or.inl ⟨by rfl,?_⟩) (by assumption) ?_)
   rotate_left
   ·(intro w hSw;(try dsimp only at hSw);go_simp;first | done | with_reducible rfl)
   (try simp only [Act.put,List.setIfInBounds_toArray,List.set_cons_zero,List.set_cons_succ])
   (refine takeL (i:=6) (v:=?_) rfl (by kernel_rfl) (by kernel_rfl) (by kernel_rfl) (fun _ _ _ h=>h) (Or.inl ⟨by rfl,?_⟩) (by assumption) ?_)
   rotate_left
   ·(intro w hSw;(try dsimp only at hSw);go_simp;first | done | with_reducible rfl)
   (try simp only [Act.put,List.setIfInBounds_toArray,List.set_cons_zero,List.set_cons_succ])
   (refine takeL (i:=7) (v:=?_) rfl (by kernel_rfl) (by kernel_rfl) (by kernel_rfl) (fun _ _ _ h=>h) (Or.inl ⟨by rfl,?_⟩) (by assumption) ?_)
   rotate_left
   ·(intro w hSw;(try dsimp only at hSw);go_simp;first | done | with_reducible rfl)
   (try simp only [Act.put,List.setIfInBounds_toArray,List.set_cons_zero,List.set_cons_succ])
   have hs3:=fun u v0 v1=>hset.out u v0 v1
   (refine wpAnyH_ready (rs:=[8]) (by kernel_rfl) (by simp) ?_)
   (refine consL rfl (fun K hK=>?_))
   ((rw [if_pos (by rfl)]);go_simp;refine hK.out _ _ ⟨(World.cell?_of_block (hs3 _ _ _ _ b1)).trans gt2,(World.cell?_of_block (hs3 _ _ _ _ b2)).trans gl2,(World.cell?_of_block (hs3 _ _ _ _ b3)).trans gp2,(World.cell?_of_block (hs3 _ _ _ _ b4)).trans m0,(World.cell?_of_block (hs3 _ _ _ _ b4)).trans m1⟩ (fun hHeld=>?_))
   (clear hK K)
   (try simp only [Act.put,List.setIfInBounds_toArray,List.set_cons_zero,List.set_cons_succ])
   (refine wpAnyH_done (by kernel_rfl) ?_ _)
   go_wp2_with fail
   obtain ⟨hbe,hze⟩:=hend.out (.int .i64 a) (.int .i64 bb) (.int .i64 0)
   obtain ⟨e0,e1,e2⟩:=box3 hze
   exact bodyPost_ret (v:=.agg #[.int .i64 a,.int .i64 bb,.int .i64 0]) (by simp [results,Tryz.results125,go_sem,e0,e1,e2]) rfl ⟨by simp [encVN,L.chL,hi],hbe⟩
  ·have d1:((i:Int) == (low:Int)) = false:=by simp;omega
   go_enter Tryz.func125,Tryz.ntmps125
   go_wp2_with fail
   obtain ⟨h1,_,h3⟩:=two_boxes W #[.int .i64 yl,.int .i64 yr,.int .i64 yv] #[.int .i64 yl,.int .i64 yr,.int .i64 yv] 78 78
   obtain ⟨e0,e1,e2⟩:=box3 h3
   exact bodyPost_ret (v:=.agg #[.int .i64 yl,.int .i64 yr,.int .i64 yv]) (by simp [results,Tryz.results125,go_sem,e0,e1,e2]) rfl ⟨by simp [encVN,L.chL,hi,hj],h1⟩
end Go.Proofs.YtemnmcfmabamcaaGreatDoor
