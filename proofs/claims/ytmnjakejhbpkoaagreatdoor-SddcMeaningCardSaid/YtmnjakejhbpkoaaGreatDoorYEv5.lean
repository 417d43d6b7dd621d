import Derived.Test.YtmnjakejhbpkoaaGreatDoorYCf
import Derived.Test.YtmnjakejhbpkoaaGreatDoorYThy2
import Derived.Test.YtmnjakejhbpkoaaGreatDoorYThy
set_option linter.unusedSimpArgs false
set_option linter.unusedVariables false
namespace Go.Proofs.YtmnjakejhbpkoaaGreatDoor
open Go Go.RowKit Go.Shelf
theorem vset_of {a b:Int} (ha:0≤a∧a≤18446744073709551615) (hb:0≤b∧b≤18446744073709551615):∃ x:VSet,lo x = a∧hi x = b:=by
 refine ⟨BitVec.ofNat 128 (b.toNat * 18446744073709551616+a.toNat),?_,?_⟩
 ·simp only [lo,BitVec.toNat_setWidth,BitVec.toNat_ofNat];omega
 ·simp only [hi,BitVec.toNat_setWidth,BitVec.toNat_ofNat,BitVec.toNat_ushiftRight,Nat.shiftRight_eq_div_pow];omega
def allK:Nat→VSet
 | 0=>0
 | k+1=>withS (allK k) ((k:Int)+1)
theorem hasS_allK (v:Int):∀ n,n≤128→(hasS (allK n) v = true↔1≤v∧v≤n)
 | 0,_=>by
   rw [allK,L.hasS_zero]
   exact ⟨fun h=>(by cases h),fun h=>by omega⟩
 | n+1,hn=>by
   rw [allK,L.hasS_with,Bool.or_eq_true,hasS_allK v n (by omega)]
   simp only [Bool.and_eq_true,decide_eq_true_eq]
   omega
set_option maxRecDepth 100000 in
set_option maxHeartbeats 1000000 in
theorem all_any (n:Nat) (hn:n≤128) (w:World):Calls Tryz.prog 47 #[.int .i64 (n:Nat)] w fun e w'=>e = .returned (.agg #[.int .u64 (lo (allK n)),.int .u64 (hi (allK n))])∧Ext w w':=by
 have hmin:min (n:Int) 128 = n:=by omega
 go_enter Tryz.func47,Tryz.ntmps47
 go_wp2_with fail
 go_loopw [4] (fun i wr=>∃ k:Nat,k≤n∧i = .int .i64 ((k:Int)+1)∧(wr.heap[w.heap.size+1]? = some (.cells #[.int .u64 (lo (allK k)),.int .u64 (hi (allK k))] 41 (0,0))∧wr.heap[w.heap.size]? = some (.cells #[.int .u64 0,.int .u64 0] 41 (0,0))∧Ext w wr))
  (fun i _=>n+1 - (intOf i).toNat)
 case atStart =>
  refine ⟨0,Nat.zero_le _,rfl,?_,?_,((Ext.refl w).alloc _).alloc _⟩
  ·have:=heap_alloc_new (w.alloc (.cells #[.int .u64 0,.int .u64 0] 41)) (.cells #[.int .u64 0,.int .u64 0] 41)
   rw [World.size_alloc] at this
   exact this
  ·exact (Below.heap_alloc _ _ _ (by simp)).trans (heap_alloc_new w _)
 case round =>
  obtain ⟨k,hk,rfl,hH,hz,hx⟩:=hrel
  have c0:wr.cell? ⟨w.heap.size+1,0,none⟩ = some (.int .u64 (lo (allK k))):=by simp [World.cell?,hH]
  have c1:wr.cell? ⟨w.heap.size+1,1,none⟩ = some (.int .u64 (hi (allK k))):=by simp [World.cell?,hH]
  have z0:wr.cell? ⟨w.heap.size,0,none⟩ = some (.int .u64 0):=by simp [World.cell?,hz]
  have z1:wr.cell? ⟨w.heap.size,1,none⟩ = some (.int .u64 0):=by simp [World.cell?,hz]
  have y0:wr.frozen? ⟨w.heap.size,0,none⟩ = false:=by simp [World.frozen?,hz]
  have y1:wr.frozen? ⟨w.heap.size,1,none⟩ = false:=by simp [World.frozen?,hz]
  by_cases hlt:k < n
  ·have ht:Hid (allK (k+1) = withS (allK k) ((k:Int)+1)):=Lib.hid rfl
   have d0:decide ((k:Int)+1≤min (n:Int) 128) = true:=decide_eq_true (by omega)
   have d1:decide ((k:Int)+1≤n) = true:=decide_eq_true (by omega)
   have hsz:w.heap.size+1 < wr.heap.size:=World.block_lt_of_cell? wr _ c0
   clear z0 z1 y0 y1
   replace hz:=Lib.hid hz
   replace hH:=Lib.hid hH
   have hw:=with_any (allK k) ((k:Int)+1) wr
   unfold encS at hw
   generalize allK k = s at *
   go_wp2_with (go_at_call 113;refine hw.mono ?_;rintro e w2 ⟨rfl,hx2⟩;have b0:=hx2.cell c0;have b1:=hx2.cell c1;have q0:=(World.frozen?_of_block (a:=⟨w.heap.size+1,0,none⟩) (hx2.below.block _ hsz)).trans (show wr.frozen? ⟨w.heap.size+1,0,none⟩ = false from by simp [World.frozen?,hH.out]);have q1:=(World.frozen?_of_block (a:=⟨w.heap.size+1,1,none⟩) (hx2.below.block _ hsz)).trans (show wr.frozen? ⟨w.heap.size+1,1,none⟩ = false from by simp [World.frozen?,hH.out]))
   go_roundw
   case rel =>
    have hh2:=(hx2.below.block _ hsz).trans hH.out
    refine ⟨k+1,by omega,by go_num,?_,?_,((hx.trans hx2).setCell (by simp) _).setCell (by simp) _⟩
    ·rw [ht.out]
     exact heap_set2 hh2 _ _
    ·exact ((Below.heap_setCell _ _ _ _ (by simp)).trans (Below.heap_setCell _ _ _ _ (by simp))).trans ((hx2.below.block _ (by omega)).trans hz.out)
   case measure=>simp [intOf];omega
  ·obtain rfl:k = n:=by omega
   have d0:decide ((k:Int)+1≤min (k:Int) 128) = false:=decide_eq_false (by omega)
   have d1:decide ((k:Int)+1≤k) = false:=decide_eq_false (by omega)
   replace hz:=Lib.hid hz
   replace hH:=Lib.hid hH
   have hsz:w.heap.size+1 < wr.heap.size:=World.block_lt_of_cell? wr _ c0
   have r0:((wr.setCell ⟨w.heap.size,0,none⟩ (.int .u64 (lo (allK k)))).setCell ⟨w.heap.size,1,none⟩ (.int .u64 (hi (allK k)))).cell? ⟨w.heap.size,0,none⟩ = some (.int .u64 (lo (allK k))):=by
    rw [World.cell?,heap_set2 hz.out];rfl
   have r1:((wr.setCell ⟨w.heap.size,0,none⟩ (.int .u64 (lo (allK k)))).setCell ⟨w.heap.size,1,none⟩ (.int .u64 (hi (allK k)))).cell? ⟨w.heap.size,1,none⟩ = some (.int .u64 (hi (allK k))):=by
    rw [World.cell?,heap_set2 hz.out];rfl
   go_wp2_with fail
   exact bodyPost_ret (v:=encS (allK k)) (by simp [results,Tryz.results47,go_sem,r0,r1,encS]) rfl ⟨rfl,(hx.setCell (by simp) _).setCell (by simp) _⟩
set_option maxHeartbeats 400000 in
theorem cut_any (a b:VSet) (w:World):Calls Tryz.prog 46 #[.agg #[.int .u64 (lo a),.int .u64 (hi a)],.agg #[.int .u64 (lo b),.int .u64 (hi b)]] w fun e w'=>e = .returned (.agg #[.int .u64 (lo (a &&& b)),.int .u64 (hi (a &&& b))])∧Ext w w':=by
 go_enter Tryz.func46,Tryz.ntmps46
 go_wp2
 go_returns
 exact ⟨by simp [and_lo,and_hi],⟨by go_grown,Nat.le_refl _⟩⟩
theorem hasS_and (a b:VSet) (v:Int):hasS (a &&& b) v = (hasS a v && hasS b v):=by
 unfold hasS
 rw [BitVec.getLsbD_and]
 cases decide (1≤v) <;> cases decide (v≤128) <;> simp
set_option maxRecDepth 100000 in
set_option maxHeartbeats 2000000 in
theorem holds_any {n l:Int} (hn:n≤128) (h:L.validB n l = true) (a:VSet) (w:World):Calls Tryz.prog 139 #[.agg #[.int .u64 (lo a),.int .u64 (hi a)],.int .i64 l] w fun e w'=>e = .returned (.bool (L.liφ l (L.asg a)))∧Ext w w':=by
 have hr:=L.validB_range hn h
 have hvf:=varF_valid hn h
 have qv:=fun W=>var_any l W
 rw [hvf] at qv
 have qh:=fun W=>has_any a (l.natAbs:Int) W (by omega) (by omega)
 unfold encS at qh
 have e0:=heap_alloc_new w (.cells #[.int .u64 (lo a),.int .u64 (hi a)] 41)
 have hx1:Ext w (w.alloc (.cells #[.int .u64 (lo a),.int .u64 (hi a)] 41)):=(Ext.refl w).alloc _
 obtain ⟨w1,hw1⟩:∃ w1,w1 = w.alloc (.cells #[.int .u64 (lo a),.int .u64 (hi a)] 41):=⟨_,rfl⟩
 rw [←hw1] at e0 hx1
 obtain ⟨c0,c1⟩:=pbox_cells e0
 have d0:(((l.natAbs:Int)) != 0) = true:=by simp;omega
 have hres:(hasS a (l.natAbs:Int) == decide (0 < l)) = L.liφ l (L.asg a):=rfl
 have hg:decide (l > 0) = decide (0 < l):=rfl
 generalize hB:decide (0 < l) = B at *
 generalize (l.natAbs:Int) = V at *
 replace hvf:=Lib.hid hvf
 replace hr:=Lib.hid hr
 replace h:=Lib.hid h
 replace qv:=Lib.hid qv
 replace qh:=Lib.hid qh
 replace hx1:=Lib.hid hx1
 replace e0:=Lib.hid e0
 go_enter Tryz.func139,Tryz.ntmps139
 go_wp2_with fail
 rw [←hw1]
 replace hw1:=Lib.hid hw1
 (refine wp_region_held_drew (S:=(fun V=>V.cell? ⟨w.heap.size,0,none⟩ = some (.int .u64 (lo a))∧V.cell? ⟨w.heap.size,1,none⟩ = some (.int .u64 (hi a)))) (by kernel_rfl) ?_ (fun hHeld=>?_))
 ·exact ⟨c0,c1⟩
 (refine takeL (i:=0) (v:=?_) rfl (by kernel_rfl) (by kernel_rfl) (by kernel_rfl) (fun _ _ _ h=>h) (Or.inl ⟨by rfl,?_⟩) (by assumption) ?_)
 rotate_left
 ·(intro w hSw;(try dsimp only at hSw);go_simp;first | done | with_reducible rfl)
 (try simp only [Act.put,List.setIfInBounds_toArray,List.set_cons_zero,List.set_cons_succ])
 (refine wpAnyH_ready (rs:=[1]) (by kernel_rfl) (by simp) ?_)
 (refine consL rfl (fun K hK=>?_))
 ((rw [if_pos (by rfl)]);go_simp;(go_at_call 143);refine (qv.out _).mono ?_;rintro e w2 ⟨rfl,rfl⟩;refine hK.out _ _ hHeld (fun hHeld=>?_))
 (clear hK K)
 (try simp only [Act.put,List.setIfInBounds_toArray,List.set_cons_zero,List.set_cons_succ])
 (refine takeL (i:=2) (v:=?_) rfl (by kernel_rfl) (by kernel_rfl) (by kernel_rfl) (fun _ _ _ h=>h) (Or.inl ⟨by rfl,?_⟩) (by assumption) ?_)
 rotate_left
 ·(intro w hSw;(try dsimp only at hSw);go_simp;first | done | with_reducible rfl)
 (try simp only [Act.put,List.setIfInBounds_toArray,List.set_cons_zero,List.set_cons_succ])
 (refine takeL (i:=3) (v:=?_) rfl (by kernel_rfl) (by kernel_rfl) (by kernel_rfl) (fun _ _ _ h=>h) (Or.inl ⟨by rfl,?_⟩) (by assumption) ?_)
 rotate_left
 ·(intro w hSw;(try dsimp only at hSw);go_simp;first | done | with_reducible rfl)
 (try simp only [Act.put,List.setIfInBounds_toArray,List.set_cons_zero,List.set_cons_succ])
 (refine takeL (i:=4) (v:=?_) rfl (by kernel_rfl) (by kernel_rfl) (by kernel_rfl) (fun _ _ _ h=>h) (Or.inl ⟨by rfl,?_⟩) (by assumption) ?_)
 rotate_left
 ·(intro w hSw;(try dsimp only at hSw);go_simp;first | done | with_reducible rfl)
 (try simp only [Act.put,List.setIfInBounds_toArray,List.set_cons_zero,List.set_cons_succ])
 (refine takeL (i:=5) (v:=?_) rfl (by kernel_rfl) (by kernel_rfl) (by kernel_rfl) (fun _ _ _ h=>h) (Or.inl ⟨by rfl,?_⟩) (by assumption) ?_)
 rotate_left
 ·(intro w hSw;(try dsimp only at hSw);go_simp;first | done | with_reducible rfl)
 (try simp only [Act.put,List.setIfInBounds_toArray,List.set_cons_zero,List.set_cons_succ])
 (refine takeL (i:=8) (v:=?_) rfl (by kernel_rfl) (by kernel_rfl) (by kernel_rfl) (fun _ _ _ h=>h) (Or.inl ⟨by rfl,?_⟩) (by assumption) ?_)
 rotate_left
 ·(intro w hSw;(try dsimp only at hSw);go_simp;first | done | with_reducible rfl)
 (try simp only [Act.put,List.setIfInBounds_toArray,List.set_cons_zero,List.set_cons_succ])
 (refine takeL (i:=9) (v:=?_) rfl (by kernel_rfl) (by kernel_rfl) (by kernel_rfl) (fun _ _ _ h=>h) (Or.inl ⟨by rfl,?_⟩) (by assumption) ?_)
 rotate_left
 ·(intro w hSw;(try dsimp only at hSw);go_simp;first | done | with_reducible rfl)
 (try simp only [Act.put,List.setIfInBounds_toArray,List.set_cons_zero,List.set_cons_succ])
 (refine wpAnyH_ready (rs:=[6]) (by kernel_rfl) (by simp) ?_)
 (refine consL rfl (fun K hK=>?_))
 ((rw [if_pos (by rfl)]);go_simp;(go_at_call 143);refine (qv.out _).mono ?_;rintro e w3 ⟨rfl,rfl⟩;refine hK.out _ _ hHeld (fun hHeld=>?_))
 (clear hK K)
 (try simp only [Act.put,List.setIfInBounds_toArray,List.set_cons_zero,List.set_cons_succ])
 (refine wpAnyH_ready (rs:=[7]) (by kernel_rfl) (by simp) ?_)
 (refine consL rfl (fun K hK=>?_))
 ((rw [if_pos (by rfl)]);go_simp;(go_at_call 114);refine (qh.out _).mono ?_;rintro e w4 ⟨rfl,hx4⟩;refine hK.out _ _ ⟨hx4.cell hHeld.1,hx4.cell hHeld.2⟩ (fun hHeld=>?_))
 (clear hK K)
 (try simp only [Act.put,List.setIfInBounds_toArray,List.set_cons_zero,List.set_cons_succ])
 (refine takeL (i:=10) (v:=?_) rfl (by kernel_rfl) (by kernel_rfl) (by kernel_rfl) (fun _ _ _ h=>h) (Or.inl ⟨by rfl,?_⟩) (by assumption) ?_)
 rotate_left
 ·(intro w hSw;(try dsimp only at hSw);go_simp;first | done | with_reducible rfl)
 (try simp only [Act.put,List.setIfInBounds_toArray,List.set_cons_zero,List.set_cons_succ])
 (refine takeL (i:=11) (v:=?_) rfl (by kernel_rfl) (by kernel_rfl) (by kernel_rfl) (fun _ _ _ h=>h) (Or.inl ⟨by rfl,?_⟩) (by assumption) ?_)
 rotate_left
 ·(intro w hSw;(try dsimp only at hSw);go_simp;first | done | with_reducible rfl)
 (try simp only [Act.put,List.setIfInBounds_toArray,List.set_cons_zero,List.set_cons_succ])
 (refine takeL (i:=12) (v:=?_) rfl (by kernel_rfl) (by kernel_rfl) (by kernel_rfl) (fun _ _ _ h=>h) (Or.inl ⟨by rfl,?_⟩) (by assumption) ?_)
 rotate_left
 ·(intro w hSw;(try dsimp only at hSw);go_simp;first | done | with_reducible rfl)
 (try simp only [Act.put,List.setIfInBounds_toArray,List.set_cons_zero,List.set_cons_succ])
 (refine wpAnyH_done (by kernel_rfl) ?_ _)
 clear hHeld
 go_wp2_with fail
 go_ret
 exact ⟨by rw [←hres] <;> rfl,hx1.out.trans ((Ext.refl _).drew.trans hx4)⟩
set_option maxRecDepth 100000 in
set_option maxHeartbeats 1000000 in
theorem any_any {n:Int} {c:List Int} (hn:n≤128) (hc:∀ l∈c,L.validB n l = true) (hl:c.length≤9223372036854775807) (a:VSet) {v:Value} {w:World} (hv:SlI w v c):Calls Tryz.prog 112 #[.agg #[.int .u64 (lo a),.int .u64 (hi a)],v] w fun e w'=>e = .returned (.bool (L.clφ c (L.asg a)))∧Ext w w':=by
 have e0:=heap_alloc_new w (.cells #[.int .u64 (lo a),.int .u64 (hi a)] 41)
 have hx1:Ext w (w.alloc (.cells #[.int .u64 (lo a),.int .u64 (hi a)] 41)):=(Ext.refl w).alloc _
 obtain ⟨w1,hw1⟩:∃ w1,w1 = w.alloc (.cells #[.int .u64 (lo a),.int .u64 (hi a)] 41):=⟨_,rfl⟩
 rw [←hw1] at e0 hx1
 have hmf:∀ (fn:Fn) (first cap:Array Value) (w:World),(Instr.makeFunc fn first cap).run Tryz.prog w = .ok (.func fn first cap) w:=fun _ _ _ _=>rfl
 have q:=containsFunc_any (fm:=173) (q:=.pointer (some ⟨w.heap.size,0,none⟩)) (fun c w=>by simp [go_sem,Tryz.func173]) (fun W=>Ext w1 W) (p:=fun l=>L.liφ l (L.asg a)) (l:=c) (v:=v) (w:=w1) (fun W hW=>(hv.ext hx1.below).ext hW.below) hl (Ext.refl _) (fun j hj W hW=>by
  have qh:=fun V=>holds_any hn (hc _ (List.getElem_mem hj)) a V
  generalize c[j] = x at *
  have c0:W.cell? ⟨w.heap.size,0,none⟩ = some (.int .u64 (lo a)):=hW.cell (pbox_cells e0).1
  have c1:W.cell? ⟨w.heap.size,1,none⟩ = some (.int .u64 (hi a)):=hW.cell (pbox_cells e0).2
  clear hc
  go_enter Tryz.func173,Tryz.ntmps173
  go_wp2_with fail
  refine (qh _).mono ?_
  rintro e w2 ⟨rfl,hx2⟩
  go_wp2_with fail
  go_ret
  exact ⟨rfl,hW.trans hx2⟩)
 have hres:(c.any fun l=>L.liφ l (L.asg a)) = L.clφ c (L.asg a):=rfl
 rw [hres] at q
 obtain ⟨ba,cp,rfl,_⟩:=hv
 generalize L.clφ c (L.asg a) = B at *
 clear hc hres
 go_enter Tryz.func112,Tryz.ntmps112
 go_wp2_with fail
 rw [←hw1]
 replace hw1:=Lib.hid hw1
 refine q.mono ?_
 rintro e w2 ⟨rfl,hx2⟩
 go_wp2_with fail
 go_ret
 exact ⟨rfl,hx1.trans hx2⟩
theorem thφ_take {T:List (List Int)} {x:L.Asg} {k:Nat} (hk:k < T.length):L.thφ (T.take (k+1)) x = (L.thφ (T.take k) x && L.clφ T[k] x):=by
 rw [List.take_succ_eq_append_getElem hk,L.thφ_snoc]
set_option maxRecDepth 100000 in
set_option maxHeartbeats 4000000 in
theorem thEval_any {n:Nat} {T:List (List Int)} {v:Value} {w:World} (hv:SlT w v T) (hok:L.thChk n T = 0) (a:VSet) (ha:∀ u,hasS a u = true→u≤n) :
  Calls Tryz.prog 45 #[.agg #[.int .i64 (n:Nat),v],.agg #[.int .u64 (lo a),.int .u64 (hi a)]] w fun e w'=>e = .returned (.bool (L.thφ T (L.asg a)))∧Ext w w':=by
 obtain ⟨⟨hn0,hn1⟩,hT,hall⟩:=L.thChk_ok.1 hok
 have e0:=alloc2h w (.cells #[.int .i64 (n:Nat),v] 24) (.cells #[.int .u64 (lo a),.int .u64 (hi a)] 41)
 have hx1:Ext w ((w.alloc (.cells #[.int .i64 (n:Nat),v] 24)).alloc (.cells #[.int .u64 (lo a),.int .u64 (hi a)] 41)):=((Ext.refl w).alloc _).alloc _
 obtain ⟨w1,hw1⟩:∃ w1,w1 = (w.alloc (.cells #[.int .i64 (n:Nat),v] 24)).alloc (.cells #[.int .u64 (lo a),.int .u64 (hi a)] 41):=⟨_,rfl⟩
 rw [←hw1] at e0 hx1
 obtain ⟨e0,e1⟩:=e0
 have c0:w1.cell? ⟨w.heap.size,0,none⟩ = some (.int .i64 (n:Nat)):=by rw [World.cell?,e0];rfl
 have c1:w1.cell? ⟨w.heap.size,1,none⟩ = some v:=by rw [World.cell?,e0];rfl
 obtain ⟨c2,c3⟩:=pbox_cells e1
 have qc:=fun W (h:Ext w W)=>thCheck_any (n:=(n:Int)) (hv.ext h.below)
 rw [hok] at qc
 have qa:=fun W=>all_any n (by omega) W
 have qs:=fun W=>varsSub_any a (allK n) W
 have hs:subS a (allK n) = true:=(subS_iff _ _).2 fun u hu=>(hasS_allK u n (by omega)).2 ⟨(L.hasS_range hu).1,ha u hu⟩
 rw [hs] at qs
 unfold encS at qs
 have hvh:=Lib.hid hv
 obtain ⟨ba,cp,rfl,hv0⟩:=hv
 have hcs:∀ j (hj:j < T.length),∃ b o u,ba = some ⟨b,o,none⟩∧w.cell? ⟨b,o+j,none⟩ = some u∧SlI w u T[j]:=fun j hj=>by
  rcases hv0 with ⟨_,rfl,_⟩ | ⟨b,o,rfl,h⟩
  ·simp at hj
  ·obtain ⟨u,h1,h2⟩:=h j hj
   exact ⟨b,o,u,rfl,h1,h2⟩
 replace qc:=Lib.hid qc
 replace qa:=Lib.hid qa
 replace qs:=Lib.hid qs
 replace hcs:=Lib.hid hcs
 replace hall:=Lib.hid hall
 replace hx1:=Lib.hid hx1
 replace hok:=Lib.hid hok
 replace e0:=Lib.hid e0
 replace e1:=Lib.hid e1
 replace ha:=Lib.hid ha
 clear hv0 hs
 go_enter Tryz.func45,Tryz.ntmps45
 go_wp2_with fail
 rw [←hw1]
 replace hw1:=Lib.hid hw1
 try go_wp2_with fail
 (refine wp_region_held_drew (S:=(fun V=>Ext w1 V∧V.cell? ⟨w.heap.size,0,none⟩ = some (.int .i64 (n:Nat))∧V.cell? ⟨w.heap.size,1,none⟩ = some (.slice ba T.length cp)∧V.cell? ⟨w.heap.size+1,0,none⟩ = some (.int .u64 (lo a))∧V.cell? ⟨w.heap.size+1,1,none⟩ = some (.int .u64 (hi a)))) (by kernel_rfl) ?_ (fun hHeld=>?_))
 ·exact ⟨(Ext.refl _).drew,c0,c1,c2,c3⟩
 (refine takeL (i:=0) (v:=?_) rfl (by kernel_rfl) (by kernel_rfl) (by kernel_rfl) (fun _ _ _ h=>h) (Or.inl ⟨by rfl,?_⟩) (by assumption) ?_)
 rotate_left
 ·(intro w hSw;(try dsimp only at hSw);go_simp;first | done | with_reducible rfl)
 (try simp only [Act.put,List.setIfInBounds_toArray,List.set_cons_zero,List.set_cons_succ])
 (refine wpAnyH_ready (rs:=[1]) (by kernel_rfl) (by simp) ?_)
 (refine consL rfl (fun K hK=>?_))
 ((rw [if_pos (by rfl)]);go_simp;(go_at_call 78);refine (qc.out _ (hx1.out.trans hHeld.1)).mono ?_;rintro e w2 ⟨rfl,hx2⟩;refine hK.out _ _ ⟨hHeld.1.trans hx2,hx2.cell hHeld.2.1,hx2.cell hHeld.2.2.1,hx2.cell hHeld.2.2.2.1,hx2.cell hHeld.2.2.2.2⟩ (fun hHeld=>?_))
 (clear hK K)
 (try simp only [Act.put,List.setIfInBounds_toArray,List.set_cons_zero,List.set_cons_succ])
 (refine takeL (i:=2) (v:=?_) rfl (by kernel_rfl) (by kernel_rfl) (by kernel_rfl) (fun _ _ _ h=>h) (Or.inl ⟨by rfl,?_⟩) (by assumption) ?_)
 rotate_left
 ·(intro w hSw;(try dsimp only at hSw);go_simp;first | done | with_reducible rfl)
 (try simp only [Act.put,List.setIfInBounds_toArray,List.set_cons_zero,List.set_cons_succ])
 (refine takeL (i:=3) (v:=?_) rfl (by kernel_rfl) (by kernel_rfl) (by kernel_rfl) (fun _ _ _ h=>h) (Or.inl ⟨by rfl,?_⟩) (by assumption) ?_)
 rotate_left
 ·(intro w hSw;(try dsimp only at hSw);go_simp;first | done | with_reducible rfl)
 (try simp only [Act.put,List.setIfInBounds_toArray,List.set_cons_zero,List.set_cons_succ])
 (refine takeL (i:=4) (v:=?_) rfl (by kernel_rfl) (by kernel_rfl) (by kernel_rfl) (fun _ _ _ h=>h) (Or.inl ⟨by rfl,?_⟩) (by assumption) ?_)
 rotate_left
 ·(intro w hSw;(try dsimp only at hSw);go_simp;first | done | with_reducible rfl)
 (try simp only [Act.put,List.setIfInBounds_toArray,List.set_cons_zero,List.set_cons_succ])
 (refine takeL (i:=5) (v:=?_) rfl (by kernel_rfl) (by kernel_rfl) (by kernel_rfl) (fun _ _ _ h=>h) (Or.inl ⟨by rfl,?_⟩) (by assumption) ?_)
 rotate_left
 ·(intro w hSw;(try dsimp only at hSw);go_simp;first | done | with_reducible rfl)
 (try simp only [Act.put,List.setIfInBounds_toArray,List.set_cons_zero,List.set_cons_succ])
 (refine takeL (i:=6) (v:=?_) rfl (by kernel_rfl) (by kernel_rfl) (by kernel_rfl) (fun _ _ _ h=>h) (Or.inl ⟨by rfl,?_⟩) (by assumption) ?_)
 rotate_left
 ·(intro w hSw;(try dsimp only at hSw);go_simp;first | done | with_reducible rfl)
 (try simp only [Act.put,List.setIfInBounds_toArray,List.set_cons_zero,List.set_cons_succ])
 (refine wpAnyH_ready (rs:=[7]) (by kernel_rfl) (by simp) ?_)
 (refine consL rfl (fun K hK=>?_))
 ((rw [if_pos (by rfl)]);go_simp;(go_at_call 47);refine (qa.out _).mono ?_;rintro e w3 ⟨rfl,hx3⟩;refine hK.out _ _ ⟨hHeld.1.trans hx3,hx3.cell hHeld.2.1,hx3.cell hHeld.2.2.1,hx3.cell hHeld.2.2.2.1,hx3.cell hHeld.2.2.2.2⟩ (fun hHeld=>?_))
 (clear hK K)
 (try simp only [Act.put,List.setIfInBounds_toArray,List.set_cons_zero,List.set_cons_succ])
 (refine wpAnyH_ready (rs:=[8]) (by kernel_rfl) (by simp) ?_)
 (refine consL rfl (fun K hK=>?_))
 ((rw [if_pos (by rfl)]);go_simp;(go_at_call 111);refine (qs.out _).mono ?_;rintro e w4 ⟨rfl,hx4⟩;refine hK.out _ _ ⟨hHeld.1.trans hx4,hx4.cell hHeld.2.1,hx4.cell hHeld.2.2.1,hx4.cell hHeld.2.2.2.1,hx4.cell hHeld.2.2.2.2⟩ (fun hHeld=>?_))
 (clear hK K)
 (try simp only [Act.put,List.setIfInBounds_toArray,List.set_cons_zero,List.set_cons_succ])
 (refine takeL (i:=9) (v:=?_) rfl (by kernel_rfl) (by kernel_rfl) (by kernel_rfl) (fun _ _ _ h=>h) (Or.inl ⟨by rfl,?_⟩) (by assumption) ?_)
 rotate_left
 ·(intro w hSw;(try dsimp only at hSw);go_simp;first | done | with_reducible rfl)
 (try simp only [Act.put,List.setIfInBounds_toArray,List.set_cons_zero,List.set_cons_succ])
 (refine takeL (i:=10) (v:=?_) rfl (by kernel_rfl) (by kernel_rfl) (by kernel_rfl) (fun _ _ _ h=>h) (Or.inl ⟨by rfl,?_⟩) (by assumption) ?_)
 rotate_left
 ·(intro w hSw;(try dsimp only at hSw);go_simp;first | done | with_reducible rfl)
 (try simp only [Act.put,List.setIfInBounds_toArray,List.set_cons_zero,List.set_cons_succ])
 (refine wpAnyH_done (by kernel_rfl) ?_ _)
 obtain ⟨hx14,d0,d1,d2,d3⟩:=hHeld
 have hx5:=hx1.out.trans hx14
 replace hx5:=Lib.hid hx5
 replace hx14:=Lib.hid hx14
 clear c0 c1 c2 c3
 go_wp2_with fail
 go_loopw [6,21] (fun _ i wr=>∃ k:Nat,k≤T.length∧i = .int .i64 k∧Ext w4 wr∧L.thφ (T.take k) (L.asg a) = true) (fun _ i _=>T.length - (intOf i).toNat)
 case atStart=>exact ⟨0,Nat.zero_le _,rfl,Ext.refl _,by simp [L.thφ]⟩
 case round =>
  obtain ⟨k,hk,rfl,hxr,hgood⟩:=hrel
  by_cases hlt:k < T.length
  ·obtain ⟨b,o,u,rfl,f1,hu⟩:=hcs.out k hlt
   have hxx:=hx5.out.trans hxr
   have g1:=hxx.cell f1
   have g2:=hxr.cell d2
   have g3:=hxr.cell d3
   have htk:=Lib.hid (thφ_take (x:=L.asg a) hlt)
   obtain ⟨h128,hval⟩:=hall.out _ (List.getElem_mem hlt)
   have q:=any_any hn1 hval (by omega) a (hu.ext hxx.below)
   have hfin:Hid (L.clφ T[k] (L.asg a) = false→L.thφ T (L.asg a) = false):=Lib.hid fun h=>by
    unfold L.thφ
    rw [List.all_eq_false]
    exact ⟨_,List.getElem_mem hlt,by rw [h];simp⟩
   generalize T[k] = c at *
   obtain ⟨bb,cc,rfl,_⟩:=hu
   replace hxr:=Lib.hid hxr
   replace hxx:=Lib.hid hxx
   replace hgood:=Lib.hid hgood
   clear f1 hval
   cases hB:L.clφ c (L.asg a)
   ·rw [hB] at q
    have hz:=hfin.out hB
    replace hz:=Lib.hid hz
    go_wp2_with fail
    refine q.mono ?_
    rintro e w6 ⟨rfl,hx6⟩
    go_wp2_with fail
    go_ret
    exact ⟨by rw [hz.out] <;> rfl,hxx.out.trans hx6⟩
   ·rw [hB] at q
    have hn2:Hid (L.thφ (T.take (k+1)) (L.asg a) = true):=Lib.hid (by rw [htk.out,hgood.out,hB];rfl)
    go_wp2_with fail
    refine q.mono ?_
    rintro e w6 ⟨rfl,hx6⟩
    go_wp2_with fail
    go_roundw
    case rel=>exact ⟨k+1,by omega,by go_num,hxr.out.trans hx6,hn2.out⟩
    case measure=>simp [intOf];omega
  ·obtain rfl:k = T.length:=by omega
   rw [List.take_length] at hgood
   replace hgood:=Lib.hid hgood
   replace hxr:=Lib.hid hxr
   go_wp2_with fail
   go_ret
   exact ⟨by rw [hgood.out] <;> rfl,hx5.out.trans hxr.out⟩
end Go.Proofs.YtmnjakejhbpkoaaGreatDoor
