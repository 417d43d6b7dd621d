import Derived.Test.YtckhohpbokojdaaGreatDoorLQ17
set_option linter.unusedSimpArgs false
set_option linter.unusedVariables false
namespace Go.Proofs.YtckhohpbokojdaaGreatDoor
open Go Go.RowKit Go.Shelf
theorem uniTo_step (a b:VSet) {k:Nat} (h:1≤k):uniTo a b k = if hasS b (k:Int) = true then withS (uniTo a b (k - 1)) (k:Int) else uniTo a b (k - 1):=by
 obtain ⟨j,rfl⟩:∃ j,k = j+1:=⟨k - 1,by omega⟩
 rfl
def UnR21 (w:World) (a b:VSet) (k:Nat) (V:World):Prop:=Below w.heap.size w V∧V.heap[w.heap.size]? = some (.cells #[.int .u64 (lo (uniTo a b k)),.int .u64 (hi (uniTo a b k))] 37 (0,0))∧V.heap[w.heap.size+1]? = some (.cells #[.int .u64 (lo b),.int .u64 (hi b)] 37 (0,0))∧V.heap[w.heap.size+1+1]? = some (.cells #[.int .u64 0,.int .u64 0] 37 (0,0))
theorem UnR21.next {w V V':World} {a b:VSet} {k:Nat} (h:UnR21 w a b k V) (hb:Below V.heap.size V V'):UnR21 w a b k V':=by
 obtain ⟨h1,h2,h3,h4⟩:=h
 have kk:∀ {j:Nat} {x:Obj},V.heap[j]? = some x→V'.heap[j]? = some x:=fun {j x} e=>(hb.block _ (Array.getElem?_eq_some_iff.1 e).1).trans e
 exact ⟨h1.trans (hb.mono h1.size),kk h2,kk h3,kk h4⟩
set_option maxRecDepth 100000 in
set_option maxHeartbeats 2000000 in
theorem union21_any (a b:VSet) (w:World):Calls Tryz.prog 94 #[encS a,encS b] w fun e w'=>e = .returned (encS (a ||| b))∧Below w.heap.size w w':=by
 have h0:Hid (UnR21 w a b 0 (((w.alloc (.cells #[.int .u64 (lo a),.int .u64 (hi a)] 37)).alloc (.cells #[.int .u64 (lo b),.int .u64 (hi b)] 37)).alloc (.cells #[.int .u64 0,.int .u64 0] 37))):=by
  obtain ⟨e1,e2,e3⟩:=alloc3h w (.cells #[.int .u64 (lo a),.int .u64 (hi a)] 37) (.cells #[.int .u64 (lo b),.int .u64 (hi b)] 37) (.cells #[.int .u64 0,.int .u64 0] 37)
  have hx:Ext w (((w.alloc (.cells #[.int .u64 (lo a),.int .u64 (hi a)] 37)).alloc (.cells #[.int .u64 (lo b),.int .u64 (hi b)] 37)).alloc (.cells #[.int .u64 0,.int .u64 0] 37)):=(((Ext.refl w).alloc _).alloc _).alloc _
  exact Lib.hid ⟨hx.below,e1,e2,e3⟩
 have hall:=Lib.hid (uniTo_all a b)
 have qh:=Lib.hid fun (v:Int) (V:World)=>refHas5_any b v V
 unfold encS
 go_enter Tryz.func94,Tryz.ntmps94
 go_wp2_with fail
 generalize (((w.alloc (.cells #[.int .u64 (lo a),.int .u64 (hi a)] 37)).alloc (.cells #[.int .u64 (lo b),.int .u64 (hi b)] 37)).alloc (.cells #[.int .u64 0,.int .u64 0] 37)) = w1 at *
 go_loopw [5] (fun i wr=>∃ k:Nat,1≤k∧k≤129∧i = .int .i64 k∧Hid (UnR21 w a b (k - 1) wr)) (fun i _=>129 - (intOf i).toNat)
 case atStart=>exact ⟨1,by omega,by omega,rfl,h0⟩
 case round =>
  clear h0
  obtain ⟨k,hk1,hk,rfl,hI⟩:=hrel
  obtain ⟨hB,b0,b1,b2⟩:=hI.out
  by_cases hlt:k≤128
  ·have d0:decide ((k:Int)≤128) = true:=decide_eq_true (by omega)
   have d0':decide (k≤128) = true:=decide_eq_true hlt
   have hst:=uniTo_step a b hk1
   obtain ⟨c0,c1⟩:=pbox_cells b1
   have q:=qh.out (k:Int) wr
   unfold encS at q
   cases hh:hasS b (k:Int) with
   | false =>
     rw [hh] at q hst
     rw [if_neg (by decide)] at hst
     replace b0:=Lib.hid b0
     replace b1:=Lib.hid b1
     replace b2:=Lib.hid b2
     replace hh:=Lib.hid hh
     go_wp2_with fail
     refine q.mono ?_
     rintro e w3 ⟨rfl,hx3⟩
     have hnx:Hid (UnR21 w a b (k+1 - 1) w3):=Lib.hid (by rw [Nat.add_sub_cancel];unfold UnR21;rw [hst];exact hI.out.next hx3.below)
     clear q c0 c1
     go_wp2_with fail
     go_roundw
     case rel=>exact ⟨k+1,by omega,by omega,by go_num,hnx⟩
     case measure=>simp [intOf];omega
   | true =>
     rw [hh] at q hst
     rw [if_pos rfl] at hst
     replace b0:=Lib.hid b0
     replace b1:=Lib.hid b1
     replace b2:=Lib.hid b2
     replace hh:=Lib.hid hh
     go_wp2_with fail
     refine q.mono ?_
     rintro e w3 ⟨rfl,hx3⟩
     have hI3:=hI.out.next hx3.below
     obtain ⟨t0,t1⟩:=pbox_cells hI3.2.1
     have q2:=with21_any (uniTo a b (k - 1)) k hk1 hlt w3
     rw [←hst] at q2
     unfold encS at q2
     replace hI3:=Lib.hid hI3
     clear q c0 c1
     go_wp2_with fail
     refine q2.mono ?_
     rintro e w4 ⟨rfl,hb4⟩
     clear q2 t0 t1
     have hI4:=hI3.out.next hb4
     obtain ⟨g1,g2,g3,g4⟩:=hI4
     obtain ⟨z0,z1⟩:=pbox_cells g2
     have y0:w4.frozen? ⟨w.heap.size,0,none⟩ = false:=by simp [World.frozen?,g2]
     have y1:w4.frozen? ⟨w.heap.size,1,none⟩ = false:=by simp [World.frozen?,g2]
     have hnx:Hid (UnR21 w a b (k+1 - 1) ((w4.setCell ⟨w.heap.size,0,none⟩ (.int .u64 (lo (uniTo a b k)))).setCell ⟨w.heap.size,1,none⟩ (.int .u64 (hi (uniTo a b k))))):=Lib.hid (by
      rw [Nat.add_sub_cancel]
      refine ⟨(g1.setCell (p:=⟨w.heap.size,0,none⟩) (Nat.le_refl _) _).setCell (p:=⟨w.heap.size,1,none⟩) (Nat.le_refl _) _,heap_set2 g2 _ _,?_,?_⟩
      ·exact (Below.heap_setCell _ _ _ _ (by simp)).trans ((Below.heap_setCell _ _ _ _ (by simp)).trans g3)
      ·exact (Below.heap_setCell _ _ _ _ (by show w.heap.size+1+1≠w.heap.size;omega)).trans ((Below.heap_setCell _ _ _ _ (by show w.heap.size+1+1≠w.heap.size;omega)).trans g4))
     clear g1 g2 g3 g4 hst
     go_wp2_with fail
     go_roundw
     case rel=>exact ⟨k+1,by omega,by omega,by go_num,hnx⟩
     case measure=>simp [intOf];omega
  ·obtain rfl:k = 129:=by omega
   have d0:decide (((129:Nat):Int)≤128) = false:=by decide
   rw [show 129 - 1 = 128 from rfl,hall.out] at b0
   obtain ⟨c0,c1⟩:=pbox_cells b0
   obtain ⟨z0,z1⟩:=pbox_cells b2
   have y0:wr.frozen? ⟨w.heap.size+1+1,0,none⟩ = false:=by simp [World.frozen?,b2]
   have y1:wr.frozen? ⟨w.heap.size+1+1,1,none⟩ = false:=by simp [World.frozen?,b2]
   obtain ⟨r0,r1⟩:=box2_set b2 (.int .u64 (lo (a ||| b))) (.int .u64 (hi (a ||| b)))
   have hf:=Lib.hid ((hB.setCell (p:=⟨w.heap.size+1+1,0,none⟩) (by show w.heap.size≤w.heap.size+1+1;omega) (.int .u64 (lo (a ||| b)))).setCell (p:=⟨w.heap.size+1+1,1,none⟩) (by show w.heap.size≤w.heap.size+1+1;omega) (.int .u64 (hi (a ||| b))))
   replace r0:=Lib.hid r0
   replace r1:=Lib.hid r1
   clear b0 b1 b2 hI hB
   go_wp2_with fail
   exact bodyPost_ret (v:=.agg #[.int .u64 (lo (a ||| b)),.int .u64 (hi (a ||| b))]) (by simp [results,Tryz.results94,go_sem,r0.out,r1.out]) rfl ⟨rfl,hf.out⟩
set_option maxRecDepth 100000 in
set_option maxHeartbeats 2000000 in
theorem meets21_any (a b:VSet) (w:World):Calls Tryz.prog 72 #[encS a,encS b] w fun e w'=>e = .returned (.bool (!decide (a &&& b = 0)))∧Ext w w':=by
 have hx1:Ext w ((w.alloc (.cells #[.int .u64 (lo a),.int .u64 (hi a)] 37)).alloc (.cells #[.int .u64 (lo b),.int .u64 (hi b)] 37)):=((Ext.refl w).alloc _).alloc _
 obtain ⟨e1,e2⟩:=alloc2h w (.cells #[.int .u64 (lo a),.int .u64 (hi a)] 37) (.cells #[.int .u64 (lo b),.int .u64 (hi b)] 37)
 have hbx:Hid (∀ V,Ext ((w.alloc (.cells #[.int .u64 (lo a),.int .u64 (hi a)] 37)).alloc (.cells #[.int .u64 (lo b),.int .u64 (hi b)] 37)) V→(V.cell? ⟨w.heap.size,0,none⟩ = some (.int .u64 (lo a))∧V.cell? ⟨w.heap.size,1,none⟩ = some (.int .u64 (hi a)))∧V.cell? ⟨w.heap.size+1,0,none⟩ = some (.int .u64 (lo b))∧V.cell? ⟨w.heap.size+1,1,none⟩ = some (.int .u64 (hi b))):=Lib.hid fun V hV=>by
  have f0:=(hV.below.block _ (Array.getElem?_eq_some_iff.1 e1).1).trans e1
  have f1:=(hV.below.block _ (Array.getElem?_eq_some_iff.1 e2).1).trans e2
  exact ⟨⟨by rw [World.cell?,f0];rfl,by rw [World.cell?,f0];rfl⟩,by rw [World.cell?,f1];rfl,by rw [World.cell?,f1];rfl⟩
 have hyes:Hid ((∃ k:Nat,1≤k∧k≤128∧hasS a k = true∧hasS b k = true)→(!decide (a &&& b = 0)) = true):=Lib.hid fun ⟨k,h1,h2,h3,h4⟩=>by rw [decide_eq_false (and_ne h1 h2 h3 h4)];rfl
 have hno:Hid ((∀ k:Nat,1≤k→k≤128→¬ (hasS a k = true∧hasS b k = true))→(!decide (a &&& b = 0)) = false):=Lib.hid fun h=>by rw [decide_eq_true (and_zer21 h)];rfl
 generalize (!decide (a &&& b = 0)) = R at *
 have qa:=Lib.hid fun (v:Int) (V:World)=>refHas5_any a v V
 have qb:=Lib.hid fun (v:Int) (V:World)=>refHas5_any b v V
 replace hx1:=Lib.hid hx1
 clear e1 e2
 unfold encS at qa qb ⊢
 go_enter Tryz.func72,Tryz.ntmps72
 go_wp2_with fail
 generalize ((w.alloc (.cells #[.int .u64 (lo a),.int .u64 (hi a)] 37)).alloc (.cells #[.int .u64 (lo b),.int .u64 (hi b)] 37)) = w1 at *
 go_loopw [5] (fun i wr=>∃ k:Nat,1≤k∧k≤129∧i = .int .i64 k∧Hid (Ext w1 wr)∧Hid (∀ j:Nat,1≤j→j < k→¬ (hasS a j = true∧hasS b j = true))) (fun i _=>129 - (intOf i).toNat)
 case atStart=>exact ⟨1,by omega,by omega,rfl,Lib.hid (Ext.refl _),Lib.hid (fun j h1 h2=>by omega)⟩
 case round =>
  obtain ⟨k,hk1,hk,rfl,hX,hN⟩:=hrel
  by_cases hlt:k≤128
  ·have d0:decide ((k:Int)≤128) = true:=decide_eq_true (by omega)
   have d0':decide (k≤128) = true:=decide_eq_true hlt
   have hnx:¬ (hasS a k = true∧hasS b k = true)→Hid (∀ j:Nat,1≤j→j < k+1→¬ (hasS a j = true∧hasS b j = true)):=fun h=>Lib.hid fun j h1 h2=>by
    by_cases e:j = k
    ·subst e;exact h
    ·exact hN.out j h1 (by omega)
   have hy:hasS a k = true→hasS b k = true→Hid (R = true):=fun h3 h4=>Lib.hid (hyes.out ⟨k,hk1,hlt,h3,h4⟩)
   obtain ⟨⟨c0,c1⟩,c2,c3⟩:=hbx.out wr hX.out
   have q:=qa.out (k:Int) wr
   cases ha:hasS a (k:Int) with
   | false =>
     have hn2:=hnx (fun e=>by rw [ha] at e;cases e.1)
     rw [ha] at q
     replace ha:=Lib.hid ha
     clear hnx hy
     go_wp2_with fail
     refine q.mono ?_
     rintro e w3 ⟨rfl,hx3⟩
     have hX3:=Lib.hid (hX.out.trans hx3)
     clear q c0 c1 c2 c3
     go_wp2_with fail
     go_roundw
     case rel=>exact ⟨k+1,by omega,by omega,by go_num,hX3,hn2⟩
     case measure=>simp [intOf];omega
   | true =>
     rw [ha] at q
     have hy2:=hy ha
     cases hb:hasS b (k:Int) with
     | false =>
       have hn2:=hnx (fun e=>by rw [hb] at e;cases e.2)
       replace ha:=Lib.hid ha
       clear hnx hy hy2
       go_wp2_with fail
       refine q.mono ?_
       rintro e w3 ⟨rfl,hx3⟩
       have hX3:=hX.out.trans hx3
       clear q c0 c1 c2 c3
       obtain ⟨⟨c0,c1⟩,c2,c3⟩:=hbx.out w3 hX3
       have q:=qb.out (k:Int) w3
       rw [hb] at q
       replace hb:=Lib.hid hb
       replace hX3:=Lib.hid hX3
       go_wp2_with fail
       refine q.mono ?_
       rintro e w4 ⟨rfl,hx4⟩
       have hX4:=Lib.hid (hX3.out.trans hx4)
       clear q c0 c1 c2 c3
       go_wp2_with fail
       go_roundw
       case rel=>exact ⟨k+1,by omega,by omega,by go_num,hX4,hn2⟩
       case measure=>simp [intOf];omega
     | true =>
       have hr:=hy2 hb
       replace ha:=Lib.hid ha
       clear hnx hy hy2
       go_wp2_with fail
       refine q.mono ?_
       rintro e w3 ⟨rfl,hx3⟩
       have hX3:=hX.out.trans hx3
       clear q c0 c1 c2 c3
       obtain ⟨⟨c0,c1⟩,c2,c3⟩:=hbx.out w3 hX3
       have q:=qb.out (k:Int) w3
       rw [hb] at q
       replace hb:=Lib.hid hb
       replace hX3:=Lib.hid hX3
       go_wp2_with fail
       refine q.mono ?_
       rintro e w4 ⟨rfl,hx4⟩
       clear q c0 c1 c2 c3
       go_wp2_with fail
       go_ret
       exact ⟨by rw [hr.out] <;> rfl,hx1.out.trans (hX3.out.trans hx4)⟩
  ·obtain rfl:k = 129:=by omega
   have d0:decide (((129:Nat):Int)≤128) = false:=by decide
   have hr:=Lib.hid (hno.out fun j h1 h2=>hN.out j h1 (by omega))
   go_wp2_with fail
   go_ret
   exact ⟨by rw [hr.out] <;> rfl,hx1.out.trans hX.out⟩
end Go.Proofs.YtckhohpbokojdaaGreatDoor
