import Derived.Test.YtmnjakejhbpkoaaGreatDoorWView4
import Derived.Test.YtmnjakejhbpkoaaGreatDoorWRefChk
import Derived.Test.YtmnjakejhbpkoaaGreatDoorWPro27
import Derived.Test.YtmnjakejhbpkoaaGreatDoorWReg
section
set_option linter.unusedSimpArgs false
set_option linter.unusedVariables false
namespace Go.Proofs.YtmnjakejhbpkoaaGreatDoor
open Go Go.RowKit Go.Shelf
theorem u64_sum (x y:BitVec 64) (h:x &&& y = 0):IntKind.u64.wrap ((x.toNat:Int)+(y.toNat:Int)) = ((x ||| y).toNat:Int):=by
 rw [←BitVec.add_eq_or_of_and_eq_zero x y h,BitVec.toNat_add,IntKind.wrap_u64]
 omega
theorem add_lo {a b:VSet} (h:a &&& b = 0):IntKind.u64.wrap (lo a+lo b) = lo (a ||| b):=by
 unfold lo
 rw [u64_sum _ _ (by rw [←BitVec.setWidth_and,h];rfl),BitVec.setWidth_or]
theorem add_hi {a b:VSet} (h:a &&& b = 0):IntKind.u64.wrap (hi a+hi b) = hi (a ||| b):=by
 unfold hi
 rw [u64_sum _ _ (by rw [←BitVec.setWidth_and,←BitVec.ushiftRight_and_distrib,h];rfl),BitVec.ushiftRight_or_distrib,BitVec.setWidth_or]
theorem bel_apart {t:List VN} (hc:checkF t = 0) {k l r:Nat} {y:VN} (hy:t[k]? = some y) (hlf:leafB y = false) (hl:y.left = l) (hr:y.right = r) {m n:VSet} (h1:IsBel t l m) (h2:IsBel t r n):m &&& n = 0:=by
 refine L.set_ext fun i hi=>?_
 have e0:(0:VSet).getLsbD i = false:=BitVec.getLsbD_zero
 rw [e0,BitVec.getLsbD_and]
 cases a:m.getLsbD i
 ·rfl
 ·cases b:n.getLsbD i
  ·rfl
  ·exact (L.Bel.apart hc hy hlf hl hr ((h1 i hi).1 a) ((h2 i hi).1 b)).elim
theorem leaf_bits:((List.range 128).all fun k=>if k < 64 then decide (lo (withS 0 ((k:Int)+1)) = IntKind.u64.wrap (2 ^ k)) && decide (hi (withS 0 ((k:Int)+1)) = 0) else decide (hi (withS 0 ((k:Int)+1)) = IntKind.u64.wrap (2 ^ (k - 64))) && decide (lo (withS 0 ((k:Int)+1)) = 0)) = true:=by kernel_rfl
theorem leaf_lo {k:Nat} (hk:k < 64):lo (withS 0 ((k:Int)+1)) = IntKind.u64.wrap (2 ^ k)∧hi (withS 0 ((k:Int)+1)) = 0:=by
 have:=List.all_eq_true.1 leaf_bits k (List.mem_range.2 (by omega))
 rw [if_pos hk] at this
 simpa only [Bool.and_eq_true,decide_eq_true_eq] using this
theorem leaf_hi {k:Nat} (hk:k < 64):hi (withS 0 (((k+64:Nat):Int)+1)) = IntKind.u64.wrap (2 ^ k)∧lo (withS 0 (((k+64:Nat):Int)+1)) = 0:=by
 have:=List.all_eq_true.1 leaf_bits (k+64) (List.mem_range.2 (by omega))
 rw [if_neg (by omega),show k+64 - 64 = k by omega] at this
 simpa only [Bool.and_eq_true,decide_eq_true_eq] using this
theorem SetsAt.setL {w:World} {b n:Nat} {f:Nat→VSet} (h:SetsAt w b n f) (i:Nat) (m:VSet) (hh:hi m = hi (f i)):SetsAt (w.setCell ⟨b,i * 2,none⟩ (.int .u64 (lo m))) b n (setVS f i m):=by
 obtain ⟨c,h1,h2,h3⟩:=h
 refine ⟨_,heap_set h1 _ _,by simpa using h2,fun j hj=>?_⟩
 obtain ⟨h4,h5⟩:=h3 j hj
 by_cases hij:j = i
 ·subst hij
  simp only [setVS,if_pos]
  constructor
  ·rw [Array.getElem?_setIfInBounds,if_pos rfl,if_pos (by omega)]
  ·rw [Array.getElem?_setIfInBounds,if_neg (by omega),h5,hh]
 ·simp only [setVS,if_neg hij]
  constructor
  ·rw [Array.getElem?_setIfInBounds,if_neg (by omega)];exact h4
  ·rw [Array.getElem?_setIfInBounds,if_neg (by omega)];exact h5
theorem SetsAt.setH {w:World} {b n:Nat} {f:Nat→VSet} (h:SetsAt w b n f) (i:Nat) (m:VSet) (hh:lo m = lo (f i)):SetsAt (w.setCell ⟨b,i * 2+1,none⟩ (.int .u64 (hi m))) b n (setVS f i m):=by
 obtain ⟨c,h1,h2,h3⟩:=h
 refine ⟨_,heap_set h1 _ _,by simpa using h2,fun j hj=>?_⟩
 obtain ⟨h4,h5⟩:=h3 j hj
 by_cases hij:j = i
 ·subst hij
  simp only [setVS,if_pos]
  constructor
  ·rw [Array.getElem?_setIfInBounds,if_neg (by omega),h4,hh]
  ·rw [Array.getElem?_setIfInBounds,if_pos rfl,if_pos (by omega)]
 ·simp only [setVS,if_neg hij]
  constructor
  ·rw [Array.getElem?_setIfInBounds,if_neg (by omega)];exact h4
  ·rw [Array.getElem?_setIfInBounds,if_neg (by omega)];exact h5
theorem VsLoop.ext {w wr w':World} {g k:Nat} {t:List VN} (h:VsLoop w g t k wr) (hx:Ext wr w'):VsLoop w g t k w':=by
 obtain ⟨f,a,b,c,d⟩:=h
 exact ⟨f,a.trans hx,b.ext hx,c,d⟩
theorem VsLoop.leafL {w wr w':World} {g k:Nat} {t:List VN} {f:Nat→VSet} {m:VSet} (hX:Ext w w') (hG:SetsAt w' g t.length f) (h1:∀ j,j < k→IsBel t j (f j)) (h2:∀ j,k≤j→f j = 0) (hg:w.heap.size≤g) (hm:IsBel t k m) (hh:hi m = 0) :
  VsLoop w g t (k+1) (w'.setCell ⟨g,k * 2,none⟩ (.int .u64 (lo m))):=by
 refine ⟨_,hX.setCell (by simpa using hg) _,hG.setL k m (by rw [hh,h2 k (Nat.le_refl _)];rfl),fun j hj=>?_,fun j hj=>?_⟩
 ·by_cases e:j = k
  ·subst e;simpa [setVS] using hm
  ·simpa [setVS,e] using h1 j (by omega)
 ·have e:j≠k:=by omega
  simpa [setVS,e] using h2 j (by omega)
theorem VsLoop.leafH {w wr w':World} {g k:Nat} {t:List VN} {f:Nat→VSet} {m:VSet} (hX:Ext w w') (hG:SetsAt w' g t.length f) (h1:∀ j,j < k→IsBel t j (f j)) (h2:∀ j,k≤j→f j = 0) (hg:w.heap.size≤g) (hm:IsBel t k m) (hh:lo m = 0) :
  VsLoop w g t (k+1) (w'.setCell ⟨g,k * 2+1,none⟩ (.int .u64 (hi m))):=by
 refine ⟨_,hX.setCell (by simpa using hg) _,hG.setH k m (by rw [hh,h2 k (Nat.le_refl _)];rfl),fun j hj=>?_,fun j hj=>?_⟩
 ·by_cases e:j = k
  ·subst e;simpa [setVS] using hm
  ·simpa [setVS,e] using h1 j (by omega)
 ·have e:j≠k:=by omega
  simpa [setVS,e] using h2 j (by omega)
set_option maxRecDepth 100000 in
set_option maxHeartbeats 4000000 in
theorem refVars25_any {t:List VN} (w:World) (b o cap:Nat) (h:TreeAt w b o t) (hc:checkF t = 0) :
  Calls Tryz.prog 94 #[.slice (some ⟨b,o,none⟩) t.length cap] w fun e w'=>∃ g f,w.heap.size≤g∧e = .returned (.slice (some ⟨g,0,none⟩) t.length t.length)∧SetsAt w' g t.length f∧(∀ j,j < t.length→IsBel t j (f j))∧Ext w w':=by
 obtain ⟨hl0,hl1,sc,hrun,_⟩:=check_ok hc
 have hmk:∀ w:World,(Instr.makeSlice 134 (.int .i64 t.length) (.int .i64 t.length)).run Tryz.prog w = .ok (.slice (some ⟨w.heap.size,0,none⟩) t.length t.length) (w.alloc (.cells (madeCells #[.int .u64 0,.int .u64 0] (t.length * 2)) 41)):=fun w=>by
  obtain ⟨i,hi,hz,hs,hb⟩:=info_parts (show (Tryz.prog.info? 41).map (fun i=>(i.zero,i.size,i.bytes)) = some (some (.agg #[.int .u64 0,.int .u64 0]),2,16) by kernel_rfl)
  have hr:=run_make (P:=Tryz.prog) w 134 41 i _ Tryz.underlying134 hi hz .i64 .i64 t.length t.length (by omega) (Int.le_refl _) (by rw [hb];omega) (by omega)
  rw [hs] at hr
  simpa [Value.cells] using hr
 have hq:=refchk_any w (some ⟨b,o,none⟩) cap (.inr ⟨b,o,rfl,h⟩) (by omega)
 rw [hc] at hq
 have hbd:=Lib.hid (run_bounds t 0 _ sc hrun)
 have hlv:Hid (∀ k (hk:k < t.length),leafB t[k] = true→1≤t[k].var∧t[k].var≤128):=Lib.hid fun k hk hl=>by
  have:=(L.Bel.leaf hc (List.getElem?_eq_getElem hk) hl _).2 rfl
  exact this.range
 replace hc:=Lib.hid hc
 clear hrun
 go_enter Tryz.func94,Tryz.ntmps94
 go_wp2_with fail
 refine hq.mono ?_
 rintro e w1 ⟨rfl,hx1⟩
 clear hq
 go_wp2_with fail
 have hx0:Ext w (w1.alloc (.cells (madeCells #[.int .u64 0,.int .u64 0] (t.length * 2)) 41)):=hx1.alloc _
 have hloop0:Hid (VsLoop w w1.heap.size t 0 (w1.alloc (.cells (madeCells #[.int .u64 0,.int .u64 0] (t.length * 2)) 41))):=Lib.hid ⟨_,hx0,setsNew w1 t.length _ rfl,fun j hj=>by omega,fun j _=>rfl⟩
 have hge:=hx1.size
 clear hx0 hx1
 generalize w1.alloc (.cells (madeCells #[.int .u64 0,.int .u64 0] (t.length * 2)) 41) = w2 at *
 generalize w1.heap.size = g at *
 go_loopw [4,5,6,7] (fun i _ _ _ wr=>∃ k:Nat,k≤t.length∧i = .int .i64 k∧Hid (VsLoop w g t k wr))
  (fun i _ _ _ _=>t.length - (intOf i).toNat)
 case atStart=>exact ⟨0,Nat.zero_le _,rfl,hloop0⟩
 case round =>
  clear hloop0
  obtain ⟨k,hk,rfl,hI⟩:=hrel
  obtain ⟨f,hX,hG,h1,h2⟩:=hI.out
  clear hI
  by_cases hlt:k < t.length
  ·have dlt:decide ((k:Int) < (t.length:Int)) = true:=decide_eq_true (by omega)
   obtain ⟨n0,n1,n2⟩:=(h.ext hX).node hlt
   have hbk:=hbd.out k hlt
   have hlk:=hlv.out k hlt
   have hy:Hid (t[k]? = some t[k]):=Lib.hid (List.getElem?_eq_getElem hlt)
   generalize t[k] = x at *
   obtain ⟨xl,xr,xv⟩:=x
   simp only [Nat.zero_add] at n0 n1 n2 hbk hlk
   have hgk0:(0:Int)≤k:=by omega
   have hgk1:(k:Int) < t.length:=by omega
   have hX3:=Lib.hid hX
   have hG3:=Lib.hid hG
   replace h1:=Lib.hid h1
   replace h2:=Lib.hid h2
   clear hG hX
   go_wp2_with fail
   refine (refLeaf_any ⟨xl,xr,xv⟩ wr).mono ?_
   rintro e w4 ⟨rfl,hx4⟩
   have hG4:=hG3.out.ext hx4
   have hX4:=Lib.hid (hX3.out.trans hx4)
   have c0:=hx4.cell n0
   have c1:=hx4.cell n1
   have c2:=hx4.cell n2
   clear n0 n1 n2 hG3 hX3 hx4
   cases hlf:leafB ⟨xl,xr,xv⟩
   ·obtain ⟨_,l0,l1,r0,r1,hne⟩:=hbk hlf
    clear hbk hlk
    obtain ⟨ln,rfl⟩:∃ n:Nat,xl = n:=⟨xl.toNat,by omega⟩
    obtain ⟨rn,rfl⟩:∃ n:Nat,xr = n:=⟨xr.toNat,by omega⟩
    have q0:(0:Int)≤ln:=by omega
    have q1:(ln:Int) < t.length:=by omega
    have q2:(0:Int)≤rn:=by omega
    have q3:(rn:Int) < t.length:=by omega
    have hm:Hid (IsBel t k (f ln ||| f rn)):=Lib.hid (isBel_node hc.out hy.out hlf rfl rfl (h1.out ln (by omega)) (h1.out rn (by omega)))
    have hap:f ln &&& f rn = 0:=bel_apart hc.out hy.out hlf rfl rfl (h1.out ln (by omega)) (h1.out rn (by omega))
    obtain ⟨⟨s1,s2⟩,_⟩:=hG4.cell (j:=ln) (by omega)
    obtain ⟨⟨s3,s4⟩,_⟩:=hG4.cell (j:=rn) (by omega)
    obtain ⟨⟨s5,s6⟩,s7,s8⟩:=hG4.cell (j:=k) hlt
    have a1:=add_lo hap
    have a2:=add_hi hap
    generalize hfa:f ln = fa at *
    generalize hfb:f rn = fb at *
    have hgl:=hG4.lt
    obtain ⟨eA,eB⟩:=alloc2h w4 (.cells #[.int .u64 (lo fa),.int .u64 (hi fa)] 41) (.cells #[.int .u64 (lo fb),.int .u64 (hi fb)] 41)
    have hend:=Lib.hid ((VsLoop.round (wr:=w4) hX4.out hG4 h1.out h2.out hge hm.out).ext (((Ext.refl _).alloc (.cells #[.int .u64 (lo fa),.int .u64 (hi fa)] 41)).alloc (.cells #[.int .u64 (lo fb),.int .u64 (hi fb)] 41)))
    have hx5:Ext w4 (w4.alloc (.cells #[.int .u64 (lo fa),.int .u64 (hi fa)] 41)):=(Ext.refl _).alloc _
    have d1:=hx5.cell c1
    have d3:=hx5.cell s3
    have d4:=hx5.cell s4
    clear hlf
    replace hG4:=Lib.hid hG4
    replace hfa:=Lib.hid hfa
    replace hfb:=Lib.hid hfb
    replace hap:=Lib.hid hap
    go_wp2_with fail
    go_roundw
    case rel=>exact ⟨k+1,by omega,by go_num,hend⟩
    case measure=>simp [intOf];omega
   ·obtain ⟨v1,v2⟩:=hlk hlf
    clear hbk hlk
    have hm:Hid (IsBel t k (withS 0 xv)):=Lib.hid (isBel_leaf hc.out hy.out hlf)
    obtain ⟨⟨s1,s2⟩,s3,s4⟩:=hG4.cell hlt
    rw [h2.out k (Nat.le_refl _)] at s1 s2
    by_cases h64:xv≤64
    ·have e1:(xv - 1) / 64 = 0:=by omega
     have e2:(xv - 1) % 64 = xv - 1:=by omega
     obtain ⟨u,rfl⟩:∃ u:Nat,xv = (u:Int)+1:=⟨(xv - 1).toNat,by omega⟩
     obtain ⟨k1,k2⟩:=leaf_lo (k:=u) (by omega)
     have e3:(u:Int) / 64 = 0:=by omega
     have e4:(u:Int) % 64 = u:=by omega
     have hend:=Lib.hid (VsLoop.leafL (wr:=w4) hX4.out hG4 h1.out h2.out hge hm.out k2)
     rw [k1] at hend
     replace hG4:=Lib.hid hG4
     replace hlf:=Lib.hid hlf
     replace k1:=Lib.hid k1
     replace k2:=Lib.hid k2
     go_wp2_with fail
     go_roundw
     case rel=>exact ⟨k+1,by omega,by go_num,hend⟩
     case measure=>simp [intOf];omega
    ·obtain ⟨u,rfl⟩:∃ u:Nat,xv = ((u+64:Nat):Int)+1:=⟨(xv - 65).toNat,by omega⟩
     obtain ⟨k1,k2⟩:=leaf_hi (k:=u) (by omega)
     have e3:((u+64:Nat):Int) / 64 = 1:=by omega
     have e4:((u+64:Nat):Int) % 64 = u:=by omega
     have e5:((u:Int)+64) / 64 = 1:=by omega
     have e6:((u:Int)+64) % 64 = u:=by omega
     have hend:=Lib.hid (VsLoop.leafH (wr:=w4) hX4.out hG4 h1.out h2.out hge hm.out k2)
     rw [k1] at hend
     replace hG4:=Lib.hid hG4
     replace hlf:=Lib.hid hlf
     replace k1:=Lib.hid k1
     replace k2:=Lib.hid k2
     go_wp2_with fail
     go_roundw
     case rel=>exact ⟨k+1,by omega,by go_num,hend⟩
     case measure=>simp [intOf];omega
  ·have dlt:decide ((k:Int) < (t.length:Int)) = false:=decide_eq_false (by omega)
   obtain rfl:k = t.length:=by omega
   replace hG:=Lib.hid hG
   replace hX:=Lib.hid hX
   replace h1:=Lib.hid h1
   go_wp2_with fail
   go_ret
   exact ⟨g,f,hge,rfl,hG.out,h1.out,hX.out⟩
set_option maxRecDepth 100000 in
set_option maxHeartbeats 1000000 in
theorem variables_any {t:List VN} (w:World) (b o cap:Nat) (h:TreeAt w b o t) (hc:checkF t = 0) :
  Calls Tryz.prog 27 #[.slice (some ⟨b,o,none⟩) t.length cap] w fun e w'=>∃ v l,e = .returned v∧w'.ownsRow w.heap.size 3 1 v l.length (l.map encZ)∧L.SortedBel t (t.length - 1) l∧Below w.heap.size w w':=by
 obtain ⟨hl0,hl1,_⟩:=check_ok hc
 obtain ⟨n,hn⟩:∃ n,t.length = n+1:=⟨t.length - 1,by omega⟩
 have hwr:IntKind.i64.wrap ((t.length:Int) - 1) = (n:Int):=by rw [hn];rw [IntWalk.i64_in _ (by omega)];omega
 have g0:(0:Int)≤n:=by omega
 have g1:(n:Int) < t.length:=by omega
 have q:=refVars25_any (cap:=cap) w b o h hc
 rw [show t.length - 1 = n by omega]
 replace hn:=Lib.hid hn
 go_enter Tryz.func27,Tryz.ntmps27
 go_wp2_with fail
 refine q.mono ?_
 rintro e w2 ⟨g,f,hg,rfl,hS,hf,hx2⟩
 obtain ⟨⟨s1,s2⟩,_⟩:=hS.cell (j:=n) (by have:=hn.out;omega)
 have hm:=isBel_sorted (hf n (by have:=hn.out;omega))
 have q2:=refList_any (f n) w2
 unfold encS at q2
 generalize f n = m at *
 replace hf:=Lib.hid hf
 replace hS:=Lib.hid hS
 replace hx2:=Lib.hid hx2
 clear q
 go_wp2_with fail
 refine q2.mono ?_
 rintro e w3 ⟨v,rfl,ho,hb3⟩
 clear q2
 go_wp2_with fail
 go_ret
 exact ⟨v,_,rfl,own_base ho hx2.out.size,hm,hx2.out.below.trans (hb3.mono hx2.out.size)⟩
end Go.Proofs.YtmnjakejhbpkoaaGreatDoor
end
section
set_option linter.unusedSimpArgs false
set_option linter.unusedVariables false
namespace Go.Proofs.YtmnjakejhbpkoaaGreatDoor
open Go Go.RowKit Go.Shelf
set_option maxRecDepth 100000 in
set_option maxHeartbeats 1000000 in
theorem refHas5_no (a:VSet) (v:Int) (w:World) (h:v < 1∨128 < v):Calls Tryz.prog 87 #[encS a,.int .i64 v] w fun e w'=>e = .returned (.bool false)∧Ext w w':=by
 have hx:=(Ext.refl w).alloc (.cells #[.int .u64 (lo a),.int .u64 (hi a)] 41)
 unfold encS
 by_cases h1:v < 1
 ·have d0:decide (v < 1) = true:=decide_eq_true h1
  go_enter Tryz.func87,Tryz.ntmps87
  go_wp2_with fail
  all_goals go_ret
  all_goals exact ⟨rfl,hx⟩
 ·have d0:decide (v < 1) = false:=decide_eq_false h1
  have d1:decide (128 < v) = true:=decide_eq_true (by omega)
  go_enter Tryz.func87,Tryz.ntmps87
  go_wp2_with fail
  all_goals go_ret
  all_goals exact ⟨rfl,hx⟩
set_option maxRecDepth 100000 in
set_option maxHeartbeats 1000000 in
theorem refHas5_lo (a:VSet) (v:Int) (w:World) (h1:1≤v) (h2:v≤64):Calls Tryz.prog 87 #[encS a,.int .i64 v] w fun e w'=>e = .returned (.bool (hasS a v))∧Ext w w':=by
 have hx:=(Ext.refl w).alloc (.cells #[.int .u64 (lo a),.int .u64 (hi a)] 41)
 have d1:decide (v < 1) = false:=decide_eq_false (by omega)
 have d2:decide (v > 128) = false:=decide_eq_false (by omega)
 have e1:(v - 1) / 64 = 0:=by omega
 have e2:(v - 1) % 64 = v - 1:=by omega
 have hb:=Lib.hid (shr_lo a v h1 h2)
 unfold encS
 go_enter Tryz.func87,Tryz.ntmps87
 go_wp2_with fail
 go_ret
 exact ⟨by rw [←hb.out] <;> rfl,hx⟩
set_option maxRecDepth 100000 in
set_option maxHeartbeats 1000000 in
theorem refHas5_hi (a:VSet) (v:Int) (w:World) (h1:65≤v) (h2:v≤128):Calls Tryz.prog 87 #[encS a,.int .i64 v] w fun e w'=>e = .returned (.bool (hasS a v))∧Ext w w':=by
 have hx:=(Ext.refl w).alloc (.cells #[.int .u64 (lo a),.int .u64 (hi a)] 41)
 have d1:decide (v < 1) = false:=decide_eq_false (by omega)
 have d2:decide (v > 128) = false:=decide_eq_false (by omega)
 have e1:(v - 1) / 64 = 1:=by omega
 have e2:(v - 1) % 64 = v - 65:=by omega
 have hb:=Lib.hid (shr_hi a v h1 h2)
 unfold encS
 go_enter Tryz.func87,Tryz.ntmps87
 go_wp2_with fail
 go_ret
 exact ⟨by rw [←hb.out] <;> rfl,hx⟩
theorem refHas5_any (a:VSet) (v:Int) (w:World):Calls Tryz.prog 87 #[encS a,.int .i64 v] w fun e w'=>e = .returned (.bool (hasS a v))∧Ext w w':=by
 by_cases h:v < 1∨128 < v
 ·have hv:hasS a v = false:=by simp [hasS];omega
  rw [hv];exact refHas5_no a v w h
 ·by_cases hs:v≤64
  ·exact refHas5_lo a v w (by omega) hs
  ·exact refHas5_hi a v w (by omega) (by omega)
set_option maxRecDepth 100000 in
set_option maxHeartbeats 1000000 in
theorem rabs_any {l:Int} (hl:-128≤l∧l≤128) (w:World):Calls Tryz.prog 86 #[.int .i64 l] w fun e w'=>e = .returned (.int .i64 (l.natAbs:Nat))∧w = w':=by
 by_cases h:l < 0
 ·have d:decide (l < 0) = true:=decide_eq_true h
  have wn:Hid (-l = ((l.natAbs:Nat):Int)):=Lib.hid (by omega)
  clear h
  go_enter Tryz.func86,Tryz.ntmps86
  go_wp2_with fail
  go_ret
  exact ⟨by rw [←wn.out] <;> rfl,rfl⟩
 ·have d:decide (l < 0) = false:=decide_eq_false h
  have wn:Hid (l = ((l.natAbs:Nat):Int)):=Lib.hid (by omega)
  clear h
  go_enter Tryz.func86,Tryz.ntmps86
  go_wp2_with fail
  go_ret
  exact ⟨by rw [←wn.out] <;> rfl,rfl⟩
end Go.Proofs.YtmnjakejhbpkoaaGreatDoor
end
