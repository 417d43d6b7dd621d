import Derived.Test.YtckhohpbokojdaaGreatDoorMBase
import Derived.RangeFuncFrom
import Derived.RangeFuncLeaves
import Derived.Shelf.Abstract
import Derived.OwnWalkIn
import Derived.TacticsInMore
import Derived.LoopNIn
import Derived.LoopIn
import Derived.Test.YtckhohpbokojdaaGreatDoorMAdd
set_option linter.unusedSimpArgs false
set_option linter.unusedVariables false
namespace Go.Proofs.YtckhohpbokojdaaGreatDoor
open Go Go.RowKit Go.Shelf
def wl (k x:Nat):List Nat:=((List.range 64).filter (fun j=>x.testBit j)).map (fun j=>64 * k+j+1)
theorem filter_range_cons (p:Nat→Bool) (n k:Nat) (hk:k < n) (hp:p k = true) (h0:∀ j,j < k→p j = false) :
  (List.range n).filter p = k :: (List.range n).filter (fun j=>p j && decide (j≠k)):=by
 obtain ⟨m,rfl⟩:∃ m,n = k+(m+1):=⟨n - k - 1,by omega⟩
 rw [List.range_add,List.filter_append,List.filter_append,List.range_succ_eq_map]
 have e1:(List.range k).filter p = []:=by
  rw [List.filter_eq_nil_iff];intro j hj;simp at hj;simp [h0 j hj]
 have e2:(List.range k).filter (fun j=>p j && decide (j≠k)) = []:=by
  rw [List.filter_eq_nil_iff];intro j hj;simp at hj;simp [h0 j hj]
 rw [e1,e2]
 simp only [List.nil_append,List.map_cons,Nat.add_zero,List.filter_cons,hp,if_true,ne_eq,not_true_eq_false,decide_false,Bool.and_false,Bool.false_eq_true,if_false]
 congr 1
 apply List.filter_congr
 intro x hx
 simp at hx
 obtain ⟨y,_,rfl⟩:=hx
 simp
theorem wl_zero (k:Nat):wl k 0 = []:=by simp [wl]
theorem wl_step (k x:Nat) (h0:x≠0) (h:x < 2 ^ 64):wl k x = (64 * k+Lib.ctz 64 x+1) :: wl k (x &&& (x - 1)):=by
 obtain ⟨m,hm,hk⟩:=Lib.ctzFrom_spec 64 x (by omega) h
 have e:Lib.ctz 64 x = Lib.ctzFrom 64 x:=by simp [Lib.ctz,h0]
 rw [e]
 generalize Lib.ctzFrom 64 x = c at *
 have hpos:=Nat.two_pow_pos c
 have t1:∀ j,x.testBit j = if j < c then false else (2 * m+1).testBit (j - c):=fun j=>by
  have:=Nat.testBit_two_pow_mul_add (2 * m+1) (i:=c) (b:=0) hpos j
  rw [Nat.add_zero,←hm] at this
  rw [this];simp
 have e2:x - 1 = 2 ^ c * (2 * m)+(2 ^ c - 1):=by
  rw [hm,Nat.mul_add];omega
 have t2:∀ j,(x - 1).testBit j = if j < c then true else (2 * m).testBit (j - c):=fun j=>by
  rw [e2,Nat.testBit_two_pow_mul_add (2 * m) (i:=c) (b:=2 ^ c - 1) (by omega) j]
  by_cases hj:j < c <;> simp [hj]
 have t3:∀ j,(2 * m+1).testBit j = if j = 0 then true else (2 * m).testBit j:=fun j=>by
  cases j with
  | zero=>simp
  | succ j=>simp [Nat.testBit_succ];congr 1;omega
 unfold wl
 rw [filter_range_cons (fun j=>x.testBit j) 64 c hk (by simp [t1]) (fun j hj=>by simp [t1,hj])]
 simp only [List.map_cons]
 congr 2
 apply List.filter_congr
 intro j _
 rw [Nat.testBit_and,t1,t2]
 by_cases hj:j < c
 ·simp [hj]
 ·simp only [hj,if_false,t3]
  by_cases hjc:j = c
  ·subst hjc;simp
  ·simp [hjc,show ¬ j - c = 0 from by omega]
def listS (s:VSet):List Nat:=((List.range 128).filter (fun i=>s.getLsbD i)).map (·+1)
theorem listS_words (s:VSet):listS s = wl 0 (s.setWidth 64).toNat++wl 1 ((s >>> 64).setWidth 64).toNat:=by
 unfold listS wl
 rw [show List.range 128 = List.range 64++(List.range 64).map (fun x=>64+x) from by rw [←List.range_add],List.filter_append,List.map_append,List.filter_map,List.map_map]
 congr 1
 ·have:(List.range 64).filter (fun i=>s.getLsbD i) = (List.range 64).filter (fun j=>(s.setWidth 64).toNat.testBit j):=by
   apply List.filter_congr
   intro j hj
   simp at hj
   rw [BitVec.testBit_toNat,BitVec.getLsbD_setWidth];simp [hj]
  rw [this]
  apply List.map_congr_left;intro j _;omega
 ·have:(List.range 64).filter ((fun i=>s.getLsbD i) ∘ fun x=>64+x) = (List.range 64).filter (fun j=>((s >>> 64).setWidth 64).toNat.testBit j):=by
   apply List.filter_congr
   intro j hj
   simp at hj
   rw [BitVec.testBit_toNat,BitVec.getLsbD_setWidth,BitVec.getLsbD_ushiftRight];simp [hj]
  rw [this]
  apply List.map_congr_left;intro j _;simp [Nat.add_assoc]
theorem wl_len (k x:Nat):(wl k x).length≤64:=by
 unfold wl;rw [List.length_map];exact Nat.le_trans (List.length_filter_le _ _) (by simp)
theorem listS_len (s:VSet):(listS s).length≤128:=by
 unfold listS;rw [List.length_map];exact Nat.le_trans (List.length_filter_le _ _) (by simp)
attribute [local go_sem] Oper.semAt_some
def wlo (s:VSet):Nat:=(s.setWidth 64).toNat
def whi (s:VSet):Nat:=((s >>> 64).setWidth 64).toNat
theorem wlo_lt (s:VSet):wlo s < 18446744073709551616:=BitVec.isLt _
theorem whi_lt (s:VSet):whi s < 18446744073709551616:=BitVec.isLt _
theorem listS_w (s:VSet):listS s = wl 0 (wlo s)++wl 1 (whi s):=listS_words s
set_option maxRecDepth 100000 in
set_option maxHeartbeats 2000000 in
theorem members1_in (n:Nat) (hn:1≤n) (l Bn n₀:Nat) (s:VSet) (J Jx:List Nat→World→Prop)
  (hY:∀ pre x W,J pre W→pre.length < 128→YieldAt Fence.wide (n - 1) Tryz.prog l #[.int .i64 (x:Nat)] W fun e W' =>
    (e = .returned (.bool true)∧J (pre++[x]) W'∧Below n₀ W W')∨(e = .returned (.bool false)∧Jx (pre++[x]) W'))
  (W:World) (hc0:W.cell? ⟨Bn,0,none⟩ = some (.int .u64 (lo s))) (hc1:W.cell? ⟨Bn,1,none⟩ = some (.int .u64 (hi s))) (hT:TzTab W) (hn₀:1 < n₀) (h0:J [] W) :
  CallsIn Fence.wide n Tryz.prog 75 #[.func (.yield l) #[] #[],.pointer (some ⟨Bn,0,none⟩)] W fun e W'=>(∃ v,e = .returned v) ∧
   ((∃ ys,ys = listS s∧J ys W')∨(∃ pre,pre <+: listS s∧Jx pre W')):=by
 refine callsIn_of_wp Tryz.func75 rfl trivial ?_ rfl
 simp only [Tryz.ntmps75,List.size_toArray,List.length_cons,List.length_nil,Nat.reduceAdd,Nat.reduceSub,Array.replicate_succ,Array.replicate_zero,List.push_toArray,List.append_toArray,List.nil_append,List.cons_append]
 have i0:∀ w,(Instr.index 37 (Value.agg #[Value.int IntKind.u64 (lo s),Value.int IntKind.u64 (hi s)]) (Value.int IntKind.i64 0)).run Tryz.prog w = .ok (.int .u64 (wlo s:Int)) w:=fun _=>by kernel_rfl
 have i1:∀ w,(Instr.index 37 (Value.agg #[Value.int IntKind.u64 (lo s),Value.int IntKind.u64 (hi s)]) (Value.int IntKind.i64 1)).run Tryz.prog w = .ok (.int .u64 (whi s:Int)) w:=fun _=>by kernel_rfl
 gi_wp2
 gi_loopw [6] (fun i wr=>∃ (k:Nat) (pre:List Nat),k≤2∧i = .int .i64 k∧Hid (pre = (if k = 0 then [] else if k = 1 then wl 0 (wlo s) else listS s))∧J pre wr∧Hid (TzTab wr))
  (fun i wr=>2 - (intOf i).toNat)
 case atStart=>exact ⟨0,[],by omega,rfl,Lib.hid (by simp),h0,Lib.hid hT⟩
 case round =>
  obtain ⟨k,pre,hk,rfl,hpre,hJ,hT1⟩:=hrel
  obtain hk0 | rfl:k < 2∨k = 2:=by omega
  ·obtain rfl | rfl:k = 0∨k = 1:=by omega
   ·gi_wp2
    gi_loopw [4] (fun v wr=>∃ (x:Nat) (pr:List Nat),v = .int .u64 x∧x < 18446744073709551616∧Hid (pr++wl 0 x = wl 0 (wlo s))∧J pr wr∧Hid (TzTab wr))
     (fun v wr=>(intOf v).toNat)
    case atStart=>exact ⟨_,pre,rfl,by first | exact wlo_lt s | exact whi_lt s,Lib.hid (by rw [hpre.out];simp),hJ,hT1⟩
    case round =>
     obtain ⟨x,pr,rfl,hx,hpr,hJ1,hT2⟩:=hrel
     by_cases hx0:x = 0
     ·have hne:((x:Int) != 0) = false:=by simp [hx0]
      gi_wp2
      go_roundw
      case rel=>exact ⟨0+1,pr,by omega,rfl,Lib.hid (by have:=hpr.out;rw [hx0,wl_zero,List.append_nil] at this;rw [this];simp),hJ1,hT2⟩
      case measure=>simp [intOf]
     ·have hne:((x:Int) != 0) = true:=by simp [hx0]
      have hc:=ctz_lt x hx0 hx
      have hst:=Lib.hid (wl_step 0 x hx0 hx)
      have hle:pr.length < 128:=by
       have:=congrArg List.length (hpr.out)
       rw [hst.out] at this
       simp at this
       have:=(wl_len 0 (wlo s))
       omega
      have hand:bits .and .u64 (x:Int) ((x:Int) - 1) = ((x &&& (x - 1):Nat):Int):=by
       rw [show ((x:Int) - 1) = ((x - 1:Nat):Int) from by omega,bits_and_u64_nat _ _ hx (by omega)]
      have hlt:x &&& (x - 1)≤x - 1:=Nat.and_le_right
      have hx1:1≤(x:Int):=by omega
      clear hx0
      have htz:=Lib.hid (tz_any x hx wr hT2.out)
      generalize hcz:Lib.ctz 64 x = c at *
      replace hcz:=Lib.hid hcz
      obtain ⟨fn,tmps,assign,body,hy,hR⟩:=hY pr (64 * 0+c+1) wr hJ1 hle
      rw [show ((64 * 0+c+1:Nat):Int) = (c:Int)+1 from by omega] at hy
      gi_wp2_with (refine ⟨trivial,?_⟩;gi_at_call 76;refine (callsIn_wide.2 htz.out).mono ?_;rintro e w' ⟨rfl,rfl⟩)
      refine hR.mono ?_
      clear hR hy
      rintro e W3 (⟨rfl,hJ3,hk3⟩ | ⟨rfl,hJx3⟩)
      ·have hT3:=Lib.hid (hT2.out.below hn₀ hk3)
       gi_wp2
       go_roundw
       case rel=>exact ⟨_,_,rfl,by omega,Lib.hid (by rw [←hpr.out,hst.out];simp),hJ3,hT3⟩
       case measure=>simp [intOf];omega
      ·gi_wp2
       refine bodyPost_ret (results_none rfl _ _ _) rfl ?_
       exact ⟨⟨_,rfl⟩,.inr ⟨_,⟨wl 0 (x &&& (x - 1))++wl 1 (whi s),by rw [listS_w,←hpr.out,hst.out];simp⟩,hJx3⟩⟩
   ·gi_wp2
    gi_loopw [4] (fun v wr=>∃ (x:Nat) (pr:List Nat),v = .int .u64 x∧x < 18446744073709551616∧Hid (pr++wl 1 x = listS s)∧J pr wr∧Hid (TzTab wr))
     (fun v wr=>(intOf v).toNat)
    case atStart=>exact ⟨_,pre,rfl,by first | exact wlo_lt s | exact whi_lt s,Lib.hid (by rw [hpre.out,listS_w];simp),hJ,hT1⟩
    case round =>
     obtain ⟨x,pr,rfl,hx,hpr,hJ1,hT2⟩:=hrel
     by_cases hx0:x = 0
     ·have hne:((x:Int) != 0) = false:=by simp [hx0]
      gi_wp2
      go_roundw
      case rel=>exact ⟨1+1,pr,by omega,rfl,Lib.hid (by have:=hpr.out;rw [hx0,wl_zero,List.append_nil] at this;rw [this];simp),hJ1,hT2⟩
      case measure=>simp [intOf]
     ·have hne:((x:Int) != 0) = true:=by simp [hx0]
      have hc:=ctz_lt x hx0 hx
      have hst:=Lib.hid (wl_step 1 x hx0 hx)
      have hle:pr.length < 128:=by
       have:=congrArg List.length (hpr.out)
       rw [hst.out] at this
       simp at this
       have:=(listS_len s)
       omega
      have hand:bits .and .u64 (x:Int) ((x:Int) - 1) = ((x &&& (x - 1):Nat):Int):=by
       rw [show ((x:Int) - 1) = ((x - 1:Nat):Int) from by omega,bits_and_u64_nat _ _ hx (by omega)]
      have hlt:x &&& (x - 1)≤x - 1:=Nat.and_le_right
      have hx1:1≤(x:Int):=by omega
      clear hx0
      have htz:=Lib.hid (tz_any x hx wr hT2.out)
      generalize hcz:Lib.ctz 64 x = c at *
      replace hcz:=Lib.hid hcz
      obtain ⟨fn,tmps,assign,body,hy,hR⟩:=hY pr (64 * 1+c+1) wr hJ1 hle
      rw [show ((64 * 1+c+1:Nat):Int) = 64+(c:Int)+1 from by omega] at hy
      gi_wp2_with (refine ⟨trivial,?_⟩;gi_at_call 76;refine (callsIn_wide.2 htz.out).mono ?_;rintro e w' ⟨rfl,rfl⟩)
      refine hR.mono ?_
      clear hR hy
      rintro e W3 (⟨rfl,hJ3,hk3⟩ | ⟨rfl,hJx3⟩)
      ·have hT3:=Lib.hid (hT2.out.below hn₀ hk3)
       gi_wp2
       go_roundw
       case rel=>exact ⟨_,_,rfl,by omega,Lib.hid (by rw [←hpr.out,hst.out];simp),hJ3,hT3⟩
       case measure=>simp [intOf];omega
      ·gi_wp2
       refine bodyPost_ret (results_none rfl _ _ _) rfl ?_
       exact ⟨⟨_,rfl⟩,.inr ⟨_,⟨wl 1 (x &&& (x - 1)),by rw [←hpr.out,hst.out];simp⟩,hJx3⟩⟩
  ·gi_wp2
   go_end0
   have:=hpre.out
   simp at this
   subst this
   exact ⟨⟨_,rfl⟩,.inl ⟨_,rfl,hJ⟩⟩
set_option maxHeartbeats 1000000 in
theorem members_in (n:Nat) (s:VSet) (w:World) :
  CallsIn Fence.wide n Tryz.prog 55 #[.agg #[.int .u64 (lo s),.int .u64 (hi s)]] w fun e w'=>e = .returned (.func (.func 75) #[] #[.pointer (some ⟨w.heap.size,0,none⟩)])∧w.alloc (.cells #[.int .u64 (lo s),.int .u64 (hi s)] 37) = w':=by
 refine callsIn_of_wp Tryz.func55 rfl trivial ?_ rfl
 simp only [Tryz.ntmps55,List.size_toArray,List.length_cons,List.length_nil,Nat.reduceAdd,Nat.reduceSub,Array.replicate_succ,Array.replicate_zero,List.push_toArray,List.append_toArray,List.nil_append,List.cons_append]
 gi_wp2
 go_ret
 exact ⟨rfl,rfl⟩
end Go.Proofs.YtckhohpbokojdaaGreatDoor
namespace Go.Proofs.YtckhohpbokojdaaGreatDoor
open Go Go.RowKit
set_option maxHeartbeats 400000 in
theorem union_any (a b:VSet) (w:World) :
  Calls Tryz.prog 21 #[encS a,encS b] w fun e w'=>e = .returned (encS (a ||| b))∧Ext w w':=by
 unfold encS
 go_enter Tryz.func21,Tryz.ntmps21
 go_wp2
 go_returns
 exact ⟨by simp [or_lo,or_hi],⟨by go_grown,Nat.le_refl _⟩⟩
set_option maxHeartbeats 400000 in
theorem place_no (v:Int) (w:World) (h:v < 1∨128 < v) :
  Calls Tryz.prog 53 #[.int .i64 v] w fun e w'=>e = .returned (.tuple #[.int .i64 0,.int .u64 0,.bool false])∧w = w':=by
 have hb:(decide (v < 1) || decide (128 < v)) = true:=by simpa using h
 go_enter Tryz.func53,Tryz.ntmps53
 go_wp2
 all_goals go_returns
 all_goals exact ⟨rfl,rfl⟩
def bitOf (v:Int):Int:=IntKind.u64.wrap (2 ^ ((v - 1) % 64).toNat)
set_option maxHeartbeats 400000 in
theorem place_yes (v:Int) (w:World) (h1:1≤v) (h2:v≤128) :
  Calls Tryz.prog 53 #[.int .i64 v] w fun e w'=>e = .returned (.tuple #[.int .i64 ((v - 1) / 64),.int .u64 (bitOf v),.bool true])∧w = w':=by
 go_enter Tryz.func53,Tryz.ntmps53
 go_wp2
 all_goals go_returns
 all_goals exact ⟨rfl,rfl⟩
theorem place_lo (v:Int) (w:World) (h1:1≤v) (h2:v≤64) :
  Calls Tryz.prog 53 #[.int .i64 v] w fun e w'=>e = .returned (.tuple #[.int .i64 0,.int .u64 (bitOf v),.bool true])∧w = w':=by
 have:=place_yes v w h1 (by omega)
 rwa [show (v - 1) / 64 = 0 from by omega] at this
theorem place_hi (v:Int) (w:World) (h1:65≤v) (h2:v≤128) :
  Calls Tryz.prog 53 #[.int .i64 v] w fun e w'=>e = .returned (.tuple #[.int .i64 1,.int .u64 (bitOf v),.bool true])∧w = w':=by
 have:=place_yes v w (by omega) (by omega)
 rwa [show (v - 1) / 64 = 1 from by omega] at this
theorem bitOf_eq (v:Int) (h1:1≤v):bitOf v = ((BitVec.twoPow 64 ((v - 1) % 64).toNat).toNat:Int):=by
 have hb:((v - 1) % 64).toNat < 64:=by omega
 unfold bitOf
 rw [IntKind.wrap_u64,BitVec.toNat_twoPow]
 have:(2:Nat) ^ ((v - 1) % 64).toNat < 2 ^ 64:=Nat.pow_lt_pow_right (by omega) hb
 rw [Nat.mod_eq_of_lt this]
 have h3:((2:Int) ^ ((v - 1) % 64).toNat) = (((2:Nat) ^ ((v - 1) % 64).toNat:Nat):Int):=by simp
 rw [h3]
 generalize 2 ^ ((v - 1) % 64).toNat = m at *
 omega
theorem and_bit (x:BitVec 64) (n:Nat) (hn:n < 64):(bits .and .u64 (x.toNat:Int) ((BitVec.twoPow 64 n).toNat:Int) != 0) = x.getLsbD n:=by
 rw [bits_and_bv,BitVec.and_twoPow]
 cases x.getLsbD n
 ·simp
 ·have:(BitVec.twoPow 64 n).toNat≠0:=by
   rw [BitVec.toNat_twoPow,Nat.mod_eq_of_lt (Nat.pow_lt_pow_right (by omega) hn)]
   exact Nat.pos_iff_ne_zero.1 (Nat.two_pow_pos n)
  simp only [if_true,bne_iff_ne,ne_eq,Int.natCast_eq_zero];exact this
theorem has_lo (a:VSet) (v:Int) (h1:1≤v) (h2:v≤64):(bits .and .u64 (lo a) (bitOf v) != 0) = hasS a v:=by
 rw [bitOf_eq v h1,lo,and_bit _ _ (by omega)]
 have e1:((v - 1) % 64).toNat = (v - 1).toNat:=by omega
 rw [e1,BitVec.getLsbD_setWidth]
 simp only [hasS,h1,show v≤128 from by omega,show (v-1).toNat < 64 from by omega,decide_true,Bool.true_and]
theorem has_hi (a:VSet) (v:Int) (h1:65≤v) (h2:v≤128):(bits .and .u64 (hi a) (bitOf v) != 0) = hasS a v:=by
 rw [bitOf_eq v (by omega),hi,and_bit _ _ (by omega)]
 have e1:64+((v - 1) % 64).toNat = (v - 1).toNat:=by omega
 rw [BitVec.getLsbD_setWidth,BitVec.getLsbD_ushiftRight,e1]
 simp only [hasS,h2,show 1≤v from by omega,show ((v - 1) % 64).toNat < 64 from by omega,decide_true,Bool.true_and]
set_option maxHeartbeats 400000 in
theorem has_any (a:VSet) (v:Int) (w:World) (h1:-9223372036854775808≤v) (h2:v≤9223372036854775807) :
  Calls Tryz.prog 24 #[encS a,.int .i64 v] w fun e w'=>e = .returned (.bool (hasS a v))∧Ext w w':=by
 unfold encS
 by_cases h:v < 1∨128 < v
 ·have hv:hasS a v = false:=by simp [hasS];omega
  rw [hv];clear hv
  go_enter Tryz.func24,Tryz.ntmps24
  go_wp2_with (go_at_call 53;refine (place_no _ _ h).mono ?_;rintro e w' ⟨rfl,rfl⟩)
  go_returns
  exact ⟨rfl,⟨by go_grown,Nat.le_refl _⟩⟩
 ·by_cases hs:v≤64
  ·rw [←has_lo a v (by omega) hs]
   go_enter Tryz.func24,Tryz.ntmps24
   go_wp2_with (go_at_call 53;refine (place_lo _ _ (by omega) hs).mono ?_;rintro e w' ⟨rfl,rfl⟩)
   go_returns
   exact ⟨rfl,⟨by go_grown,Nat.le_refl _⟩⟩
  ·rw [←has_hi a v (by omega) (by omega)]
   go_enter Tryz.func24,Tryz.ntmps24
   go_wp2_with (go_at_call 53;refine (place_hi _ _ (by omega) (by omega)).mono ?_;rintro e w' ⟨rfl,rfl⟩)
   go_returns
   exact ⟨rfl,⟨by go_grown,Nat.le_refl _⟩⟩
theorem with_lo (a:VSet) (v:Int) (h1:1≤v) (h2:v≤64):bits .or .u64 (lo a) (bitOf v) = lo (withS a v)∧hi (withS a v) = hi a:=by
 rw [bitOf_eq v h1]
 unfold lo hi withS
 rw [if_pos ⟨h1,by omega⟩,bits_or_bv]
 have e:((v - 1) % 64).toNat = (v - 1).toNat:=by omega
 rw [e]
 constructor
 ·congr 2
  apply BitVec.eq_of_getLsbD_eq
  intro i hi
  simp only [BitVec.getLsbD_or,BitVec.getLsbD_setWidth,BitVec.getLsbD_twoPow,hi,decide_true,Bool.true_and]
  rw [show decide ((v - 1).toNat < 64) = true from by simp;omega,show decide ((v - 1).toNat < 128) = true from by simp;omega]
 ·congr 2
  apply BitVec.eq_of_getLsbD_eq
  intro i hi
  simp only [BitVec.getLsbD_or,BitVec.getLsbD_setWidth,BitVec.getLsbD_ushiftRight,BitVec.getLsbD_twoPow,hi,decide_true,Bool.true_and]
  rw [show decide ((v - 1).toNat = 64+i) = false from by simp;omega]
  simp
theorem with_hi (a:VSet) (v:Int) (h1:65≤v) (h2:v≤128):bits .or .u64 (hi a) (bitOf v) = hi (withS a v)∧lo (withS a v) = lo a:=by
 rw [bitOf_eq v (by omega)]
 unfold lo hi withS
 rw [if_pos ⟨by omega,by omega⟩,bits_or_bv]
 have e:64+((v - 1) % 64).toNat = (v - 1).toNat:=by omega
 constructor
 ·congr 2
  apply BitVec.eq_of_getLsbD_eq
  intro i hi
  simp only [BitVec.getLsbD_or,BitVec.getLsbD_setWidth,BitVec.getLsbD_ushiftRight,BitVec.getLsbD_twoPow,hi,decide_true,Bool.true_and]
  congr 1
  rw [←e]
  have:((v - 1) % 64).toNat < 64:=by omega
  by_cases hh:((v - 1) % 64).toNat = i <;> simp [hh,this] <;> omega
 ·congr 2
  apply BitVec.eq_of_getLsbD_eq
  intro i hi
  simp only [BitVec.getLsbD_or,BitVec.getLsbD_setWidth,BitVec.getLsbD_twoPow,hi,decide_true,Bool.true_and]
  rw [show decide ((v - 1).toNat = i) = false from by simp;omega]
  simp
set_option maxHeartbeats 400000 in
theorem with_any (a:VSet) (v:Int) (w:World) :
  Calls Tryz.prog 29 #[encS a,.int .i64 v] w fun e w'=>e = .returned (encS (withS a v))∧Ext w w':=by
 unfold encS
 by_cases h:v < 1∨128 < v
 ·have hv:withS a v = a:=if_neg (by omega)
  rw [hv];clear hv
  go_enter Tryz.func29,Tryz.ntmps29
  go_wp2_with (go_at_call 53;refine (place_no _ _ h).mono ?_;rintro e w' ⟨rfl,rfl⟩)
  go_returns
  exact ⟨rfl,⟨by go_grown,Nat.le_refl _⟩⟩
 ·by_cases hs:v≤64
  ·obtain ⟨e1,e2⟩:=with_lo a v (by omega) hs
   rw [e2,←e1]
   clear e1 e2
   go_enter Tryz.func29,Tryz.ntmps29
   go_wp2_with (go_at_call 53;refine (place_lo _ _ (by omega) hs).mono ?_;rintro e w' ⟨rfl,rfl⟩)
   go_returns
   exact ⟨rfl,⟨by go_grown,Nat.le_refl _⟩⟩
  ·obtain ⟨e1,e2⟩:=with_hi a v (by omega) (by omega)
   rw [e2,←e1]
   clear e1 e2
   go_enter Tryz.func29,Tryz.ntmps29
   go_wp2_with (go_at_call 53;refine (place_hi _ _ (by omega) (by omega)).mono ?_;rintro e w' ⟨rfl,rfl⟩)
   go_returns
   exact ⟨rfl,⟨by go_grown,Nat.le_refl _⟩⟩
end Go.Proofs.YtckhohpbokojdaaGreatDoor
namespace Go.Proofs.YtckhohpbokojdaaGreatDoor
open Go Go.RowKit
theorem ofS_take (l:List Int) (k:Nat) (hk:k < l.length):ofS (l.take (k+1)) = withS (ofS (l.take k)) l[k]:=by
 unfold ofS
 rw [List.take_succ_eq_append_getElem hk,List.foldl_append]
 rfl
set_option maxRecDepth 100000 in
set_option maxHeartbeats 1000000 in
theorem of_any (l:List Int) (v:Value) (w:World) (hv:SlI w v l) (hl:l.length≤9223372036854775807) :
  Calls Tryz.prog 52 #[v] w fun e w'=>e = .returned (encS (ofS l))∧Ext w w':=by
 obtain ⟨ba,cp,rfl,hv⟩:=hv
 replace hv:=Lib.hid hv
 unfold encS
 go_enter Tryz.func52,Tryz.ntmps52
 go_wp2_with fail
 go_loopw [8] (fun i wr=>∃ k:Nat,k≤l.length∧i = .int .i64 k∧(wr.heap[w.heap.size+1]? = some (.cells #[.int .u64 (lo (ofS (l.take k))),.int .u64 (hi (ofS (l.take k)))] 37 (0,0))∧wr.heap[w.heap.size]? = some (.cells #[.int .u64 0,.int .u64 0] 37 (0,0))∧Ext w wr))
  (fun i _=>l.length - (intOf i).toNat)
 case atStart =>
  refine ⟨0,Nat.zero_le _,rfl,?_,?_,((Ext.refl w).alloc _).alloc _⟩
  ·have:=heap_alloc_new (w.alloc (.cells #[.int .u64 0,.int .u64 0] 37)) (.cells #[.int .u64 0,.int .u64 0] 37)
   rw [World.size_alloc] at this
   rw [show lo (ofS (l.take 0)) = 0 from by simp [ofS,lo],show hi (ofS (l.take 0)) = 0 from by simp [ofS,hi]]
   exact this
  ·exact (Below.heap_alloc _ _ _ (by simp)).trans (heap_alloc_new w _)
 case round =>
  obtain ⟨k,hk,rfl,hH,hz,hx⟩:=hrel
  have c0:wr.cell? ⟨w.heap.size+1,0,none⟩ = some (.int .u64 (lo (ofS (l.take k)))):=by simp [World.cell?,hH]
  have c1:wr.cell? ⟨w.heap.size+1,1,none⟩ = some (.int .u64 (hi (ofS (l.take k)))):=by simp [World.cell?,hH]
  have z0:wr.cell? ⟨w.heap.size,0,none⟩ = some (.int .u64 0):=by simp [World.cell?,hz]
  have z1:wr.cell? ⟨w.heap.size,1,none⟩ = some (.int .u64 0):=by simp [World.cell?,hz]
  have y0:wr.frozen? ⟨w.heap.size,0,none⟩ = false:=by simp [World.frozen?,hz]
  have y1:wr.frozen? ⟨w.heap.size,1,none⟩ = false:=by simp [World.frozen?,hz]
  by_cases hlt:k < l.length
  ·obtain ⟨b,o,rfl,hcs⟩:∃ b o,ba = some ⟨b,o,none⟩∧∀ j (hj:j < l.length),w.cell? ⟨b,o+j,none⟩ = some (.int .i64 l[j]):=by
    rcases hv.out with ⟨_,rfl,_⟩ | h
    ·simp at hlt
    ·exact h
   have f1:=hx.cell (hcs k hlt)
   have ht:=Lib.hid (ofS_take l k hlt)
   clear hcs
   generalize hs:ofS (l.take k) = s at *
   generalize hu:l[k] = u at *
   replace hs:=Lib.hid hs
   replace hu:=Lib.hid hu
   have hsz:w.heap.size+1 < wr.heap.size:=World.block_lt_of_cell? wr _ c0
   clear z0 z1 y0 y1
   replace hz:=Lib.hid hz
   replace hH:=Lib.hid hH
   have hw:=with_any s u wr
   unfold encS at hw
   go_wp2_with (go_at_call 29;refine hw.mono ?_;rintro e w2 ⟨rfl,hx2⟩;have b0:=hx2.cell c0;have b1:=hx2.cell c1;have q0:=(World.frozen?_of_block (a:=⟨w.heap.size+1,0,none⟩) (hx2.below.block _ hsz)).trans (show wr.frozen? ⟨w.heap.size+1,0,none⟩ = false from by simp [World.frozen?,hH.out]);have q1:=(World.frozen?_of_block (a:=⟨w.heap.size+1,1,none⟩) (hx2.below.block _ hsz)).trans (show wr.frozen? ⟨w.heap.size+1,1,none⟩ = false from by simp [World.frozen?,hH.out]))
   go_roundw
   case rel =>
    have hh2:=(hx2.below.block _ hsz).trans hH.out
    refine ⟨k+1,by omega,by go_num,?_,?_,((hx.trans hx2).setCell (by simp) _).setCell (by simp) _⟩
    ·rw [ht.out]
     exact heap_set2 hh2 _ _
    ·exact ((Below.heap_setCell _ _ _ _ (by simp)).trans (Below.heap_setCell _ _ _ _ (by simp))).trans ((hx2.below.block _ (by omega)).trans hz.out)
   case measure=>simp [intOf];omega
  ·obtain rfl:k = l.length:=by omega
   rw [List.take_length] at c0 c1
   replace hz:=Lib.hid hz
   replace hH:=Lib.hid hH
   have hsz:w.heap.size+1 < wr.heap.size:=World.block_lt_of_cell? wr _ c0
   have r0:((wr.setCell ⟨w.heap.size,0,none⟩ (.int .u64 (lo (ofS l)))).setCell ⟨w.heap.size,1,none⟩ (.int .u64 (hi (ofS l)))).cell? ⟨w.heap.size,0,none⟩ = some (.int .u64 (lo (ofS l))):=by
    rw [World.cell?,heap_set2 hz.out];rfl
   have r1:((wr.setCell ⟨w.heap.size,0,none⟩ (.int .u64 (lo (ofS l)))).setCell ⟨w.heap.size,1,none⟩ (.int .u64 (hi (ofS l)))).cell? ⟨w.heap.size,1,none⟩ = some (.int .u64 (hi (ofS l))):=by
    rw [World.cell?,heap_set2 hz.out];rfl
   go_wp2_with fail
   exact bodyPost_ret (v:=encS (ofS l)) (by simp [results,Tryz.results52,go_sem,r0,r1,encS]) rfl ⟨rfl,(hx.setCell (by simp) _).setCell (by simp) _⟩
end Go.Proofs.YtckhohpbokojdaaGreatDoor
