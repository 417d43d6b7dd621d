import Derived.Test.YtckhohpbokojdaaGreatDoorMCi1
import Derived.Test.YtckhohpbokojdaaGreatDoorMLaw17
import Derived.Test.YtckhohpbokojdaaGreatDoorMThy
import Derived.Test.YtckhohpbokojdaaGreatDoorMLaw11
import Derived.ChangeKeysEq
import Derived.Test.YtckhohpbokojdaaGreatDoorMReg
import Derived.Test.YtckhohpbokojdaaGreatDoorMRef3
import Derived.Test.YtckhohpbokojdaaGreatDoorMAdd
import Derived.Test.YtckhohpbokojdaaGreatDoorMBase
import Derived.Test.YtckhohpbokojdaaGreatDoorMRegz
import Derived.Shelf.SlGeneric
import Derived.Shelf.SlIterI.Collect
import Derived.Test.YtckhohpbokojdaaGreatDoorProg
section
set_option linter.unusedSimpArgs false
set_option linter.unusedVariables false
namespace Go.Proofs.YtckhohpbokojdaaGreatDoor
open Go Go.RowKit Go.Shelf
set_option maxRecDepth 100000 in
set_option maxHeartbeats 1000000 in
theorem formed1_any {i:Nat} {k:Int} {bx:Nat} {w:World} (hc:w.cell? ⟨bx,0,none⟩ = some (.int .i64 (i:Nat))):Calls Tryz.prog 77 #[.int .i64 k,.pointer (some ⟨bx,0,none⟩)] w fun e w'=>e = .returned (.bool (!(decide (0≤k) && decide (k < i))))∧w = w':=by
 obtain ⟨B,hB⟩:∃ B,B = !(decide (0≤k) && decide (k < (i:Int))):=⟨_,rfl⟩
 rw [←hB]
 by_cases h0:k < 0
 ·have d0:decide (k < 0) = true:=decide_eq_true h0
  have hr:Hid (B = true):=Lib.hid (by rw [hB,decide_eq_false (by omega:¬ 0≤k)];rfl)
  replace h0:=Lib.hid h0
  clear hB
  go_enter Tryz.func77,Tryz.ntmps77
  go_wp2_with fail
  go_ret
  exact ⟨by rw [hr.out] <;> rfl,rfl⟩
 ·have d0:decide (k < 0) = false:=decide_eq_false h0
  have hr:Hid (B = decide (k≥(i:Int))):=Lib.hid (by
   rw [hB,decide_eq_true (by omega:0≤k),Bool.true_and,←decide_not]
   exact decide_eq_decide.2 (by omega))
  replace h0:=Lib.hid h0
  clear hB
  go_enter Tryz.func77,Tryz.ntmps77
  go_wp2_with fail
  go_ret
  exact ⟨by rw [hr.out] <;> rfl,rfl⟩
theorem any_not_all' (l:List Int) (i:Nat):(l.any fun k=>!(decide (0≤k) && decide (k < i))) = !(l.all fun k=>decide (0≤k) && decide (k < i)):=by
 rw [List.all_eq_not_any_not];simp
set_option maxRecDepth 100000 in
set_option maxHeartbeats 8000000 in
theorem formed_any {n kd lt:Int} {ip:List Int} {bb:Option Addr} {cc i:Nat} {w:World} (hn:0≤n∧n≤128) (hs:SlI w (.slice bb ip.length cc) ip) (hl:ip.length≤9223372036854775807) :
  Calls Tryz.prog 57 #[.agg #[.int .i64 kd,.int .i64 lt,.slice bb ip.length cc],.int .i64 n,.int .i64 (i:Nat)] w fun e w'=>e = .returned (.bool (L.fmOk n i ⟨kd,lt,ip⟩))∧Ext w w':=by
 obtain ⟨e0,e1⟩:=alloc2h w (.cells #[.int .i64 kd,.int .i64 lt,.slice bb ip.length cc] 40) (.cells #[.int .i64 (i:Nat)] 3)
 have hx2:Ext w ((w.alloc (.cells #[.int .i64 kd,.int .i64 lt,.slice bb ip.length cc] 40)).alloc (.cells #[.int .i64 (i:Nat)] 3)):=((Ext.refl w).alloc _).alloc _
 obtain ⟨w2,hw2⟩:∃ W,W = (w.alloc (.cells #[.int .i64 kd,.int .i64 lt,.slice bb ip.length cc] 40)).alloc (.cells #[.int .i64 (i:Nat)] 3):=⟨_,rfl⟩
 rw [←hw2] at e0 e1 hx2
 have hbx:∀ V,Ext w2 V→(V.cell? ⟨w.heap.size,0,none⟩ = some (.int .i64 kd)∧V.cell? ⟨w.heap.size,1,none⟩ = some (.int .i64 lt)∧V.cell? ⟨w.heap.size,2,none⟩ = some (.slice bb ip.length cc))∧V.cell? ⟨w.heap.size+1,0,none⟩ = some (.int .i64 (i:Nat)):=fun V h=>by
  have f0:=(h.below.block _ (Array.getElem?_eq_some_iff.1 e0).1).trans e0
  have f1:=(h.below.block _ (Array.getElem?_eq_some_iff.1 e1).1).trans e1
  exact ⟨⟨by rw [World.cell?,f0];rfl,by rw [World.cell?,f0];rfl,by rw [World.cell?,f0];rfl⟩,by rw [World.cell?,f1];rfl⟩
 obtain ⟨⟨k0,k1,k2⟩,k3⟩:=hbx w2 (Ext.refl _)
 have hs2:=hs.ext hx2.below
 have hK1:∀ (c:Array Value) (w:World),(callFunc 77 c).run Tryz.prog w = .ok (.enter 77 c) w:=fun c w=>by simp [go_sem,Tryz.func77]
 have hmf:∀ (fn:Fn) (first cap:Array Value) (w:World),(Instr.makeFunc fn first cap).run Tryz.prog w = .ok (.func fn first cap) w:=fun _ _ _ _=>rfl
 have qf:=containsFunc_any (fm:=77) (q:=.pointer (some ⟨w.heap.size+1,0,none⟩)) hK1 (fun V=>Ext w2 V) (p:=fun k=>!(decide (0≤k) && decide (k < i))) (l:=ip) (v:=.slice bb ip.length cc) (w:=w2) (fun V hV=>hs2.ext hV.below) hl (Ext.refl _) (fun j hj V hV=>(formed1_any (hbx V hV).2).mono fun e w' hh=>⟨hh.1,by rw [←hh.2];exact hV⟩)
 rw [any_not_all'] at qf
 have hdef:L.fmOk n i ⟨kd,lt,ip⟩ = ((ip.all fun k=>decide (0≤k) && decide (k < i)) && L.fmK n ⟨kd,lt,ip⟩):=rfl
 have hK0:L.fmK n ⟨kd,lt,ip⟩ = if kd = 0∨kd = 1 then decide (lt = 0) && decide (ip.length = 0) else if kd = 2 then L.validB n lt && decide (ip.length = 0) else if kd = 3∨kd = 4 then decide (lt = 0) else false:=rfl
 rw [hdef]
 obtain ⟨R,hR⟩:∃ R,R = L.fmK n ⟨kd,lt,ip⟩:=⟨_,rfl⟩
 rw [←hR] at hK0 ⊢
 have qv:=fun W=>valid_any (n:=n) (l:=lt) hn.1 hn.2 W
 have hlz:((ip.length:Int) == 0) = decide (ip.length = 0):=by rw [Bool.eq_iff_iff,beq_iff_eq,decide_eq_true_eq];omega
 generalize hA:(ip.all fun k=>decide (0≤k) && decide (k < i)) = A at *
 replace hA:=Lib.hid hA
 replace hR:=Lib.hid hR
 replace hdef:=Lib.hid hdef
 replace hbx:=Lib.hid hbx
 replace hs:=Lib.hid hs
 replace hs2:=Lib.hid hs2
 generalize hZ:decide (ip.length = 0) = Z at *
 generalize hV:L.validB n lt = B at *
 replace hZ:=Lib.hid hZ
 replace hV:=Lib.hid hV
 replace hK0:=Lib.hid hK0
 generalize ip.length = M at *
 replace e0:=Lib.hid e0
 replace e1:=Lib.hid e1
 replace hx2:=Lib.hid hx2
 replace qv:=Lib.hid qv
 cases A
 ·go_enter Tryz.func57,Tryz.ntmps57
  go_wp2_with fail
  rw [←hw2]
  replace hw2:=Lib.hid hw2
  try go_wp2_with fail
  refine qf.mono ?_
  rintro e w3 ⟨rfl,hx3⟩
  go_wp2_with fail
  go_ret
  exact ⟨rfl,hx2.out.trans hx3⟩
 ·go_enter Tryz.func57,Tryz.ntmps57
  go_wp2_with fail
  rw [←hw2]
  replace hw2:=Lib.hid hw2
  try go_wp2_with fail
  refine qf.mono ?_
  rintro e w3 ⟨rfl,hx3⟩
  obtain ⟨⟨m0,m1,m2⟩,m3⟩:=hbx.out w3 hx3
  have hxx:=Lib.hid (hx2.out.trans hx3)
  clear qf k0 k1 k2 k3
  by_cases h0:kd = 0
  ·subst h0
   have hRr:R = (decide (lt = 0) && Z):=hK0.out.trans (if_pos (.inl rfl))
   cases hl0:decide (lt = 0)
   ·rw [hl0] at hRr
    have dl:(lt == 0) = false:=by rw [beq_eq_false_iff_ne];exact of_decide_eq_false hl0
    replace hRr:R = false:=hRr
    subst hRr
    replace hl0:=Lib.hid hl0
    go_wp2_with fail
    go_ret
    exact ⟨rfl,hxx.out⟩
   ·rw [hl0] at hRr
    have dl:(lt == 0) = true:=by rw [beq_iff_eq];exact of_decide_eq_true hl0
    replace hRr:R = Z:=hRr
    subst hRr
    replace hl0:=Lib.hid hl0
    go_wp2_with fail
    go_ret
    exact ⟨by rw [Bool.true_and];try rfl,hxx.out⟩
  by_cases h1:kd = 1
  ·subst h1
   have hRr:R = (decide (lt = 0) && Z):=hK0.out.trans (if_pos (.inr rfl))
   cases hl0:decide (lt = 0)
   ·rw [hl0] at hRr
    have dl:(lt == 0) = false:=by rw [beq_eq_false_iff_ne];exact of_decide_eq_false hl0
    replace hRr:R = false:=hRr
    subst hRr
    replace hl0:=Lib.hid hl0
    replace h0:=Lib.hid h0
    go_wp2_with fail
    go_ret
    exact ⟨rfl,hxx.out⟩
   ·rw [hl0] at hRr
    have dl:(lt == 0) = true:=by rw [beq_iff_eq];exact of_decide_eq_true hl0
    replace hRr:R = Z:=hRr
    subst hRr
    replace hl0:=Lib.hid hl0
    replace h0:=Lib.hid h0
    go_wp2_with fail
    go_ret
    exact ⟨by rw [Bool.true_and];try rfl,hxx.out⟩
  by_cases h2:kd = 2
  ·subst h2
   have hRr:R = (B && Z):=hK0.out.trans ((if_neg (by decide)).trans (if_pos rfl))
   have q:=qv.out w3
   replace h0:=Lib.hid h0
   replace h1:=Lib.hid h1
   cases B
   ·replace hRr:R = false:=hRr
    subst hRr
    go_wp2_with fail
    refine q.mono ?_
    rintro e w4 ⟨rfl,rfl⟩
    go_wp2_with fail
    go_ret
    exact ⟨rfl,hxx.out⟩
   ·replace hRr:R = Z:=hRr
    subst hRr
    go_wp2_with fail
    refine q.mono ?_
    rintro e w4 ⟨rfl,rfl⟩
    go_wp2_with fail
    go_ret
    exact ⟨by rw [Bool.true_and];try rfl,hxx.out⟩
  have d0:(kd == 0) = false:=by simpa using h0
  have d1:(kd == 1) = false:=by simpa using h1
  have d2:(kd == 2) = false:=by simpa using h2
  have hR3:R = if kd = 3∨kd = 4 then decide (lt = 0) else false:=hK0.out.trans ((if_neg (by omega)).trans (if_neg h2))
  replace h0:=Lib.hid h0
  replace h1:=Lib.hid h1
  replace h2:=Lib.hid h2
  have hlb:(lt == 0) = decide (lt = 0):=by rw [Bool.eq_iff_iff,beq_iff_eq,decide_eq_true_eq]
  by_cases h3:kd = 3
  ·subst h3
   have hRr:Hid (R = (lt == 0)):=Lib.hid (hR3.trans ((if_pos (.inl rfl)).trans hlb.symm))
   replace hlb:=Lib.hid hlb
   replace hR3:=Lib.hid hR3
   go_wp2_with fail
   go_ret
   exact ⟨by rw [hRr.out,Bool.true_and];try rfl,hxx.out⟩
  by_cases h4:kd = 4
  ·subst h4
   have hRr:Hid (R = (lt == 0)):=Lib.hid (hR3.trans ((if_pos (.inr rfl)).trans hlb.symm))
   replace hlb:=Lib.hid hlb
   replace hR3:=Lib.hid hR3
   replace h3:=Lib.hid h3
   go_wp2_with fail
   go_ret
   exact ⟨by rw [hRr.out,Bool.true_and];try rfl,hxx.out⟩
  have d3:(kd == 3) = false:=by simpa using h3
  have d4:(kd == 4) = false:=by simpa using h4
  have hRr:R = false:=hR3.trans (if_neg (by omega))
  subst hRr
  replace hlb:=Lib.hid hlb
  replace hR3:=Lib.hid hR3
  replace h3:=Lib.hid h3
  replace h4:=Lib.hid h4
  go_wp2_with fail
  go_ret
  exact ⟨rfl,hxx.out⟩
end Go.Proofs.YtckhohpbokojdaaGreatDoor
end
section
set_option linter.unusedSimpArgs false
set_option linter.unusedVariables false
namespace Go.Proofs.YtckhohpbokojdaaGreatDoor
open Go Go.RowKit Go.Shelf
set_option maxHeartbeats 400000 in
theorem cut_any (a b:VSet) (w:World):Calls Tryz.prog 26 #[.agg #[.int .u64 (lo a),.int .u64 (hi a)],.agg #[.int .u64 (lo b),.int .u64 (hi b)]] w fun e w'=>e = .returned (.agg #[.int .u64 (lo (a &&& b)),.int .u64 (hi (a &&& b))])∧Ext w w':=by
 go_enter Tryz.func26,Tryz.ntmps26
 go_wp2
 go_returns
 exact ⟨by simp [and_lo,and_hi],⟨by go_grown,Nat.le_refl _⟩⟩
theorem hasS_and (a b:VSet) (v:Int):hasS (a &&& b) v = (hasS a v && hasS b v):=by
 unfold hasS
 rw [BitVec.getLsbD_and]
 cases decide (1≤v) <;> cases decide (v≤128) <;> simp
end Go.Proofs.YtckhohpbokojdaaGreatDoor
end
section
set_option linter.unusedSimpArgs false
set_option linter.unusedVariables false
namespace Go.Proofs.YtckhohpbokojdaaGreatDoor
open Go Go.RowKit Go.Shelf
def t5:List VN:=[⟨-1,-1,1⟩,⟨-1,-1,2⟩,⟨0,1,0⟩,⟨-1,-1,3⟩,⟨2,3,0⟩]
end Go.Proofs.YtckhohpbokojdaaGreatDoor
end
section
namespace Go.Proofs
open Go.Shelf
def Tryz.collectInt_ren:Go.Shelf.Ren:=⟨fun | 8=>54 | 11=>74 | n=>n,fun | 26=>3 | 28=>77 | 24=>25 | 0=>0 | 33=>71 | 4=>4 | n=>n,fun | n=>n⟩
theorem Tryz.collectInt:Go.Proofs.SlLaysZI.n8 Tryz.prog Tryz.collectInt_ren:={
 mixed:=by kernel_rfl
 f8:=⟨Tryz.f54.name,by decide,Tryz.func54.trans (congrArg some (by kernel_rfl))⟩
 f11:=⟨Tryz.f74.name,by decide,Tryz.func74.trans (congrArg some (by kernel_rfl))⟩
 t0:=Tryz.underlying0
 a0:=Tryz.isAgg0
 z0:=Tryz.sizeOf0
 v0:=Tryz.zeroValue0
 t24:=Tryz.underlying25
 a24:=Tryz.isAgg25
 z24:=Tryz.sizeOf25
 v24:=Tryz.zeroValue25
 t26:=Tryz.underlying3
 a26:=Tryz.isAgg3
 z26:=Tryz.sizeOf3
 v26:=Tryz.zeroValue3
 t28:=Tryz.underlying77
 a28:=Tryz.isAgg77
 z28:=Tryz.sizeOf77
 v28:=Tryz.zeroValue77
 i26:=by kernel_rfl }
end Go.Proofs
end
