import Derived.Test.YtckhohpbokojdaaGreatDoorLN13
import Derived.Shelf.SlSortCmp.Insertion
import Derived.Lib.SlicesCompact
import Derived.Test.YtckhohpbokojdaaGreatDoorLN9
import Derived.Sort.Row
import Derived.Shelf.SlGeneric
import Derived.Shelf.SlSortCmp.Whole1
import Derived.Test.YtckhohpbokojdaaGreatDoorProg
import Derived.Shelf.SlSortCmp.WholeK
import Derived.Shelf.SlSortCmp.NoneTotal
import Derived.Test.YtckhohpbokojdaaGreatDoorLVars
import Derived.Test.YtckhohpbokojdaaGreatDoorLReg
import Derived.Test.YtckhohpbokojdaaGreatDoorLLaw17
import Derived.Shelf.Slices.CompactI
import Derived.Lib.RowBridge
section
set_option linter.unusedSimpArgs false
set_option linter.unusedVariables false
namespace Go.Proofs.YtckhohpbokojdaaGreatDoor
open Go Go.RowKit Go.Shelf
def cmpL (a b:Int):Int:=if varF a = varF b then a - b else varF a - varF b
set_option maxRecDepth 100000 in
theorem cmpL_any {a b:Int} (ha:-128≤a∧a≤128) (hb:-128≤b∧b≤128) (w:World):Calls Tryz.prog 83 #[.int .i64 a,.int .i64 b] w fun e w'=>e = .returned (.int .i64 (cmpL a b))∧w = w':=by
 have q1:=var_any a w
 have q2:=var_any b w
 have h1:0≤varF a∧varF a≤128:=by unfold varF;repeat' split;all_goals omega
 have h2:0≤varF b∧varF b≤128:=by unfold varF;repeat' split;all_goals omega
 have hc:cmpL a b = if varF a = varF b then a - b else varF a - varF b:=rfl
 have hw1:IntKind.i64.wrap (a - b) = a - b:=IntWalk.i64_in _ (by omega)
 have hw2:IntKind.i64.wrap (varF a - varF b) = varF a - varF b:=IntWalk.i64_in _ (by omega)
 rw [hc]
 generalize varF a = x at *
 generalize varF b = y at *
 by_cases hxy:x = y
 ·rw [if_pos hxy]
  subst hxy
  clear hc hw2
  go_enter Tryz.func83,Tryz.ntmps83
  go_wp2_with fail
  refine q1.mono ?_
  rintro e w2 ⟨rfl,rfl⟩
  clear q1
  go_wp2_with fail
  refine q2.mono ?_
  rintro e w3 ⟨rfl,rfl⟩
  clear q2
  go_wp2_with fail
  go_ret
  exact ⟨rfl,rfl⟩
 ·rw [if_neg hxy]
  have e1:(x == y) = false:=beq_eq_false_iff_ne.2 hxy
  have e2:(x != y) = true:=by simp [hxy]
  clear hc hw1
  replace hxy:=Lib.hid hxy
  go_enter Tryz.func83,Tryz.ntmps83
  go_wp2_with fail
  refine q1.mono ?_
  rintro e w2 ⟨rfl,rfl⟩
  clear q1
  go_wp2_with fail
  refine q2.mono ?_
  rintro e w3 ⟨rfl,rfl⟩
  clear q2
  go_wp2_with fail
  go_ret
  exact ⟨rfl,rfl⟩
theorem order1_any {a b:Int} (ha:-128≤a∧a≤128) (hb:-128≤b∧b≤128) (w:World):Calls Tryz.prog 82 #[.int .i64 a,.int .i64 b] w fun e w'=>e = .returned (.int .i64 (cmpL a b))∧w = w':=by
 have q:=cmpL_any ha hb w
 generalize cmpL a b = z at *
 go_enter Tryz.func82,Tryz.ntmps82
 go_wp2_with fail
 refine q.mono ?_
 rintro e w2 ⟨rfl,rfl⟩
 clear q
 go_wp2_with fail
 go_ret
 exact ⟨rfl,rfl⟩
end Go.Proofs.YtckhohpbokojdaaGreatDoor
end
section
set_option linter.unusedSimpArgs false
set_option linter.unusedVariables false
namespace Go.Proofs.YtckhohpbokojdaaGreatDoor
open Go Go.RowKit Go.Shelf Go.Sort
abbrev LitB:={z:Int // -128≤z∧z≤128}
instance:Inhabited LitB:=⟨⟨0,by omega,by omega⟩⟩
def encLB (x:LitB):Value:=.int .i64 x.1
def cmpB (x y:LitB):Int:=cmpL x.1 y.1
theorem varF_abs {z:Int} (h:-128≤z∧z≤128):varF z = (z.natAbs:Int):=by
 unfold varF
 repeat' split
 all_goals omega
theorem cmpB_lt (x y:LitB):ltOf cmpB x y = true↔x.1.natAbs < y.1.natAbs∨(x.1.natAbs = y.1.natAbs∧x.1 < y.1):=by
 unfold ltOf cmpB cmpL
 rw [varF_abs x.2,varF_abs y.2,decide_eq_true_eq]
 split <;> omega
theorem cmpB_nlt (x y:LitB):ltOf cmpB x y = false↔¬ (x.1.natAbs < y.1.natAbs∨(x.1.natAbs = y.1.natAbs∧x.1 < y.1)):=by
 rw [←cmpB_lt];simp
theorem cmpB_swo:SWO (ltOf cmpB) where
 irrefl x:=by rw [cmpB_nlt];omega
 trans x y z h1 h2:=by rw [cmpB_lt] at *;omega
 ntrans x y z h1 h2:=by rw [cmpB_nlt] at *;omega
theorem cmpB_total (x y:LitB) (h1:ltOf cmpB x y = false) (h2:ltOf cmpB y x = false):x = y:=by
 rw [cmpB_nlt] at *
 exact Subtype.ext (by omega)
def LeL (a b:Int):Prop:=a.natAbs < b.natAbs∨(a.natAbs = b.natAbs∧a≤b)
theorem opp_of {l:List Int} (hs:l.Pairwise fun a b=>LeL a b∧a≠b) (hz:∀ z∈l,z≠0):OppL l↔∃ z∈l,-z∈l:=by
 constructor
 ·rintro ⟨k,h,e⟩
  exact ⟨l[k],List.getElem_mem (by omega),by rw [←e];exact List.getElem_mem h⟩
 ·rintro ⟨z,h1,h2⟩
  -- the negative one stands first
  have key:∀ a∈l,a < 0→-a∈l→OppL l:=fun a ha hneg hb=>by
   obtain ⟨i,hi,rfl⟩:=List.getElem_of_mem ha
   obtain ⟨j,hj,ej⟩:=List.getElem_of_mem hb
   have hp:=fun i j (h:i < j) (hj:j < l.length)=>List.pairwise_iff_getElem.1 hs i j (by omega) hj h
   have hij:i < j:=by
    rcases Nat.lt_trichotomy i j with h | h | h
    ·exact h
    ·subst h;omega
    ·have:=(hp j i h hi).1
     rw [ej] at this
     unfold LeL at this
     omega
   have hj1:j = i+1:=by
    by_cases e:j = i+1
    ·exact e
    ·exfalso
     have a1:=hp i (i+1) (by omega) (by omega)
     have a2:=hp (i+1) j (by omega) hj
     rw [ej] at a2
     unfold LeL at a1 a2
     omega
   subst hj1
   exact ⟨i,hj,ej⟩
  have hz1:=hz z h1
  by_cases hneg:z < 0
  ·exact key z h1 hneg h2
  ·exact key (-z) h2 (by omega) (by rw [Int.neg_neg];exact h1)
end Go.Proofs.YtckhohpbokojdaaGreatDoor
end
section
set_option linter.unusedSimpArgs false
set_option linter.unusedVariables false
namespace Go.Proofs.YtckhohpbokojdaaGreatDoor
open Go Go.RowKit Go.Shelf
theorem LeL.anti {a b:Int} (h1:LeL a b) (h2:LeL b a):a = b:=by unfold LeL at *;omega
theorem compact_upto {l:List Int} (hs:l.Pairwise LeL):∀ m,m≤l.length→(Lib.compactUpTo l.toArray m).Pairwise (fun a b=>LeL a b∧a≠b)∧∀ z,z∈Lib.compactUpTo l.toArray m↔z∈l.take m
 | 0,_=>⟨by simp [Lib.compactUpTo],fun z=>by simp [Lib.compactUpTo]⟩
 | m+1,hm=>by
   obtain ⟨h1,h2⟩:=compact_upto hs m (by omega)
   have hp:=fun i j (h:i < j) (hj:j < l.length)=>List.pairwise_iff_getElem.1 hs i j (by omega) hj h
   have hget:∀ i (hi:i < l.length),l.toArray[i]! = l[i]:=fun i hi=>by simp [hi]
   have htk:l.take (m+1) = l.take m++[l[m]]:=List.take_succ_eq_append_getElem (by omega)
   rw [Lib.compactUpTo_succ,htk,hget m (by omega)]
   by_cases hk:Lib.keeps l.toArray m = true
   ·rw [if_pos hk]
    refine ⟨?_,fun z=>by rw [List.mem_append,List.mem_append,h2]⟩
    rw [List.pairwise_append]
    refine ⟨h1,List.pairwise_singleton _ _,fun z hz y hy=>?_⟩
    rw [List.mem_singleton.1 hy]
    have hz':=(h2 z).1 hz
    obtain ⟨i,hi,rfl⟩:=List.getElem_of_mem hz'
    rw [List.length_take] at hi
    rw [List.getElem_take]
    have hle:=hp i m (by omega) (by omega)
    refine ⟨hle,fun e=>?_⟩
    unfold Lib.keeps at hk
    rw [decide_eq_true_eq] at hk
    rcases hk with h0 | hne
    ·omega
    ·rw [hget m (by omega),hget (m - 1) (by omega)] at hne
     have a1:=hp (m - 1) m (by omega) (by omega)
     by_cases ei:i = m - 1
     ·subst ei;exact hne e.symm
     ·have a2:=hp i (m - 1) (by omega) (by omega)
      rw [e] at a2
      exact hne (LeL.anti a2 a1)
   ·rw [if_neg hk,List.append_nil]
    refine ⟨h1,fun z=>?_⟩
    rw [h2,List.mem_append,List.mem_singleton]
    refine ⟨.inl,fun h=>h.elim id fun e=>?_⟩
    unfold Lib.keeps at hk
    rw [decide_eq_true_eq,not_or] at hk
    obtain ⟨h0,hne⟩:=hk
    rw [hget m (by omega),hget (m - 1) (by omega)] at hne
    have e2:l[m] = l[m - 1]:=Classical.not_not.1 hne
    rw [e,e2]
    exact List.mem_take_iff_getElem.2 ⟨m - 1,by omega,rfl⟩
theorem compact_sorted {l:List Int} (hs:l.Pairwise LeL):(Lib.compact l).Pairwise (fun a b=>LeL a b∧a≠b)∧∀ z,z∈Lib.compact l↔z∈l:=by
 have h:=compact_upto hs l.length (Nat.le_refl _)
 rw [List.take_length] at h
 exact h
end Go.Proofs.YtckhohpbokojdaaGreatDoor
end
section
set_option linter.unusedSimpArgs false
set_option linter.unusedVariables false
namespace Go.Proofs.YtckhohpbokojdaaGreatDoor
open Go Go.RowKit Go.Shelf Go.Sort
theorem putCells_val (o:Nat) (d:Array LitB) (c:Array Value):putCells encLB o d c = putCells (Value.int .i64) o (d.map Subtype.val) c:=by
 unfold putCells
 apply Array.ext
 ·simp
 ·intro k h1 h2
  simp only [Array.getElem_mapIdx,Array.size_map]
  split
  ·rename_i h
   have hk:k - o < d.size:=by omega
   rw [getElem!_pos d (k - o) hk,getElem!_pos (d.map Subtype.val) (k - o) (by simpa using hk),Array.getElem_map]
   rfl
  ·rfl
theorem putRow_val (w:World) (b o:Nat) (d:Array LitB):putRow encLB w b o d = putRow (Value.int .i64) w b o (d.map Subtype.val):=by
 unfold putRow
 congr 1
 funext c
 exact putCells_val o d c
theorem holds_val {w:World} {b o:Nat} {d:Array LitB} (h:Holds (Value.int .i64) w b o (d.map Subtype.val)):Holds encLB w b o d:=fun j hj=>by
 have:=h j (by simpa using hj)
 rw [getElem!_pos (d.map Subtype.val) j (by simpa using hj),Array.getElem_map] at this
 rw [getElem!_pos d j hj]
 exact this
theorem litB_of (l:List Int) (h:∀ z∈l,-128≤z∧z≤128):∃ d:List LitB,d.map Subtype.val = l:=by
 induction l with
 | nil=>exact ⟨[],rfl⟩
 | cons a r ih =>
   obtain ⟨d,hd⟩:=ih fun z hz=>h z (List.mem_cons_of_mem _ hz)
   exact ⟨⟨a,h a (List.mem_cons_self ..)⟩ :: d,by rw [List.map_cons,hd]⟩
def srtL (d:List LitB):List LitB:=d.mergeSort fun x y=>!(ltOf cmpB) y x
theorem srtL_ok (d:List LitB):(srtL d).Perm d∧((srtL d).map Subtype.val).Pairwise LeL:=by
 refine ⟨List.mergeSort_perm _ _,?_⟩
 have h:=List.pairwise_mergeSort (le:=fun x y:LitB=>!(ltOf cmpB) y x) (fun a b c h1 h2=>by
  simp only [Bool.not_eq_true',cmpB_nlt] at *
  omega) (fun a b=>by
  simp only [Bool.or_eq_true,Bool.not_eq_true',cmpB_nlt]
  omega) d
 rw [List.pairwise_map]
 refine h.imp fun {a b} hab=>?_
 simp only [Bool.not_eq_true',cmpB_nlt] at hab
 unfold LeL
 omega
end Go.Proofs.YtckhohpbokojdaaGreatDoor
end
section
namespace Go.Proofs
open Go.Shelf
def Tryz.sortIntG_ren:Go.Shelf.Ren:=⟨fun | 6=>81 | 15=>97 | 14=>96 | 28=>110 | 29=>111 | 20=>102 | 21=>103 | 22=>104 | 23=>105 | 24=>106 | 25=>107 | 26=>108 | 27=>109 | 46=>115 | 47=>116 | 48=>117 | 49=>118 | 50=>119 | 57=>125 | n=>n,fun | 22=>25 | 24=>3 | 25=>101 | 3=>3 | 39=>52 | 0=>0 | 53=>123 | 55=>35 | 4=>4 | 46=>116 | 45=>115 | 50=>120 | 5=>5 | 9=>9 | 66=>128 | 70=>132 | 76=>145 | 77=>146 | n=>n,fun | n=>n⟩
theorem Tryz.sortIntG:Go.Proofs.SlLaysF.n6 Tryz.prog Tryz.sortIntG_ren:={
 mixed:=by kernel_rfl
 f6:=⟨Tryz.f81.name,by decide,Tryz.func81.trans (congrArg some (by kernel_rfl))⟩
 f14:=⟨Tryz.f96.name,by decide,Tryz.func96.trans (congrArg some (by kernel_rfl))⟩
 f15:=Tryz.func97.trans (congrArg some (by kernel_rfl))
 f20:=⟨Tryz.f102.name,by decide,Tryz.func102.trans (congrArg some (by kernel_rfl))⟩
 f21:=⟨Tryz.f103.name,by decide,Tryz.func103.trans (congrArg some (by kernel_rfl))⟩
 f22:=⟨Tryz.f104.name,by decide,Tryz.func104.trans (congrArg some (by kernel_rfl))⟩
 f23:=⟨Tryz.f105.name,by decide,Tryz.func105.trans (congrArg some (by kernel_rfl))⟩
 f24:=⟨Tryz.f106.name,by decide,Tryz.func106.trans (congrArg some (by kernel_rfl))⟩
 f25:=⟨Tryz.f107.name,by decide,Tryz.func107.trans (congrArg some (by kernel_rfl))⟩
 f26:=⟨Tryz.f108.name,by decide,Tryz.func108.trans (congrArg some (by kernel_rfl))⟩
 f27:=⟨Tryz.f109.name,by decide,Tryz.func109.trans (congrArg some (by kernel_rfl))⟩
 f28:=Tryz.func110.trans (congrArg some (by kernel_rfl))
 f29:=Tryz.func111.trans (congrArg some (by kernel_rfl))
 f46:=⟨Tryz.f115.name,by decide,Tryz.func115.trans (congrArg some (by kernel_rfl))⟩
 f47:=Tryz.func116.trans (congrArg some (by kernel_rfl))
 f48:=Tryz.func117.trans (congrArg some (by kernel_rfl))
 f49:=⟨Tryz.f118.name,by decide,Tryz.func118.trans (congrArg some (by kernel_rfl))⟩
 f50:=⟨Tryz.f119.name,by decide,Tryz.func119.trans (congrArg some (by kernel_rfl))⟩
 f57:=⟨Tryz.f125.name,by decide,Tryz.func125.trans (congrArg some (by kernel_rfl))⟩
 t0:=Tryz.underlying0
 a0:=Tryz.isAgg0
 z0:=Tryz.sizeOf0
 v0:=Tryz.zeroValue0
 t3:=Tryz.underlying3
 a3:=Tryz.isAgg3
 z3:=Tryz.sizeOf3
 v3:=Tryz.zeroValue3
 t4:=Tryz.underlying4
 a4:=Tryz.isAgg4
 z4:=Tryz.sizeOf4
 v4:=Tryz.zeroValue4
 t5:=Tryz.underlying5
 a5:=Tryz.isAgg5
 z5:=Tryz.sizeOf5
 v5:=Tryz.zeroValue5
 t9:=Tryz.underlying9
 a9:=Tryz.isAgg9
 z9:=Tryz.sizeOf9
 v9:=Tryz.zeroValue9
 t22:=Tryz.underlying25
 a22:=Tryz.isAgg25
 z22:=Tryz.sizeOf25
 v22:=Tryz.zeroValue25
 a24:=Tryz.isAgg3
 z24:=Tryz.sizeOf3
 t25:=Tryz.underlying101
 a25:=Tryz.isAgg101
 z25:=Tryz.sizeOf101
 v25:=Tryz.zeroValue101
 t39:=Tryz.underlying52
 a39:=Tryz.isAgg52
 z39:=Tryz.sizeOf52
 v39:=Tryz.zeroValue52
 t45:=Tryz.underlying115
 a45:=Tryz.isAgg115
 z45:=Tryz.sizeOf115
 v45:=Tryz.zeroValue115
 t46:=Tryz.underlying116
 a46:=Tryz.isAgg116
 z46:=Tryz.sizeOf116
 v46:=Tryz.zeroValue116
 t50:=Tryz.underlying120
 a50:=Tryz.isAgg120
 z50:=Tryz.sizeOf120
 v50:=Tryz.zeroValue120
 t53:=Tryz.underlying123
 a53:=Tryz.isAgg123
 z53:=Tryz.sizeOf123
 v53:=Tryz.zeroValue123
 t55:=Tryz.underlying35
 a55:=Tryz.isAgg35
 z55:=Tryz.sizeOf35
 v55:=Tryz.zeroValue35
 t66:=Tryz.underlying128
 a66:=Tryz.isAgg128
 z66:=Tryz.sizeOf128
 v66:=Tryz.zeroValue128
 t70:=Tryz.underlying132
 a70:=Tryz.isAgg132
 z70:=Tryz.sizeOf132
 v70:=Tryz.zeroValue132
 t76:=Tryz.underlying145
 a76:=Tryz.isAgg145
 z76:=Tryz.sizeOf145
 v76:=Tryz.zeroValue145
 t77:=Tryz.underlying146
 a77:=Tryz.isAgg146
 z77:=Tryz.sizeOf146
 v77:=Tryz.zeroValue146 }
end Go.Proofs
end
section
namespace Go.Proofs
open Go.Shelf
def Tryz.sortIntF_ren:Go.Shelf.Ren:=⟨fun | 6=>81 | 15=>97 | 14=>96 | 28=>110 | 29=>111 | 20=>102 | 21=>103 | 22=>104 | 23=>105 | 24=>106 | 25=>107 | 26=>108 | 27=>109 | 46=>115 | 47=>116 | 48=>117 | 49=>118 | 50=>119 | 57=>125 | n=>n,fun | 22=>25 | 24=>3 | 25=>101 | 3=>3 | 39=>52 | 0=>0 | 53=>123 | 55=>35 | 4=>4 | 46=>116 | 45=>115 | 50=>120 | 5=>5 | 9=>9 | 66=>128 | 70=>132 | 76=>145 | 77=>146 | n=>n,fun | n=>n⟩
theorem Tryz.sortIntF:Go.Proofs.SlLaysF0.n6 Tryz.prog Tryz.sortIntF_ren:={
 mixed:=by kernel_rfl
 f6:=⟨Tryz.f81.name,by decide,Tryz.func81.trans (congrArg some (by kernel_rfl))⟩
 f14:=⟨Tryz.f96.name,by decide,Tryz.func96.trans (congrArg some (by kernel_rfl))⟩
 f15:=Tryz.func97.trans (congrArg some (by kernel_rfl))
 f20:=⟨Tryz.f102.name,by decide,Tryz.func102.trans (congrArg some (by kernel_rfl))⟩
 f21:=⟨Tryz.f103.name,by decide,Tryz.func103.trans (congrArg some (by kernel_rfl))⟩
 f22:=⟨Tryz.f104.name,by decide,Tryz.func104.trans (congrArg some (by kernel_rfl))⟩
 f23:=⟨Tryz.f105.name,by decide,Tryz.func105.trans (congrArg some (by kernel_rfl))⟩
 f24:=⟨Tryz.f106.name,by decide,Tryz.func106.trans (congrArg some (by kernel_rfl))⟩
 f25:=⟨Tryz.f107.name,by decide,Tryz.func107.trans (congrArg some (by kernel_rfl))⟩
 f26:=⟨Tryz.f108.name,by decide,Tryz.func108.trans (congrArg some (by kernel_rfl))⟩
 f27:=⟨Tryz.f109.name,by decide,Tryz.func109.trans (congrArg some (by kernel_rfl))⟩
 f28:=Tryz.func110.trans (congrArg some (by kernel_rfl))
 f29:=Tryz.func111.trans (congrArg some (by kernel_rfl))
 f46:=⟨Tryz.f115.name,by decide,Tryz.func115.trans (congrArg some (by kernel_rfl))⟩
 f47:=Tryz.func116.trans (congrArg some (by kernel_rfl))
 f48:=Tryz.func117.trans (congrArg some (by kernel_rfl))
 f49:=⟨Tryz.f118.name,by decide,Tryz.func118.trans (congrArg some (by kernel_rfl))⟩
 f50:=⟨Tryz.f119.name,by decide,Tryz.func119.trans (congrArg some (by kernel_rfl))⟩
 f57:=⟨Tryz.f125.name,by decide,Tryz.func125.trans (congrArg some (by kernel_rfl))⟩
 t0:=Tryz.underlying0
 a0:=Tryz.isAgg0
 z0:=Tryz.sizeOf0
 v0:=Tryz.zeroValue0
 t3:=Tryz.underlying3
 a3:=Tryz.isAgg3
 z3:=Tryz.sizeOf3
 v3:=Tryz.zeroValue3
 t4:=Tryz.underlying4
 a4:=Tryz.isAgg4
 z4:=Tryz.sizeOf4
 v4:=Tryz.zeroValue4
 t5:=Tryz.underlying5
 a5:=Tryz.isAgg5
 z5:=Tryz.sizeOf5
 v5:=Tryz.zeroValue5
 t9:=Tryz.underlying9
 a9:=Tryz.isAgg9
 z9:=Tryz.sizeOf9
 v9:=Tryz.zeroValue9
 t22:=Tryz.underlying25
 a22:=Tryz.isAgg25
 z22:=Tryz.sizeOf25
 v22:=Tryz.zeroValue25
 t25:=Tryz.underlying101
 a25:=Tryz.isAgg101
 z25:=Tryz.sizeOf101
 v25:=Tryz.zeroValue101
 t39:=Tryz.underlying52
 a39:=Tryz.isAgg52
 z39:=Tryz.sizeOf52
 v39:=Tryz.zeroValue52
 t45:=Tryz.underlying115
 a45:=Tryz.isAgg115
 z45:=Tryz.sizeOf115
 v45:=Tryz.zeroValue115
 t46:=Tryz.underlying116
 a46:=Tryz.isAgg116
 z46:=Tryz.sizeOf116
 v46:=Tryz.zeroValue116
 t50:=Tryz.underlying120
 a50:=Tryz.isAgg120
 z50:=Tryz.sizeOf120
 v50:=Tryz.zeroValue120
 t53:=Tryz.underlying123
 a53:=Tryz.isAgg123
 z53:=Tryz.sizeOf123
 v53:=Tryz.zeroValue123
 t55:=Tryz.underlying35
 a55:=Tryz.isAgg35
 z55:=Tryz.sizeOf35
 v55:=Tryz.zeroValue35
 t66:=Tryz.underlying128
 a66:=Tryz.isAgg128
 z66:=Tryz.sizeOf128
 v66:=Tryz.zeroValue128
 t70:=Tryz.underlying132
 a70:=Tryz.isAgg132
 z70:=Tryz.sizeOf132
 v70:=Tryz.zeroValue132
 t76:=Tryz.underlying145
 a76:=Tryz.isAgg145
 z76:=Tryz.sizeOf145
 v76:=Tryz.zeroValue145
 t77:=Tryz.underlying146
 a77:=Tryz.isAgg146
 z77:=Tryz.sizeOf146
 v77:=Tryz.zeroValue146 }
end Go.Proofs
end
section
set_option linter.unusedSimpArgs false
set_option linter.unusedVariables false
namespace Go.Proofs.YtckhohpbokojdaaGreatDoor
open Go Go.RowKit Go.Shelf Go.Sort
theorem lsort_any {d:List LitB} {v:Value} {w:World} {base:Nat} (ho:w.ownsRow base 3 1 v d.length ((d.map Subtype.val).map encZ)) (hl:d.length≤1048576) :
  Calls Tryz.prog 81 #[v,.func (.func 82) #[] #[]] w fun e w'=>e = .returned (.tuple #[])∧w'.ownsRow base 3 1 v d.length (((srtL d).map Subtype.val).map encZ)∧w.grownBy w' v.ownBlock:=by
 have hK1:∀ (c:Array Value) (w:World),(callFunc 82 c).run Tryz.prog w = .ok (.enter 82 c) w:=fun c w=>by simp [go_sem,Tryz.func82]
 have hlen:(srtL d).length = d.length:=(srtL_ok d).1.length_eq
 rcases ho.2 with ⟨rfl,e⟩ | ⟨g,cap,cur,rfl,hbase,hb,h1,h2,h3,h4⟩
 ·have hd:d = []:=List.length_eq_zero_iff.1 e
  subst hd
  refine (AnyF.slices_SortFunc_none Tryz.sortIntF none 0 _ w).mono ?_
  rintro e w' ⟨rfl,rfl⟩
  have e0:srtL [] = []:=List.length_eq_zero_iff.1 hlen
  exact ⟨rfl,by rw [e0];exact ho,rfl,rfl,rfl,Nat.le_refl _,fun _ _ _=>rfl⟩
 ·have em:(d.map Subtype.val).map encZ = (d.map Subtype.val).map (Value.int .i64):=rfl
  rw [em,show d.length = (d.map Subtype.val).length by simp] at h4
  have hH:Holds encLB w g 0 d.toArray:=holds_val (by rw [List.map_toArray];exact holds_of_blockI hb (by simpa using h4))
  have hone:OneCell encLB:=fun _=>by first | rfl | exact ⟨rfl,rfl⟩ | simp [encLB,Value.oneCell']
  have hcmp:CmpLays1 Tryz.prog 82 #[] encLB cmpB g 0 d.toArray.size w:=fun m os dk hs x y=>(order1_any x.2 y.2 _).mono fun e w' ⟨he,hw⟩=>⟨he,0,#[],by rw [grow_empty,←hw];rfl⟩
  have hc:=Any.slices_SortFunc_total Tryz.sortIntG encLB hone cmpB cmpB_swo 82 #[] g 0 cap d.toArray w (fun a w=>hK1 a w) hcmp hH (Array.getElem?_eq_some_iff.1 hb).1 (by simp;omega) cmpB_total
  rw [List.size_toArray] at hc
  refine hc.mono ?_
  rintro e w' ⟨rfl,n,os,rfl⟩
  have hw:sortWorld encLB w g 0 n (d.toArray.toList.mergeSort fun x y=>!(ltOf cmpB) y x).toArray os = grow (putRow (Value.int .i64) (Sort.ahead w n) g 0 ((srtL d).map Subtype.val).toArray) os:=by
   unfold sortWorld
   rw [putRow_val,List.map_toArray]
   rfl
  rw [hw]
  refine ⟨rfl,?_,grownBy_sortedI _⟩
  have:=ownsRow_sortedI (n:=n) (os:=os) (ss:=d.map Subtype.val) (ts:=(srtL d).map Subtype.val) (by simp [hlen]) hbase hb (by simpa using h1) h2 h3
  have e2:((srtL d).map Subtype.val).map encZ = ((srtL d).map Subtype.val).map (Value.int .i64):=rfl
  rw [e2]
  simpa using this
end Go.Proofs.YtckhohpbokojdaaGreatDoor
end
section
set_option linter.unusedSimpArgs false
set_option linter.unusedVariables false
namespace Go.Proofs.YtckhohpbokojdaaGreatDoor
open Go Go.RowKit Go.Shelf Go.Sort
theorem compactN_any {l:List Int} {v:Value} {w:World} {base:Nat} (ho:w.ownsRow base 3 1 v l.length (l.map encZ)) (hb0:base≤w.heap.size) (hl:l.length≤1048576) :
  Calls Tryz.prog 84 #[v] w fun e w'=>∃ v',e = .returned v'∧SlI w' v' (Lib.compact l)∧Below base w w':=by
 rcases ho.2 with ⟨rfl,e⟩ | ⟨g,cap,cur,rfl,hbase,hb,h1,h2,h3,h4⟩
 ·have hd:l = []:=List.length_eq_zero_iff.1 e
  subst hd
  refine (Any.slices_Compact_int_empty Tryz.compactIntL none 0 w).mono ?_
  rintro e w' ⟨rfl,rfl⟩
  exact ⟨_,rfl,owns_slI (l:=Lib.compact []) (show w'.ownsRow base 3 1 (.slice none 0 0) 0 [] from ⟨rfl,.inl ⟨rfl,rfl⟩⟩),Below.refl _ _⟩
 ·have h4':cur.toList.take l.length = l.map (Value.int .i64):=by
   have e:l.map (Value.int .i64) = l.map encZ:=rfl
   rw [e]
   simpa using h4
  have hH:=holds_of_blockI hb h4'
  refine (Any.slices_Compact_int Tryz.compactIntL g 0 cap l w hH (by omega) h1).mono ?_
  rintro e w' ⟨rfl,q,rfl⟩
  have hcl:(Lib.compact l).length≤l.length:=Lib.compact_length_le l
  have hts:(Lib.compact l++List.replicate (l.length - (Lib.compact l).length) 0).length = l.length:=by simp;omega
  have hrow:=ownsRow_sortedI (n:=q) (os:=#[]) (ss:=l) (ts:=Lib.compact l++List.replicate (l.length - (Lib.compact l).length) 0) hts hbase hb h1 h2 h3
  have hgr:=grownBy_sortedI (w:=w) (g:=g) (n:=q) (os:=#[]) (Lib.compact l++List.replicate (l.length - (Lib.compact l).length) 0).toArray
  rw [grow_empty] at hrow hgr
  refine ⟨_,rfl,⟨_,cap,rfl,.inr ⟨g,0,rfl,fun j hj=>?_⟩⟩,Below.grown (Below.refl _ _) hgr hb0 (fun k e=>by cases e;exact hbase)⟩
  obtain ⟨g',cp',e,hc⟩:=ownsRow_cellN hrow (k:=j) (by rw [List.length_map,hts];omega)
  cases e
  have:=hc j (by rw [List.length_map,hts];omega)
  rw [List.getElem_map,List.getElem_append_left hj] at this
  exact this
set_option maxRecDepth 100000 in
theorem order_any {l:List Int} {v:Value} {w:World} (hv:SlI w v l) (hb:∀ z∈l,-128≤z∧z≤128) (hl:l.length≤1048576) :
  Calls Tryz.prog 59 #[v] w fun e w'=>∃ v' l',e = .returned v'∧SlI w' v' l'∧l'.Pairwise (fun a b=>LeL a b∧a≠b)∧(∀ z,z∈l'↔z∈l)∧Below w.heap.size w w':=by
 obtain ⟨d,hd⟩:=litB_of l hb
 have hdl:d.length = l.length:=by rw [←hd,List.length_map]
 have q:=cloneI_any hv hl
 obtain ⟨ba,cp,rfl,_⟩:=hv
 obtain ⟨hp,hs⟩:=srtL_ok d
 obtain ⟨hc1,hc2⟩:=compact_sorted hs
 have hmem:∀ z,z∈Lib.compact ((srtL d).map Subtype.val)↔z∈l:=fun z=>by
  rw [hc2,←hd]
  exact (hp.map Subtype.val).mem_iff
 have hsl:((srtL d).map Subtype.val).length = d.length:=by rw [List.length_map];exact hp.length_eq
 replace hmem:=Lib.hid hmem
 replace hc1:=Lib.hid hc1
 clear hc2 hs hp
 go_enter Tryz.func59,Tryz.ntmps59
 go_wp2_with fail
 refine q.mono ?_
 rintro e w2 ⟨v2,rfl,ho2,hb2⟩
 have ho2':w2.ownsRow w.heap.size 3 1 v2 d.length ((d.map Subtype.val).map encZ):=by rw [hd,hdl];exact ho2
 have q2:=lsort_any ho2' (by omega)
 replace ho2':=Lib.hid ho2'
 replace hb2:=Lib.hid hb2
 clear q ho2
 go_wp2_with fail
 refine q2.mono ?_
 rintro e w3 ⟨rfl,ho3,hg3⟩
 have hb3:Below w.heap.size w w3:=Below.grown hb2.out hg3 hb2.out.size (fun k e=>own_ge ho2'.out e)
 have q3:=compactN_any (l:=(srtL d).map Subtype.val) (by rw [hsl];exact ho3) hb3.size (by omega)
 replace hb3:=Lib.hid hb3
 clear q2 ho3 hg3
 go_wp2_with fail
 refine q3.mono ?_
 rintro e w4 ⟨v4,rfl,hs4,hb4⟩
 replace hs4:=Lib.hid hs4
 replace hb4:=Lib.hid (hb3.out.trans hb4)
 clear q3
 go_wp2_with fail
 go_ret
 exact ⟨v4,_,rfl,hs4.out,hc1.out,hmem.out,hb4.out⟩
end Go.Proofs.YtckhohpbokojdaaGreatDoor
end
section
set_option linter.unusedSimpArgs false
set_option linter.unusedVariables false
namespace Go.Proofs.YtckhohpbokojdaaGreatDoor
open Go Go.RowKit Go.Shelf
set_option maxRecDepth 100000 in
theorem term_any {n:Int} {l:List Int} {v:Value} {w:World} (hn:0≤n∧n≤128) (hv:SlI w v l) (hl:l.length≤1048576) :
  Calls Tryz.prog 36 #[v,.int .i64 n] w fun e w'=>∃ v' l' b,e = .returned (.tuple #[v',.bool b])∧(b = true↔L.TermL n l)∧(b = true→SlI w' v' l'∧l'.length≤1048576∧∀ z,z∈l'↔z∈l)∧Below w.heap.size w w'∧∃ ba m c,v' = .slice ba m c:=by
 have q:=tvalid_any hn hv (by omega)
 have hvr:∀ z,L.validB n z = true→1≤z.natAbs∧z.natAbs≤128:=fun z h=>by have:=L.validB_range hn.2 h;omega
 cases hA:(l.all fun z=>L.validB n z) with
 | false =>
   rw [hA] at q
   have hno:¬ L.TermL n l:=fun h=>by
    have:(l.all fun z=>L.validB n z) = true:=List.all_eq_true.2 fun z hz=>(h z hz).1
    rw [hA] at this;cases this
   replace hno:=Lib.hid hno
   obtain ⟨ba,cp,rfl,_⟩:=hv
   clear hA hvr
   go_enter Tryz.func36,Tryz.ntmps36
   go_wp2_with fail
   refine q.mono ?_
   rintro e w2 ⟨rfl,hx⟩
   replace hx:=Lib.hid hx
   clear q
   go_wp2_with fail
   go_ret2
   exact ⟨_,[],false,rfl,⟨fun h=>Bool.noConfusion h,fun h=>absurd h hno.out⟩,(fun h=>Bool.noConfusion h),hx.out.below,_,_,_,rfl⟩
 | true =>
   rw [hA] at q
   have hall:=List.all_eq_true.1 hA
   have hb:∀ z∈l,-128≤z∧z≤128:=fun z hz=>by have:=hvr z (hall z hz);omega
   have hnz:∀ z∈l,z≠0:=fun z hz e=>by have:=hvr z (hall z hz);rw [e] at this;simp at this
   have hv':=hv
   obtain ⟨ba,cp,rfl,_⟩:=hv
   replace hv':=Lib.hid hv'
   replace hall:=Lib.hid hall
   replace hb:=Lib.hid hb
   replace hnz:=Lib.hid hnz
   clear hA hvr
   go_enter Tryz.func36,Tryz.ntmps36
   go_wp2_with fail
   refine q.mono ?_
   rintro e w2 ⟨rfl,hx⟩
   have q2:=order_any (hv'.out.ext hx.below) hb.out hl
   replace hx:=Lib.hid hx
   clear q
   go_wp2_with fail
   refine q2.mono ?_
   rintro e w3 ⟨v3,l3,rfl,hs3,hp3,hm3,hb3⟩
   have hl3:l3.length≤1048576:=Nat.le_trans (L.nodup_len l3 l (hp3.imp fun h=>h.2) fun z hz=>(hm3 z).1 hz) hl
   have q3:=opp_any hs3 hl3 fun z hz=>hb.out z ((hm3 z).1 hz)
   have hop:=opp_of hp3 fun z hz=>hnz.out z ((hm3 z).1 hz)
   have hT:(¬ OppL l3)↔L.TermL n l:=by
    rw [hop]
    exact ⟨fun h z hz=>⟨hall.out z hz,fun h2=>h ⟨z,(hm3 z).2 hz,(hm3 _).2 h2⟩⟩,fun h ⟨z,h1,h2⟩=>(h z ((hm3 z).1 h1)).2 ((hm3 _).1 h2)⟩
   have hb3':Below w.heap.size w w3:=hx.out.below.trans (hb3.mono hx.out.size)
   obtain ⟨ba3,cp3,hv3,_⟩:=id hs3
   subst hv3
   replace hs3:=Lib.hid hs3
   replace hm3:=Lib.hid hm3
   replace hT:=Lib.hid hT
   replace hb3':=Lib.hid hb3'
   clear q2 hp3 hop hb3
   go_wp2_with fail
   refine q3.mono ?_
   rintro e w4 ⟨b,rfl,hbo,hx4⟩
   replace hx4:=Lib.hid hx4
   replace hbo:=Lib.hid hbo
   clear q3
   cases b with
   | true =>
     go_wp2_with fail
     go_ret2
     exact ⟨_,[],false,rfl,⟨fun h=>Bool.noConfusion h,fun h=>absurd (hbo.out.1 (by first | trivial | rfl)) (hT.out.2 h)⟩,(fun h=>Bool.noConfusion h),hb3'.out.trans (hx4.out.below.mono hb3'.out.size),_,_,_,rfl⟩
   | false =>
     go_wp2_with fail
     go_ret2
     exact ⟨_,l3,true,rfl,⟨fun _=>hT.out.1 fun h=>Bool.noConfusion (hbo.out.2 h),fun _=>rfl⟩,(fun _=>⟨hs3.out.ext hx4.out.below,hl3,hm3.out⟩),hb3'.out.trans (hx4.out.below.mono hb3'.out.size),_,_,_,rfl⟩
end Go.Proofs.YtckhohpbokojdaaGreatDoor
end
