import Derived.Test.YtckhohpbokojdaaGreatDoorMN15
import Derived.Lib.SlicesCompact
import Derived.Test.YtckhohpbokojdaaGreatDoorMN8
import Derived.Sort.Row
import Derived.Shelf.SlGeneric
import Derived.Shelf.SlSortCmp.Whole1
import Derived.Test.YtckhohpbokojdaaGreatDoorProg
section
set_option linter.unusedSimpArgs false
set_option linter.unusedVariables false
namespace Go.Proofs.YtckhohpbokojdaaGreatDoor
open Go Go.RowKit Go.Shelf
theorem LeL.anti {a b:Int} (h1:LeL a b) (h2:LeL b a):a = b:=by unfold LeL at *;omega
theorem compact_upto {l:List Int} (hs:l.Pairwise LeL):∀ m,m≤l.length→(Lib.compactUpTo l.toArray m).Pairwise (fun a b=>LeL a b∧a≠b)∧∀ z,z∈Lib.compactUpTo l.toArray m↔z∈l.take m
 | 0,_=>⟨by simp [Lib.compactUpTo],fun z=>by simp [Lib.compactUpTo]⟩
 | m+1,hm=>by
   obtain ⟨h1,h2⟩:=compact_upto hs m (by omega)
   have hp:=fun i j (h:i < j) (hj:j < l.length)=>List.pairwise_iff_getElem.1 hs i j (by omega) hj h
   have hget:∀ i (hi:i < l.length),l.toArray[i]! = l[i]:=fun i hi=>by simp [hi]
   have htk:l.take (m+1) = l.take m++[l[m]]:=List.take_succ_eq_append_getElem (by omega)
   rw [Lib.compactUpTo_succ,htk,hget m (by omega)]
   by_cases hk:Lib.keeps l.toArray m = true
   ·rw [if_pos hk]
    refine ⟨?_,fun z=>by rw [List.mem_append,List.mem_append,h2]⟩
    rw [List.pairwise_append]
    refine ⟨h1,List.pairwise_singleton _ _,fun z hz y hy=>?_⟩
    rw [List.mem_singleton.1 hy]
    have hz':=(h2 z).1 hz
    obtain ⟨i,hi,rfl⟩:=List.getElem_of_mem hz'
    rw [List.length_take] at hi
    rw [List.getElem_take]
    have hle:=hp i m (by omega) (by omega)
    refine ⟨hle,fun e=>?_⟩
    unfold Lib.keeps at hk
    rw [decide_eq_true_eq] at hk
    rcases hk with h0 | hne
    ·omega
    ·rw [hget m (by omega),hget (m - 1) (by omega)] at hne
     have a1:=hp (m - 1) m (by omega) (by omega)
     by_cases ei:i = m - 1
     ·subst ei;exact hne e.symm
     ·have a2:=hp i (m - 1) (by omega) (by omega)
      rw [e] at a2
      exact hne (LeL.anti a2 a1)
   ·rw [if_neg hk,List.append_nil]
    refine ⟨h1,fun z=>?_⟩
    rw [h2,List.mem_append,List.mem_singleton]
    refine ⟨.inl,fun h=>h.elim id fun e=>?_⟩
    unfold Lib.keeps at hk
    rw [decide_eq_true_eq,not_or] at hk
    obtain ⟨h0,hne⟩:=hk
    rw [hget m (by omega),hget (m - 1) (by omega)] at hne
    have e2:l[m] = l[m - 1]:=Classical.not_not.1 hne
    rw [e,e2]
    exact List.mem_take_iff_getElem.2 ⟨m - 1,by omega,rfl⟩
theorem compact_sorted {l:List Int} (hs:l.Pairwise LeL):(Lib.compact l).Pairwise (fun a b=>LeL a b∧a≠b)∧∀ z,z∈Lib.compact l↔z∈l:=by
 have h:=compact_upto hs l.length (Nat.le_refl _)
 rw [List.take_length] at h
 exact h
end Go.Proofs.YtckhohpbokojdaaGreatDoor
end
section
set_option linter.unusedSimpArgs false
set_option linter.unusedVariables false
namespace Go.Proofs.YtckhohpbokojdaaGreatDoor
open Go Go.RowKit Go.Shelf Go.Sort
theorem putCells_val (o:Nat) (d:Array LitB) (c:Array Value):putCells encLB o d c = putCells (Value.int .i64) o (d.map Subtype.val) c:=by
 unfold putCells
 apply Array.ext
 ·simp
 ·intro k h1 h2
  simp only [Array.getElem_mapIdx,Array.size_map]
  split
  ·rename_i h
   have hk:k - o < d.size:=by omega
   rw [getElem!_pos d (k - o) hk,getElem!_pos (d.map Subtype.val) (k - o) (by simpa using hk),Array.getElem_map]
   rfl
  ·rfl
theorem putRow_val (w:World) (b o:Nat) (d:Array LitB):putRow encLB w b o d = putRow (Value.int .i64) w b o (d.map Subtype.val):=by
 unfold putRow
 congr 1
 funext c
 exact putCells_val o d c
theorem holds_val {w:World} {b o:Nat} {d:Array LitB} (h:Holds (Value.int .i64) w b o (d.map Subtype.val)):Holds encLB w b o d:=fun j hj=>by
 have:=h j (by simpa using hj)
 rw [getElem!_pos (d.map Subtype.val) j (by simpa using hj),Array.getElem_map] at this
 rw [getElem!_pos d j hj]
 exact this
theorem litB_of (l:List Int) (h:∀ z∈l,-128≤z∧z≤128):∃ d:List LitB,d.map Subtype.val = l:=by
 induction l with
 | nil=>exact ⟨[],rfl⟩
 | cons a r ih =>
   obtain ⟨d,hd⟩:=ih fun z hz=>h z (List.mem_cons_of_mem _ hz)
   exact ⟨⟨a,h a (List.mem_cons_self ..)⟩ :: d,by rw [List.map_cons,hd]⟩
def srtL (d:List LitB):List LitB:=d.mergeSort fun x y=>!(ltOf cmpB) y x
theorem srtL_ok (d:List LitB):(srtL d).Perm d∧((srtL d).map Subtype.val).Pairwise LeL:=by
 refine ⟨List.mergeSort_perm _ _,?_⟩
 have h:=List.pairwise_mergeSort (le:=fun x y:LitB=>!(ltOf cmpB) y x) (fun a b c h1 h2=>by
  simp only [Bool.not_eq_true',cmpB_nlt] at *
  omega) (fun a b=>by
  simp only [Bool.or_eq_true,Bool.not_eq_true',cmpB_nlt]
  omega) d
 rw [List.pairwise_map]
 refine h.imp fun {a b} hab=>?_
 simp only [Bool.not_eq_true',cmpB_nlt] at hab
 unfold LeL
 omega
end Go.Proofs.YtckhohpbokojdaaGreatDoor
end
section
namespace Go.Proofs
open Go.Shelf
def Tryz.sortIntG_ren:Go.Shelf.Ren:=⟨fun | 6=>81 | 15=>97 | 14=>96 | 28=>110 | 29=>111 | 20=>102 | 21=>103 | 22=>104 | 23=>105 | 24=>106 | 25=>107 | 26=>108 | 27=>109 | 46=>115 | 47=>116 | 48=>117 | 49=>118 | 50=>119 | 57=>125 | n=>n,fun | 22=>25 | 24=>3 | 25=>101 | 3=>3 | 39=>52 | 0=>0 | 53=>123 | 55=>35 | 4=>4 | 46=>116 | 45=>115 | 50=>120 | 5=>5 | 9=>9 | 66=>128 | 70=>132 | 76=>145 | 77=>146 | n=>n,fun | n=>n⟩
theorem Tryz.sortIntG:Go.Proofs.SlLaysF.n6 Tryz.prog Tryz.sortIntG_ren:={
 mixed:=by kernel_rfl
 f6:=⟨Tryz.f81.name,by decide,Tryz.func81.trans (congrArg some (by kernel_rfl))⟩
 f14:=⟨Tryz.f96.name,by decide,Tryz.func96.trans (congrArg some (by kernel_rfl))⟩
 f15:=Tryz.func97.trans (congrArg some (by kernel_rfl))
 f20:=⟨Tryz.f102.name,by decide,Tryz.func102.trans (congrArg some (by kernel_rfl))⟩
 f21:=⟨Tryz.f103.name,by decide,Tryz.func103.trans (congrArg some (by kernel_rfl))⟩
 f22:=⟨Tryz.f104.name,by decide,Tryz.func104.trans (congrArg some (by kernel_rfl))⟩
 f23:=⟨Tryz.f105.name,by decide,Tryz.func105.trans (congrArg some (by kernel_rfl))⟩
 f24:=⟨Tryz.f106.name,by decide,Tryz.func106.trans (congrArg some (by kernel_rfl))⟩
 f25:=⟨Tryz.f107.name,by decide,Tryz.func107.trans (congrArg some (by kernel_rfl))⟩
 f26:=⟨Tryz.f108.name,by decide,Tryz.func108.trans (congrArg some (by kernel_rfl))⟩
 f27:=⟨Tryz.f109.name,by decide,Tryz.func109.trans (congrArg some (by kernel_rfl))⟩
 f28:=Tryz.func110.trans (congrArg some (by kernel_rfl))
 f29:=Tryz.func111.trans (congrArg some (by kernel_rfl))
 f46:=⟨Tryz.f115.name,by decide,Tryz.func115.trans (congrArg some (by kernel_rfl))⟩
 f47:=Tryz.func116.trans (congrArg some (by kernel_rfl))
 f48:=Tryz.func117.trans (congrArg some (by kernel_rfl))
 f49:=⟨Tryz.f118.name,by decide,Tryz.func118.trans (congrArg some (by kernel_rfl))⟩
 f50:=⟨Tryz.f119.name,by decide,Tryz.func119.trans (congrArg some (by kernel_rfl))⟩
 f57:=⟨Tryz.f125.name,by decide,Tryz.func125.trans (congrArg some (by kernel_rfl))⟩
 t0:=Tryz.underlying0
 a0:=Tryz.isAgg0
 z0:=Tryz.sizeOf0
 v0:=Tryz.zeroValue0
 t3:=Tryz.underlying3
 a3:=Tryz.isAgg3
 z3:=Tryz.sizeOf3
 v3:=Tryz.zeroValue3
 t4:=Tryz.underlying4
 a4:=Tryz.isAgg4
 z4:=Tryz.sizeOf4
 v4:=Tryz.zeroValue4
 t5:=Tryz.underlying5
 a5:=Tryz.isAgg5
 z5:=Tryz.sizeOf5
 v5:=Tryz.zeroValue5
 t9:=Tryz.underlying9
 a9:=Tryz.isAgg9
 z9:=Tryz.sizeOf9
 v9:=Tryz.zeroValue9
 t22:=Tryz.underlying25
 a22:=Tryz.isAgg25
 z22:=Tryz.sizeOf25
 v22:=Tryz.zeroValue25
 a24:=Tryz.isAgg3
 z24:=Tryz.sizeOf3
 t25:=Tryz.underlying101
 a25:=Tryz.isAgg101
 z25:=Tryz.sizeOf101
 v25:=Tryz.zeroValue101
 t39:=Tryz.underlying52
 a39:=Tryz.isAgg52
 z39:=Tryz.sizeOf52
 v39:=Tryz.zeroValue52
 t45:=Tryz.underlying115
 a45:=Tryz.isAgg115
 z45:=Tryz.sizeOf115
 v45:=Tryz.zeroValue115
 t46:=Tryz.underlying116
 a46:=Tryz.isAgg116
 z46:=Tryz.sizeOf116
 v46:=Tryz.zeroValue116
 t50:=Tryz.underlying120
 a50:=Tryz.isAgg120
 z50:=Tryz.sizeOf120
 v50:=Tryz.zeroValue120
 t53:=Tryz.underlying123
 a53:=Tryz.isAgg123
 z53:=Tryz.sizeOf123
 v53:=Tryz.zeroValue123
 t55:=Tryz.underlying35
 a55:=Tryz.isAgg35
 z55:=Tryz.sizeOf35
 v55:=Tryz.zeroValue35
 t66:=Tryz.underlying128
 a66:=Tryz.isAgg128
 z66:=Tryz.sizeOf128
 v66:=Tryz.zeroValue128
 t70:=Tryz.underlying132
 a70:=Tryz.isAgg132
 z70:=Tryz.sizeOf132
 v70:=Tryz.zeroValue132
 t76:=Tryz.underlying145
 a76:=Tryz.isAgg145
 z76:=Tryz.sizeOf145
 v76:=Tryz.zeroValue145
 t77:=Tryz.underlying146
 a77:=Tryz.isAgg146
 z77:=Tryz.sizeOf146
 v77:=Tryz.zeroValue146 }
end Go.Proofs
end
