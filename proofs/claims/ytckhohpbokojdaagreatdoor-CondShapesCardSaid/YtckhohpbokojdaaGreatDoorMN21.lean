import Derived.Shelf.SlGeneric
import Derived.Shelf.SlSortCmp.WholeK
import Derived.Test.YtckhohpbokojdaaGreatDoorProg
import Derived.Test.YtckhohpbokojdaaGreatDoorMShelf9
import Derived.Shelf.SlSortCmp.Whole1
import Derived.Shelf.SlSortCmp.NoneTotal
section
namespace Go.Proofs
open Go.Shelf
def Tryz.sortIntF_ren:Go.Shelf.Ren:=⟨fun | 6=>81 | 15=>97 | 14=>96 | 28=>110 | 29=>111 | 20=>102 | 21=>103 | 22=>104 | 23=>105 | 24=>106 | 25=>107 | 26=>108 | 27=>109 | 46=>115 | 47=>116 | 48=>117 | 49=>118 | 50=>119 | 57=>125 | n=>n,fun | 22=>25 | 24=>3 | 25=>101 | 3=>3 | 39=>52 | 0=>0 | 53=>123 | 55=>35 | 4=>4 | 46=>116 | 45=>115 | 50=>120 | 5=>5 | 9=>9 | 66=>128 | 70=>132 | 76=>145 | 77=>146 | n=>n,fun | n=>n⟩
theorem Tryz.sortIntF:Go.Proofs.SlLaysF0.n6 Tryz.prog Tryz.sortIntF_ren:={
 mixed:=by kernel_rfl
 f6:=⟨Tryz.f81.name,by decide,Tryz.func81.trans (congrArg some (by kernel_rfl))⟩
 f14:=⟨Tryz.f96.name,by decide,Tryz.func96.trans (congrArg some (by kernel_rfl))⟩
 f15:=Tryz.func97.trans (congrArg some (by kernel_rfl))
 f20:=⟨Tryz.f102.name,by decide,Tryz.func102.trans (congrArg some (by kernel_rfl))⟩
 f21:=⟨Tryz.f103.name,by decide,Tryz.func103.trans (congrArg some (by kernel_rfl))⟩
 f22:=⟨Tryz.f104.name,by decide,Tryz.func104.trans (congrArg some (by kernel_rfl))⟩
 f23:=⟨Tryz.f105.name,by decide,Tryz.func105.trans (congrArg some (by kernel_rfl))⟩
 f24:=⟨Tryz.f106.name,by decide,Tryz.func106.trans (congrArg some (by kernel_rfl))⟩
 f25:=⟨Tryz.f107.name,by decide,Tryz.func107.trans (congrArg some (by kernel_rfl))⟩
 f26:=⟨Tryz.f108.name,by decide,Tryz.func108.trans (congrArg some (by kernel_rfl))⟩
 f27:=⟨Tryz.f109.name,by decide,Tryz.func109.trans (congrArg some (by kernel_rfl))⟩
 f28:=Tryz.func110.trans (congrArg some (by kernel_rfl))
 f29:=Tryz.func111.trans (congrArg some (by kernel_rfl))
 f46:=⟨Tryz.f115.name,by decide,Tryz.func115.trans (congrArg some (by kernel_rfl))⟩
 f47:=Tryz.func116.trans (congrArg some (by kernel_rfl))
 f48:=Tryz.func117.trans (congrArg some (by kernel_rfl))
 f49:=⟨Tryz.f118.name,by decide,Tryz.func118.trans (congrArg some (by kernel_rfl))⟩
 f50:=⟨Tryz.f119.name,by decide,Tryz.func119.trans (congrArg some (by kernel_rfl))⟩
 f57:=⟨Tryz.f125.name,by decide,Tryz.func125.trans (congrArg some (by kernel_rfl))⟩
 t0:=Tryz.underlying0
 a0:=Tryz.isAgg0
 z0:=Tryz.sizeOf0
 v0:=Tryz.zeroValue0
 t3:=Tryz.underlying3
 a3:=Tryz.isAgg3
 z3:=Tryz.sizeOf3
 v3:=Tryz.zeroValue3
 t4:=Tryz.underlying4
 a4:=Tryz.isAgg4
 z4:=Tryz.sizeOf4
 v4:=Tryz.zeroValue4
 t5:=Tryz.underlying5
 a5:=Tryz.isAgg5
 z5:=Tryz.sizeOf5
 v5:=Tryz.zeroValue5
 t9:=Tryz.underlying9
 a9:=Tryz.isAgg9
 z9:=Tryz.sizeOf9
 v9:=Tryz.zeroValue9
 t22:=Tryz.underlying25
 a22:=Tryz.isAgg25
 z22:=Tryz.sizeOf25
 v22:=Tryz.zeroValue25
 t25:=Tryz.underlying101
 a25:=Tryz.isAgg101
 z25:=Tryz.sizeOf101
 v25:=Tryz.zeroValue101
 t39:=Tryz.underlying52
 a39:=Tryz.isAgg52
 z39:=Tryz.sizeOf52
 v39:=Tryz.zeroValue52
 t45:=Tryz.underlying115
 a45:=Tryz.isAgg115
 z45:=Tryz.sizeOf115
 v45:=Tryz.zeroValue115
 t46:=Tryz.underlying116
 a46:=Tryz.isAgg116
 z46:=Tryz.sizeOf116
 v46:=Tryz.zeroValue116
 t50:=Tryz.underlying120
 a50:=Tryz.isAgg120
 z50:=Tryz.sizeOf120
 v50:=Tryz.zeroValue120
 t53:=Tryz.underlying123
 a53:=Tryz.isAgg123
 z53:=Tryz.sizeOf123
 v53:=Tryz.zeroValue123
 t55:=Tryz.underlying35
 a55:=Tryz.isAgg35
 z55:=Tryz.sizeOf35
 v55:=Tryz.zeroValue35
 t66:=Tryz.underlying128
 a66:=Tryz.isAgg128
 z66:=Tryz.sizeOf128
 v66:=Tryz.zeroValue128
 t70:=Tryz.underlying132
 a70:=Tryz.isAgg132
 z70:=Tryz.sizeOf132
 v70:=Tryz.zeroValue132
 t76:=Tryz.underlying145
 a76:=Tryz.isAgg145
 z76:=Tryz.sizeOf145
 v76:=Tryz.zeroValue145
 t77:=Tryz.underlying146
 a77:=Tryz.isAgg146
 z77:=Tryz.sizeOf146
 v77:=Tryz.zeroValue146 }
end Go.Proofs
end
section
set_option linter.unusedSimpArgs false
set_option linter.unusedVariables false
namespace Go.Proofs.YtckhohpbokojdaaGreatDoor
open Go Go.RowKit Go.Shelf Go.Sort
theorem lsort_any {d:List LitB} {v:Value} {w:World} {base:Nat} (ho:w.ownsRow base 3 1 v d.length ((d.map Subtype.val).map encZ)) (hl:d.length≤1048576) :
  Calls Tryz.prog 81 #[v,.func (.func 82) #[] #[]] w fun e w'=>e = .returned (.tuple #[])∧w'.ownsRow base 3 1 v d.length (((srtL d).map Subtype.val).map encZ)∧w.grownBy w' v.ownBlock:=by
 have hK1:∀ (c:Array Value) (w:World),(callFunc 82 c).run Tryz.prog w = .ok (.enter 82 c) w:=fun c w=>by simp [go_sem,Tryz.func82]
 have hlen:(srtL d).length = d.length:=(srtL_ok d).1.length_eq
 rcases ho.2 with ⟨rfl,e⟩ | ⟨g,cap,cur,rfl,hbase,hb,h1,h2,h3,h4⟩
 ·have hd:d = []:=List.length_eq_zero_iff.1 e
  subst hd
  refine (AnyF.slices_SortFunc_none Tryz.sortIntF none 0 _ w).mono ?_
  rintro e w' ⟨rfl,rfl⟩
  have e0:srtL [] = []:=List.length_eq_zero_iff.1 hlen
  exact ⟨rfl,by rw [e0];exact ho,rfl,rfl,rfl,Nat.le_refl _,fun _ _ _=>rfl⟩
 ·have em:(d.map Subtype.val).map encZ = (d.map Subtype.val).map (Value.int .i64):=rfl
  rw [em,show d.length = (d.map Subtype.val).length by simp] at h4
  have hH:Holds encLB w g 0 d.toArray:=holds_val (by rw [List.map_toArray];exact holds_of_blockI hb (by simpa using h4))
  have hone:OneCell encLB:=fun _=>by first | rfl | exact ⟨rfl,rfl⟩ | simp [encLB,Value.oneCell']
  have hcmp:CmpLays1 Tryz.prog 82 #[] encLB cmpB g 0 d.toArray.size w:=fun m os dk hs x y=>(order1_any x.2 y.2 _).mono fun e w' ⟨he,hw⟩=>⟨he,0,#[],by rw [grow_empty,←hw];rfl⟩
  have hc:=Any.slices_SortFunc_total Tryz.sortIntG encLB hone cmpB cmpB_swo 82 #[] g 0 cap d.toArray w (fun a w=>hK1 a w) hcmp hH (Array.getElem?_eq_some_iff.1 hb).1 (by simp;omega) cmpB_total
  rw [List.size_toArray] at hc
  refine hc.mono ?_
  rintro e w' ⟨rfl,n,os,rfl⟩
  have hw:sortWorld encLB w g 0 n (d.toArray.toList.mergeSort fun x y=>!(ltOf cmpB) y x).toArray os = grow (putRow (Value.int .i64) (Sort.ahead w n) g 0 ((srtL d).map Subtype.val).toArray) os:=by
   unfold sortWorld
   rw [putRow_val,List.map_toArray]
   rfl
  rw [hw]
  refine ⟨rfl,?_,grownBy_sortedI _⟩
  have:=ownsRow_sortedI (n:=n) (os:=os) (ss:=d.map Subtype.val) (ts:=(srtL d).map Subtype.val) (by simp [hlen]) hbase hb (by simpa using h1) h2 h3
  have e2:((srtL d).map Subtype.val).map encZ = ((srtL d).map Subtype.val).map (Value.int .i64):=rfl
  rw [e2]
  simpa using this
end Go.Proofs.YtckhohpbokojdaaGreatDoor
end
