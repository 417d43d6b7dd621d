import Derived.Shelf.SlGeneric
import Derived.Shelf.Lays7
import Derived.Shelf.Spec.TrailingZeros
import Derived.Shelf.SlicesE.Clone
import Derived.Test.YtmnjakejhbpkoaaGreatDoorProg
import Derived.Test.YtmnjakejhbpkoaaGreatDoorWBase
section
namespace Go.Proofs
open Go.Shelf
def Tryz.laysTz_ren:Go.Shelf.Ren:=⟨fun | 29=>201 | n=>n,fun | 22=>39 | 3=>3 | 4=>4 | 25=>131 | 54=>255 | 0=>0 | 5=>5 | n=>n,fun | 1=>1 | n=>n⟩
theorem Tryz.laysTz:Go.Proofs.Lays7.n29 Tryz.prog Tryz.laysTz_ren:={
 mixed:=by kernel_rfl
 f29:=Tryz.func201.trans (congrArg some (by kernel_rfl))
 t0:=Tryz.underlying0
 a0:=Tryz.isAgg0
 z0:=Tryz.sizeOf0
 v0:=Tryz.zeroValue0
 i0:=by kernel_rfl
 t3:=Tryz.underlying3
 a3:=Tryz.isAgg3
 z3:=Tryz.sizeOf3
 v3:=Tryz.zeroValue3
 i3:=by kernel_rfl
 t4:=Tryz.underlying4
 a4:=Tryz.isAgg4
 z4:=Tryz.sizeOf4
 v4:=Tryz.zeroValue4
 i4:=by kernel_rfl
 t5:=Tryz.underlying5
 a5:=Tryz.isAgg5
 z5:=Tryz.sizeOf5
 v5:=Tryz.zeroValue5
 i5:=by kernel_rfl
 t22:=Tryz.underlying39
 a22:=Tryz.isAgg39
 z22:=Tryz.sizeOf39
 v22:=Tryz.zeroValue39
 i22:=by kernel_rfl
 t25:=Tryz.underlying131
 a25:=Tryz.isAgg131
 z25:=Tryz.sizeOf131
 v25:=Tryz.zeroValue131
 i25:=by kernel_rfl
 t54:=Tryz.underlying255
 a54:=Tryz.isAgg255
 z54:=Tryz.sizeOf255
 g1:=by kernel_rfl }
def Tryz.clonePair_ren:Go.Shelf.Ren:=⟨fun | 41=>170 | n=>n,fun | 22=>156 | 23=>165 | 4=>4 | n=>n,fun | n=>n⟩
theorem Tryz.clonePair:Go.Proofs.SlLaysE0.n41 Tryz.prog Tryz.clonePair_ren:={
 mixed:=by kernel_rfl
 f41:=⟨Tryz.f170.name,by decide,Tryz.func170.trans (congrArg some (by kernel_rfl))⟩
 t4:=Tryz.underlying4
 a4:=Tryz.isAgg4
 z4:=Tryz.sizeOf4
 v4:=Tryz.zeroValue4
 t22:=Tryz.underlying156
 a22:=Tryz.isAgg156
 z22:=Tryz.sizeOf156
 v22:=Tryz.zeroValue156 }
def Tryz.cloneTree_ren:Go.Shelf.Ren:=⟨fun | 41=>130 | n=>n,fun | 22=>26 | 23=>106 | 4=>4 | n=>n,fun | n=>n⟩
theorem Tryz.cloneTree:Go.Proofs.SlLaysE0.n41 Tryz.prog Tryz.cloneTree_ren:={
 mixed:=by kernel_rfl
 f41:=⟨Tryz.f130.name,by decide,Tryz.func130.trans (congrArg some (by kernel_rfl))⟩
 t4:=Tryz.underlying4
 a4:=Tryz.isAgg4
 z4:=Tryz.sizeOf4
 v4:=Tryz.zeroValue4
 t22:=Tryz.underlying26
 a22:=Tryz.isAgg26
 z22:=Tryz.sizeOf26
 v22:=Tryz.zeroValue26 }
end Go.Proofs
end
section
set_option linter.unusedSimpArgs false
set_option linter.unusedVariables false
namespace Go.Proofs.YtmnjakejhbpkoaaGreatDoor
open Go Go.RowKit Go.Shelf
def TzTab (w:World):Prop:=TabAt 1 Lib.deBruijn64tab w
theorem TzTab.below {n:Nat} {w w':World} (h:TzTab w) (hn:1 < n) (hb:Below n w w'):TzTab w' :=
 fun j hj=>(hb.cell (p:=⟨1,j,none⟩) hn).trans (h j hj)
theorem TzTab.lt {w:World} (h:TzTab w):1 < w.heap.size :=
 World.block_lt_of_cell? w _ (h 0 (by decide))
theorem TzTab.ext {w w':World} (h:TzTab w) (hb:Ext w w'):TzTab w':=h.below h.lt hb.below
theorem tz_any (x:Nat) (hx:x < 18446744073709551616) (w:World) (hT:TzTab w) :
  Calls Tryz.prog 201 #[.int .u64 x] w fun e w'=>e = .returned (.int .i64 (Lib.ctz 64 x))∧w = w' :=
 (Any7.bits_TrailingZeros64 Tryz.laysTz x hx w (fun _=>hT)).mono fun _ _ ⟨he,hw⟩=>⟨he,hw.symm⟩
theorem ctz_lt (x:Nat) (h0:x≠0) (h:x < 2 ^ 64):Lib.ctz 64 x < 64:=(Lib.lowest_bit 64 x h0 h).2
end Go.Proofs.YtmnjakejhbpkoaaGreatDoor
end
