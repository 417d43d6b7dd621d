import Derived.Test.YtckhohpbokojdaaGreatDoorMD6
import Derived.Test.YtckhohpbokojdaaGreatDoorMCardIn
import Derived.Test.YtckhohpbokojdaaGreatDoorMThy
import Derived.SizedLaws
import Derived.Test.YtckhohpbokojdaaGreatDoorMCi1
import Derived.Test.YtckhohpbokojdaaGreatDoorChecked
import Derived.Test.YtckhohpbokojdaaGreatDoorRows
import Derived.JoinedCond
import Derived.Deep.DeepHandedRow
import Derived.ProofKit
import Derived.WalkKit
section
set_option linter.unusedSimpArgs false
set_option linter.unusedVariables false
namespace Go.Proofs.YtckhohpbokojdaaGreatDoor
open Go Go.ChangeShapes Go.WideShapes Go.ChangeAt Go.RowKit Go.Deep
def patL:List Int:=[12297829382473034410,14757395258967641292,17361641481138401520,18374966859414961920,18446462603027742720,18446744069414584320]
theorem laid_tabs4 {W : World} {l : List (String × DataW Unit)} (hl : l = [("math/bits.deBruijn32tab", Rows.laid_math_bits_deBruijn32tab), ("math/bits.deBruijn64tab", Rows.laid_math_bits_deBruijn64tab), ("internal/strconv.uint64pow10", Rows.laid_internal_strconv_uint64pow10), ("census/shape.patterns", Rows.laid_census_shape_patterns)]) (h : laidMetH Tryz.prog l W) : TzTab W ∧ PowTab W ∧ PatTab W := by
 subst hl
 obtain ⟨hT, hP⟩ := laid_tabs rfl (laidMetH.filter (fun x => x.1 != "census/shape.patterns") h)
 have h3 := laidMetH.filter (fun x => x.1 == "census/shape.patterns") h
 have t3 : Lib.TabIs Tryz.prog W "census/shape.patterns" .u64 patL :=
  Lib.tabIs_of_head (rest := []) (show Tryz.prog.globalNamed "census/shape.patterns" = some 0 by kernel_rfl) (by kernel_rfl) Tryz.underlying81 Tryz.underlying35 (by kernel_rfl) (by kernel_rfl) h3
 refine ⟨hT,hP,fun j hj=>?_⟩
 have := t3.cell (show Tryz.prog.globalNamed "census/shape.patterns" = some 0 by kernel_rfl) j (by simpa [patL] using hj)
 rw [this]
 have:∀ j,j < 6→patL.getD j 0 = ((patW j).toNat:Int):=by decide +kernel
 unfold vU
 rw [←this j hj]
 first | done | rfl
noncomputable def laidWorld4 (os:Os):World :=
 { laidWorld os with heap:=(laidWorld os).heap.modify 0 (setT (patL.map fun z:Int=>Value.int .u64 z).toArray) }
end Go.Proofs.YtckhohpbokojdaaGreatDoor
end
section
set_option linter.unusedSimpArgs false
set_option linter.unusedVariables false
namespace Go.Proofs.YtckhohpbokojdaaGreatDoor
open Go Go.ChangeShapes Go.WideShapes Go.ChangeAt Go.RowKit Go.Deep
theorem okWide_struct {P:Program} {w:World} {r:Reach} {base:Nat} {t:TypeId} {v:Value} {fs:Array Field} (ht:P.underlying t = some (.struct fs)) (h:Value.okWide P w r base t v):∃ cs,v = .agg cs∧cs.size = P.cellsOf t:=by
 simp only [Value.okWide,ht] at h
 obtain ⟨cs,h1,h2,_⟩:=h
 exact ⟨cs,h1,h2⟩
theorem spot_none {W:World} {a:Addr} {v:Value} (h:W.cell? (a.add 0) = some v):∃ b o,a = ⟨b,o,none⟩:=by
 obtain ⟨b,o,spot⟩:=a
 have:spot = none:=by simpa [Addr.add] using World.cell?_spot h
 subst this
 exact ⟨b,o,rfl⟩
theorem open_ints {H:Type} {enc:TypeId × Value→H} {W:World} {spare:Nat→Bool} {held:Bool} {fuel:Nat} {v:Value} {x:DataW H × List MemPlace} (h:DataW.trod enc Tryz.prog W 0 spare held fuel 25 [v] = some x) :
  ∃ l:List Int,SlI W v l:=by
 rcases open_slice1 Tryz.underlying25 (by kernel_rfl) h with ⟨hcs,_⟩ | ⟨a,len,cap,m,n,V,D,Pl,hcs,_,hl,_,hm,_,hf⟩
 ·simp only [List.cons.injEq,and_true] at hcs
  exact ⟨[],none,0,hcs,.inl ⟨rfl,rfl,rfl⟩⟩
 ·simp only [List.cons.injEq,and_true] at hcs
  have hlm:len≤m:=by rw [hm];split <;> omega
  have hcell:∀ i,i < len→∃ p:Int,W.cell? (a.add i) = some (.int .i64 p):=fun i hi=>by
   obtain ⟨c0,t0⟩:=hf i (by omega)
   obtain ⟨k0,e0,_⟩:=open_i64 t0
   rw [e0] at c0
   exact ⟨k0,c0⟩
  by_cases h0:len = 0
  ·subst h0
   exact ⟨[],some a,cap,hcs,.inl ⟨rfl,rfl,rfl⟩⟩
  ·obtain ⟨_,c0⟩:=hcell 0 (by omega)
   obtain ⟨b,o,rfl⟩:=spot_none c0
   obtain ⟨ps,hps,hq⟩:=list_choose len hcell
   subst hps
   refine ⟨ps,some ⟨b,o,none⟩,cap,hcs,.inr ⟨b,o,rfl,fun j hj=>?_⟩⟩
   have:=hq j hj
   rw [Go.WideShapes.add_plain] at this
   exact this
end Go.Proofs.YtckhohpbokojdaaGreatDoor
end
section
set_option linter.unusedSimpArgs false
set_option linter.unusedVariables false
namespace Go.Proofs.YtckhohpbokojdaaGreatDoor
open Go Go.ChangeShapes Go.WideShapes Go.ChangeAt Go.RowKit Go.Deep
theorem open_nodes {H:Type} {enc:TypeId × Value→H} {W:World} {spare:Nat→Bool} {held:Bool} {fuel:Nat} {v:Value} {x:DataW H × List MemPlace} (h:DataW.trod enc Tryz.prog W 0 spare held fuel 22 [v] = some x) :
  ∃ C:List L.Gt,SlC W v C∧C.length≤9223372036854775807:=by
 rcases open_slice_fields Tryz.underlying22 Tryz.underlying40 (by kernel_rfl) (by kernel_rfl) h with ⟨hcs,_⟩ | ⟨a,len,cap,m,D,Pl,hcs,_,hl,hx,hm,_,hf⟩
 ·simp only [List.cons.injEq,and_true] at hcs
  exact ⟨[],⟨none,0,hcs,.inl rfl⟩,by simp⟩
 ·simp only [List.cons.injEq,and_true] at hcs
  have hlm:len≤m:=by rw [hm];split <;> omega
  have hcell:∀ i,i < len→∃ (k l:Int) (u:Value) (ip:List Int),W.cell? (a.add (i * 3+0)) = some (.int .i64 k)∧W.cell? (a.add (i * 3+1)) = some (.int .i64 l)∧W.cell? (a.add (i * 3+2)) = some u∧SlI W u ip:=fun i hi=>by
   obtain ⟨ys,n,_,_,_,hg⟩:=hf i (by omega)
   obtain ⟨v0,y0,c0,_,t0⟩:=hg 0 _ rfl
   obtain ⟨v1,y1,c1,_,t1⟩:=hg 1 _ rfl
   obtain ⟨v2,y2,c2,_,t2⟩:=hg 2 _ rfl
   obtain ⟨k0,e0,_⟩:=DataW.trod_int Tryz.underlying3 t0
   obtain ⟨k1,e1,_⟩:=DataW.trod_int Tryz.underlying3 t1
   simp only [List.cons.injEq,and_true] at e0 e1
   subst e0 e1
   obtain ⟨ip,hip⟩:=open_ints t2
   exact ⟨k0,k1,v2,ip,c0,c1,c2,hip⟩
  by_cases h0:len = 0
  ·subst h0
   exact ⟨[],⟨some a,cap,hcs,.inl rfl⟩,by simp⟩
  ·have hspot:∃ b o,a = ⟨b,o,none⟩:=by
    obtain ⟨_,_,_,_,c0,_,_⟩:=hcell 0 (by omega)
    obtain ⟨b,o,spot⟩:=a
    have:spot = none:=by simpa [Addr.add] using World.cell?_spot c0
    subst this
    exact ⟨b,o,rfl⟩
   obtain ⟨b,o,rfl⟩:=hspot
   have hn:∀ i,i < len→∃ x:L.Gt,W.cell? ⟨b,o+i * 3,none⟩ = some (.int .i64 x.kind)∧W.cell? ⟨b,o+i * 3+1,none⟩ = some (.int .i64 x.lit)∧∃ u,W.cell? ⟨b,o+i * 3+2,none⟩ = some u∧SlI W u x.inp:=fun i hi=>by
    obtain ⟨k,l,u,ip,c0,c1,c2,c3⟩:=hcell i hi
    rw [Go.WideShapes.add_plain] at c0 c1 c2
    rw [←Nat.add_assoc] at c1 c2
    exact ⟨⟨k,l,ip⟩,c0,c1,u,c2,c3⟩
   obtain ⟨C,hC,hq⟩:=list_choose len hn
   subst hC
   exact ⟨C,⟨some ⟨b,o,none⟩,cap,hcs,.inr ⟨b,o,rfl,hq⟩⟩,by unfold maxLen at hx;omega⟩
set_option maxRecDepth 100000 in
theorem open_net {H:Type} {enc:TypeId × Value→H} {W:World} {spare:Nat→Bool} {held:Bool} {fuel:Nat} {cs:Array Value} {x:DataW H × List MemPlace} (hz:cs.size = Tryz.prog.cellsOf 24) (h:DataW.trod enc Tryz.prog W 0 spare held fuel 24 (Value.agg cs).cells.toList = some x) :
  ∃ (n:Int) (C:List L.Gt) (u:Value),Value.agg cs = .agg #[.int .i64 n,u]∧(SlC W u C∧C.length≤9223372036854775807∧(-9223372036854775808≤n∧n≤9223372036854775807)):=by
 have hsz:Tryz.prog.cellsOf 24 = 2:=by kernel_rfl
 have hz2:cs.size = 2:=by rw [hz];exact hsz
 obtain ⟨cs⟩:=cs
 obtain ⟨c0,c1,rfl⟩:∃ c0 c1,cs = [c0,c1]:=by
  match cs,hz2 with
  | [c0,c1],_=>exact ⟨c0,c1,rfl⟩
 obtain ⟨y0,y1,n,_,_,h0,h1⟩:=trod_struct2 Tryz.underlying24 h
 clear hz hz2
 have k0:Tryz.prog.cellsOf 3 = 1:=by kernel_rfl
 have k1:Tryz.prog.cellsOf 22 = 1:=by kernel_rfl
 have h0':DataW.trod enc Tryz.prog W 0 spare held n 3 [c0] = some y0:=by simpa [k0,Value.cells] using h0
 have h1':DataW.trod enc Tryz.prog W 0 spare held n 22 [c1] = some y1:=by simpa [k1,Value.cells] using h1
 obtain ⟨z,e0,hb⟩:=open_i64 h0'
 obtain ⟨C,hC,hCl⟩:=open_nodes h1'
 exact ⟨z,C,c1,by rw [e0],hC,hCl,hb⟩
end Go.Proofs.YtckhohpbokojdaaGreatDoor
end
section
set_option linter.unusedSimpArgs false
set_option linter.unusedVariables false
namespace Go.Proofs.YtckhohpbokojdaaGreatDoor.Cshap
open Go
set_option maxRecDepth 100000
noncomputable abbrev pp:Program:=Tryz.pinned.checked.prog
abbrev cc:OpenClaim:=Rows.condShapesRow
abbrev ss:ChangeSpec:=(OpenSpec.ofChange Rows.condShapesSpec).bare
theorem k1:cc.wf (OpenSpec.ofChange ss) = true:=by kernel_rfl
theorem k2:laidOutB pp = true:=by kernel_rfl
theorem k3:mapsRowed pp = true:=by kernel_rfl
theorem k4:Tryz.f9.params.all (pp.readableRec ·) = true:=by kernel_rfl
theorem k5:namedTie pp cc.named ss.vars = true:=by kernel_rfl
theorem k6:(cc.stops == []) = true:=by kernel_rfl
theorem k7:(pp.stops == []) = true:=by kernel_rfl
theorem k8:(cc.knobs == []) = true:=by kernel_rfl
theorem k9:(pp.stopKnobs == []) = true:=by kernel_rfl
theorem k10:(cc.inPlace == pp.inPlace 9) = true:=by kernel_rfl
theorem k11:(cc.unfollowed == pp.unfollowed 9) = true:=by kernel_rfl
theorem k12:(cc.recurses == pp.recurses 9) = true:=by kernel_rfl
theorem k13:(cc.named == pp.varsNamed 9) = true:=by kernel_rfl
theorem closed:joinedFacts pp 9 Tryz.f9 ss cc = true:=by
 unfold joinedFacts
 rw [k1,k2,k3,k4,k5,k6,k7,k8,k9,k10,k11,k12,k13]
 kernel_rfl
end Go.Proofs.YtckhohpbokojdaaGreatDoor.Cshap
end
