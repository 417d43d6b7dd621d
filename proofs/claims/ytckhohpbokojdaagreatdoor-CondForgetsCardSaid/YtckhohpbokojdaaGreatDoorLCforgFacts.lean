import Derived.Test.YtckhohpbokojdaaGreatDoorLBase
import Derived.Test.YtckhohpbokojdaaGreatDoorLReg
import Derived.Test.YtckhohpbokojdaaGreatDoorCards
import Derived.Test.YtckhohpbokojdaaGreatDoorTie
import Derived.WalkKit
import Derived.ProofKit
import Derived.OpenShut
import Derived.Deep.DeepHandedRow
import Derived.Deep.Slices
import Derived.Deep.Fields
import Derived.ChangeSame
import Derived.LaidSub
import Derived.Lib.LaidTab
import Derived.Test.YtckhohpbokojdaaGreatDoorLCi1
import Derived.SizedLaws
import Derived.Test.YtckhohpbokojdaaGreatDoorChecked
import Derived.Test.YtckhohpbokojdaaGreatDoorRows
import Derived.JoinedCond
section
set_option linter.unusedSimpArgs false
set_option linter.unusedVariables false
namespace Go.Proofs.YtckhohpbokojdaaGreatDoor
open Go Go.ChangeShapes Go.WideShapes Go.ChangeAt Go.RowKit Go.Deep
theorem own:ownKnob Tryz.prog.godebug = none:=by kernel_rfl
theorem laidOut:laidOutB Tryz.prog = true:=by kernel_rfl
section
variable {H:Type} {enc:TypeId × Value→H} {P:Program} {w:World} {base:Nat} {spare:Nat→Bool} {held:Bool}
theorem open_slice_fields {t e:TypeId} {fs:Array Field} {fuel:Nat} {cs:List Value} {x:DataW H × List MemPlace} (ht:P.underlying t = some (.slice e)) (he:P.underlying e = some (.struct fs))
  (hone:oneCellFields P fs = true) (hC:P.cellsOf e = fs.size) (h:DataW.trod enc P w base spare held fuel t cs = some x) :
  (cs = [.slice none 0 0]∧x = (.nil,[])) ∨
  ∃ (a:Addr) (len cap m:Nat) (D:Nat→DataW H) (Pl:Nat→List MemPlace),cs = [.slice (some a) len cap]∧base≤a.block∧len≤cap∧cap≤maxLen∧m = (if spare a.block then cap else len) ∧
    x = (.slice ((List.range len).map D) ((List.range (m - len)).map fun j=>D (len+j)),MemPlace.row a (m * fs.size)++(List.range m).flatMap Pl) ∧
    ∀ i,i < m→∃ (ys:List (DataW H × List MemPlace)) (n:Nat),D i = .agg (ys.map (·.1))∧Pl i = ys.flatMap (·.2)∧ys.length = fs.size ∧
      ∀ (j:Nat) (f:Field),fs[j]? = some f→∃ (v:Value) (y:DataW H × List MemPlace),w.cell? (a.add (i * fs.size+j)) = some v∧ys[j]? = some y∧DataW.trod enc P w base spare held n f.type [v] = some y:=by
 rcases open_slice ht h with h0 | ⟨a,len,cap,m,n,D,Pl,hcs,hb,hl,hm,hmm,hx,hi⟩
 ·exact .inl h0
 ·refine .inr ⟨a,len,cap,m,D,Pl,hcs,hb,hl,hm,hmm,by rw [hC] at hx;exact hx,fun i him=>?_⟩
  obtain ⟨cs',hc,ht'⟩:=hi i him
  rw [hC] at hc
  obtain ⟨ys,n',hn',hy,hlen,hyl,hf⟩:=DataW.trod_struct he ht'
  obtain ⟨_,hcl,hat⟩:=World.cells?_some hc
  simp only [Prod.mk.injEq] at hy
  refine ⟨ys,n',hy.1,hy.2,hyl,fun j f hj=>?_⟩
  obtain ⟨ho,hk⟩:=hone_of hone j f hj
  have hjl:j < fs.size:=(Array.getElem?_eq_some_iff.1 hj).1
  have hcell:=hat j hjl
  have hv:cs'[j]? = some (cs'[j]'(by omega)):=List.getElem?_eq_getElem (by omega)
  have h1:=hf j f hj
  rw [ho,hk] at h1
  have hone':(cs'.drop j).take 1 = [cs'[j]'(by omega)]:=by
   rw [List.drop_eq_getElem_cons (by omega)]
   rfl
  rw [hone'] at h1
  have hys:ys[j]? = some (ys[j]'(by omega)):=List.getElem?_eq_getElem (by omega)
  refine ⟨_,_,?_,hys,h1.trans hys⟩
  rw [←Go.Deep.add_add,hcell,hv]
end
theorem list_choose {α:Type} {Q:Nat→α→Prop}:∀ n,(∀ i,i < n→∃ x,Q i x)→∃ l:List α,l.length = n∧∀ i (hi:i < l.length),Q i l[i]
 | 0,_=>⟨[],rfl,fun i hi=>absurd hi (Nat.not_lt_zero _)⟩
 | n+1,h=>by
   obtain ⟨l,hl,hq⟩:=list_choose n (fun i hi=>h i (by omega))
   obtain ⟨x,hx⟩:=h n (by omega)
   refine ⟨l++[x],by simp [hl],fun i hi=>?_⟩
   by_cases hlt:i < l.length
   ·rw [List.getElem_append_left hlt];exact hq i hlt
   ·have e:i = l.length:=by simp at hi;omega
    subst e
    rw [List.getElem_append_right (Nat.le_refl _)]
    simp only [Nat.sub_self,List.getElem_cons_zero]
    rw [hl];exact hx
theorem laid_tabs {W : World} {l : List (String × DataW Unit)} (hl : l = [("math/bits.deBruijn32tab", Rows.laid_math_bits_deBruijn32tab), ("math/bits.deBruijn64tab", Rows.laid_math_bits_deBruijn64tab), ("internal/strconv.uint64pow10", Rows.laid_internal_strconv_uint64pow10)]) (h : laidMetH Tryz.prog l W) : TzTab W ∧ PowTab W := by
 subst hl
 have h1 := laidMetH.filter (fun x => x.1 == "math/bits.deBruijn64tab") h
 have h2 := laidMetH.filter (fun x => x.1 == "internal/strconv.uint64pow10") h
 have t1 : Lib.TabIs Tryz.prog W "math/bits.deBruijn64tab" .u8 (Lib.deBruijn64tab.map fun n : Nat => (n : Int)) :=
  Lib.tabIs_of_head (rest := []) (show Tryz.prog.globalNamed "math/bits.deBruijn64tab" = some 1 by kernel_rfl) (by kernel_rfl) Tryz.underlying107 Tryz.underlying5 (by kernel_rfl) (by kernel_rfl) h1
 have t2 : Lib.TabIs Tryz.prog W "internal/strconv.uint64pow10" .u64 Lib.pow10Tab :=
  Lib.tabIs_of_head (rest := []) (show Tryz.prog.globalNamed "internal/strconv.uint64pow10" = some 2 by kernel_rfl) (by kernel_rfl) Tryz.underlying165 Tryz.underlying35 (by kernel_rfl) (by kernel_rfl) h2
 refine ⟨fun j hj=>?_,t2⟩
 have := t1.cell (show Tryz.prog.globalNamed "math/bits.deBruijn64tab" = some 1 by kernel_rfl) j (by simpa using hj)
 rw [this]
 congr 1
 rw [List.getD_eq_getElem?_getD,List.getD_eq_getElem?_getD,List.getElem?_map]
 rw [List.getElem?_eq_getElem hj]
 rfl
theorem trodAll_below {H:Type} {enc:TypeId × Value→H} {P:Program} (hlo:laidOutB P = true) {W W':World} (hb:Below W.heap.size W W'):∀ {ts:List TypeId} {vs:List Value} {ds:List (DataW H)} {ps:List MemPlace},(ts.all fun t=>P.readableRec t && decide (t < P.types.size)) = true →
  DataW.TrodAll enc P W 0 (fun _=>true) true ts vs ds ps→(∀ x∈ps,x.block < W.heap.size)→DataW.TrodAll enc P W' 0 (fun b=>decide (b < W.heap.size)) true ts vs ds ps
 | [],vs,ds,ps,_,h,_=>by
   obtain ⟨rfl,rfl,rfl⟩:=trodAll_nil h
   exact trodAll_mk0
 | t :: ts,vs,ds,ps,hr,h,hlt=>by
   obtain ⟨v,vs',d,ds',p,q,rfl,rfl,rfl,h1,h2⟩:=trodAll_cons h
   simp only [List.all_cons,Bool.and_eq_true,decide_eq_true_eq] at hr
   exact trodAll_cons_mk (Below.trod hlo hr.1.1 hr.1.2 h1 hb fun x hx=>hlt x (List.mem_append_left _ hx)) (trodAll_below hlo hb hr.2 h2 fun x hx=>hlt x (List.mem_append_right _ hx))
def setT (c:Array Value):Obj→Obj
 | .cells _ t frozen=>.cells c t frozen
 | o=>o
noncomputable def laidWorld (os:Os):World :=
 { World.holding Tryz.prog os ⟨#[],#[],[]⟩ with heap:=(((World.holding Tryz.prog os ⟨#[],#[],[]⟩).heap.modify 2 (setT (Lib.pow10Tab.map fun z:Int=>Value.int .u64 z).toArray)).modify 1 (setT (Lib.deBruijn64tab.map fun n:Nat=>Value.int .u8 (n:Int)).toArray)).modify 3 (setT (([0,1,28,2,29,14,24,3,30,22,20,15,25,17,4,8,31,27,13,23,21,19,16,7,26,12,18,6,11,5,10,9]:List Int).map fun n:Int=>Value.int .u8 n).toArray) }
end Go.Proofs.YtckhohpbokojdaaGreatDoor
namespace Go.Proofs.YtckhohpbokojdaaGreatDoor
open Go Go.ChangeShapes Go.WideShapes Go.ChangeAt Go.RowKit Go.Deep
theorem open_i64 {H:Type} {enc:TypeId × Value→H} {W:World} {spare:Nat→Bool} {held:Bool} {fuel:Nat} {v:Value} {x:DataW H × List MemPlace} (h:DataW.trod enc Tryz.prog W 0 spare held fuel 3 [v] = some x) :
  ∃ n:Int,v = .int .i64 n∧(-9223372036854775808≤n∧n≤9223372036854775807):=by
 obtain ⟨k0,e0,_,hwf⟩:=DataW.trod_int Tryz.underlying3 h
 simp only [List.cons.injEq,and_true] at e0
 exact ⟨k0,e0,bounds_i64 hwf⟩
theorem okWide_array {P:Program} {w:World} {r:Reach} {base:Nat} {t:TypeId} {v:Value} {n:Nat} {e:TypeId} (ht:P.underlying t = some (.array n e)) (h:Value.okWide P w r base t v):∃ cs,v = .agg cs∧cs.size = P.cellsOf t:=by
 simp only [Value.okWide,ht] at h
 obtain ⟨cs,h1,h2,_⟩:=h
 exact ⟨cs,h1,h2⟩
set_option maxRecDepth 100000 in
theorem open_set {H:Type} {enc:TypeId × Value→H} {W:World} {spare:Nat→Bool} {held:Bool} {fuel:Nat} {cs:Array Value} {x:DataW H × List MemPlace} (hz:cs.size = Tryz.prog.cellsOf 37) (h:DataW.trod enc Tryz.prog W 0 spare held fuel 37 (Value.agg cs).cells.toList = some x) :
  ∃ x0 x1:Int,Value.agg cs = .agg #[.int .u64 x0,.int .u64 x1]∧((0≤x0∧x0≤18446744073709551615)∧(0≤x1∧x1≤18446744073709551615)):=by
 have hsz:Tryz.prog.cellsOf 37 = 2:=by kernel_rfl
 have hz2:cs.size = 2:=by rw [hz];exact hsz
 obtain ⟨cs⟩:=cs
 obtain ⟨xs,m,_,_,_,hl,hf⟩:=DataW.trod_array Tryz.underlying37 h
 have hc:Tryz.prog.cellsOf 35 = 1:=by kernel_rfl
 obtain ⟨c0,c1,rfl⟩:∃ c0 c1,cs = [c0,c1]:=by
  match cs,hz2 with
  | [c0,c1],_=>exact ⟨c0,c1,rfl⟩
 ·clear hz hz2
  have h0:DataW.trod enc Tryz.prog W 0 spare held m 35 [c0] = xs[0]?:=by simpa [hc,Value.cells] using hf 0 (by omega)
  have h1:DataW.trod enc Tryz.prog W 0 spare held m 35 [c1] = xs[1]?:=by simpa [hc,Value.cells] using hf 1 (by omega)
  rw [List.getElem?_eq_getElem (by omega)] at h0 h1
  obtain ⟨k0,e0,_,w0⟩:=DataW.trod_int Tryz.underlying35 h0
  obtain ⟨k1,e1,_,w1⟩:=DataW.trod_int Tryz.underlying35 h1
  simp only [List.cons.injEq,and_true] at e0 e1
  subst e0 e1
  exact ⟨k0,k1,rfl,bounds_u64 w0,bounds_u64 w1⟩
end Go.Proofs.YtckhohpbokojdaaGreatDoor
end
section
set_option linter.unusedSimpArgs false
set_option linter.unusedVariables false
namespace Go.Proofs.YtckhohpbokojdaaGreatDoor
open Go Go.ChangeShapes Go.WideShapes Go.ChangeAt Go.RowKit Go.Deep
theorem okWide_struct {P:Program} {w:World} {r:Reach} {base:Nat} {t:TypeId} {v:Value} {fs:Array Field} (ht:P.underlying t = some (.struct fs)) (h:Value.okWide P w r base t v):∃ cs,v = .agg cs∧cs.size = P.cellsOf t:=by
 simp only [Value.okWide,ht] at h
 obtain ⟨cs,h1,h2,_⟩:=h
 exact ⟨cs,h1,h2⟩
theorem spot_none {W:World} {a:Addr} {v:Value} (h:W.cell? (a.add 0) = some v):∃ b o,a = ⟨b,o,none⟩:=by
 obtain ⟨b,o,spot⟩:=a
 have:spot = none:=by simpa [Addr.add] using World.cell?_spot h
 subst this
 exact ⟨b,o,rfl⟩
theorem open_ints {H:Type} {enc:TypeId × Value→H} {W:World} {spare:Nat→Bool} {held:Bool} {fuel:Nat} {v:Value} {x:DataW H × List MemPlace} (h:DataW.trod enc Tryz.prog W 0 spare held fuel 25 [v] = some x) :
  ∃ l:List Int,SlI W v l:=by
 rcases open_slice1 Tryz.underlying25 (by kernel_rfl) h with ⟨hcs,_⟩ | ⟨a,len,cap,m,n,V,D,Pl,hcs,_,hl,_,hm,_,hf⟩
 ·simp only [List.cons.injEq,and_true] at hcs
  exact ⟨[],none,0,hcs,.inl ⟨rfl,rfl,rfl⟩⟩
 ·simp only [List.cons.injEq,and_true] at hcs
  have hlm:len≤m:=by rw [hm];split <;> omega
  have hcell:∀ i,i < len→∃ p:Int,W.cell? (a.add i) = some (.int .i64 p):=fun i hi=>by
   obtain ⟨c0,t0⟩:=hf i (by omega)
   obtain ⟨k0,e0,_⟩:=open_i64 t0
   rw [e0] at c0
   exact ⟨k0,c0⟩
  by_cases h0:len = 0
  ·subst h0
   exact ⟨[],some a,cap,hcs,.inl ⟨rfl,rfl,rfl⟩⟩
  ·obtain ⟨_,c0⟩:=hcell 0 (by omega)
   obtain ⟨b,o,rfl⟩:=spot_none c0
   obtain ⟨ps,hps,hq⟩:=list_choose len hcell
   subst hps
   refine ⟨ps,some ⟨b,o,none⟩,cap,hcs,.inr ⟨b,o,rfl,fun j hj=>?_⟩⟩
   have:=hq j hj
   rw [Go.WideShapes.add_plain] at this
   exact this
end Go.Proofs.YtckhohpbokojdaaGreatDoor
end
section
set_option linter.unusedSimpArgs false
set_option linter.unusedVariables false
namespace Go.Proofs.YtckhohpbokojdaaGreatDoor
open Go Go.ChangeShapes Go.WideShapes Go.ChangeAt Go.RowKit Go.Deep
theorem open_nodes {H:Type} {enc:TypeId × Value→H} {W:World} {spare:Nat→Bool} {held:Bool} {fuel:Nat} {v:Value} {x:DataW H × List MemPlace} (h:DataW.trod enc Tryz.prog W 0 spare held fuel 22 [v] = some x) :
  ∃ C:List L.Gt,SlC W v C∧C.length≤9223372036854775807:=by
 rcases open_slice_fields Tryz.underlying22 Tryz.underlying40 (by kernel_rfl) (by kernel_rfl) h with ⟨hcs,_⟩ | ⟨a,len,cap,m,D,Pl,hcs,_,hl,hx,hm,_,hf⟩
 ·simp only [List.cons.injEq,and_true] at hcs
  exact ⟨[],⟨none,0,hcs,.inl rfl⟩,by simp⟩
 ·simp only [List.cons.injEq,and_true] at hcs
  have hlm:len≤m:=by rw [hm];split <;> omega
  have hcell:∀ i,i < len→∃ (k l:Int) (u:Value) (ip:List Int),W.cell? (a.add (i * 3+0)) = some (.int .i64 k)∧W.cell? (a.add (i * 3+1)) = some (.int .i64 l)∧W.cell? (a.add (i * 3+2)) = some u∧SlI W u ip:=fun i hi=>by
   obtain ⟨ys,n,_,_,_,hg⟩:=hf i (by omega)
   obtain ⟨v0,y0,c0,_,t0⟩:=hg 0 _ rfl
   obtain ⟨v1,y1,c1,_,t1⟩:=hg 1 _ rfl
   obtain ⟨v2,y2,c2,_,t2⟩:=hg 2 _ rfl
   obtain ⟨k0,e0,_⟩:=DataW.trod_int Tryz.underlying3 t0
   obtain ⟨k1,e1,_⟩:=DataW.trod_int Tryz.underlying3 t1
   simp only [List.cons.injEq,and_true] at e0 e1
   subst e0 e1
   obtain ⟨ip,hip⟩:=open_ints t2
   exact ⟨k0,k1,v2,ip,c0,c1,c2,hip⟩
  by_cases h0:len = 0
  ·subst h0
   exact ⟨[],⟨some a,cap,hcs,.inl rfl⟩,by simp⟩
  ·have hspot:∃ b o,a = ⟨b,o,none⟩:=by
    obtain ⟨_,_,_,_,c0,_,_⟩:=hcell 0 (by omega)
    obtain ⟨b,o,spot⟩:=a
    have:spot = none:=by simpa [Addr.add] using World.cell?_spot c0
    subst this
    exact ⟨b,o,rfl⟩
   obtain ⟨b,o,rfl⟩:=hspot
   have hn:∀ i,i < len→∃ x:L.Gt,W.cell? ⟨b,o+i * 3,none⟩ = some (.int .i64 x.kind)∧W.cell? ⟨b,o+i * 3+1,none⟩ = some (.int .i64 x.lit)∧∃ u,W.cell? ⟨b,o+i * 3+2,none⟩ = some u∧SlI W u x.inp:=fun i hi=>by
    obtain ⟨k,l,u,ip,c0,c1,c2,c3⟩:=hcell i hi
    rw [Go.WideShapes.add_plain] at c0 c1 c2
    rw [←Nat.add_assoc] at c1 c2
    exact ⟨⟨k,l,ip⟩,c0,c1,u,c2,c3⟩
   obtain ⟨C,hC,hq⟩:=list_choose len hn
   subst hC
   exact ⟨C,⟨some ⟨b,o,none⟩,cap,hcs,.inr ⟨b,o,rfl,hq⟩⟩,by unfold maxLen at hx;omega⟩
set_option maxRecDepth 100000 in
theorem open_net {H:Type} {enc:TypeId × Value→H} {W:World} {spare:Nat→Bool} {held:Bool} {fuel:Nat} {cs:Array Value} {x:DataW H × List MemPlace} (hz:cs.size = Tryz.prog.cellsOf 24) (h:DataW.trod enc Tryz.prog W 0 spare held fuel 24 (Value.agg cs).cells.toList = some x) :
  ∃ (n:Int) (C:List L.Gt) (u:Value),Value.agg cs = .agg #[.int .i64 n,u]∧(SlC W u C∧C.length≤9223372036854775807∧(-9223372036854775808≤n∧n≤9223372036854775807)):=by
 have hsz:Tryz.prog.cellsOf 24 = 2:=by kernel_rfl
 have hz2:cs.size = 2:=by rw [hz];exact hsz
 obtain ⟨cs⟩:=cs
 obtain ⟨c0,c1,rfl⟩:∃ c0 c1,cs = [c0,c1]:=by
  match cs,hz2 with
  | [c0,c1],_=>exact ⟨c0,c1,rfl⟩
 obtain ⟨y0,y1,n,_,_,h0,h1⟩:=trod_struct2 Tryz.underlying24 h
 clear hz hz2
 have k0:Tryz.prog.cellsOf 3 = 1:=by kernel_rfl
 have k1:Tryz.prog.cellsOf 22 = 1:=by kernel_rfl
 have h0':DataW.trod enc Tryz.prog W 0 spare held n 3 [c0] = some y0:=by simpa [k0,Value.cells] using h0
 have h1':DataW.trod enc Tryz.prog W 0 spare held n 22 [c1] = some y1:=by simpa [k1,Value.cells] using h1
 obtain ⟨z,e0,hb⟩:=open_i64 h0'
 obtain ⟨C,hC,hCl⟩:=open_nodes h1'
 exact ⟨z,C,c1,by rw [e0],hC,hCl,hb⟩
end Go.Proofs.YtckhohpbokojdaaGreatDoor
end
section
set_option linter.unusedSimpArgs false
set_option linter.unusedVariables false
namespace Go.Proofs.YtckhohpbokojdaaGreatDoor.Cforg
open Go
set_option maxRecDepth 100000
noncomputable abbrev pp:Program:=Tryz.pinned.checked.prog
abbrev cc:OpenClaim:=Rows.condForgetsRow
abbrev ss:ChangeSpec:=(OpenSpec.ofChange Rows.condForgetsSpec).bare
theorem k1:cc.wf (OpenSpec.ofChange ss) = true:=by kernel_rfl
theorem k2:laidOutB pp = true:=by kernel_rfl
theorem k3:mapsRowed pp = true:=by kernel_rfl
theorem k4:Tryz.f4.params.all (pp.readableRec ·) = true:=by kernel_rfl
theorem k5:namedTie pp cc.named ss.vars = true:=by kernel_rfl
theorem k6:(cc.stops == []) = true:=by kernel_rfl
theorem k7:(pp.stops == []) = true:=by kernel_rfl
theorem k8:(cc.knobs == []) = true:=by kernel_rfl
theorem k9:(pp.stopKnobs == []) = true:=by kernel_rfl
theorem k10:(cc.inPlace == pp.inPlace 4) = true:=by kernel_rfl
theorem k11:(cc.unfollowed == pp.unfollowed 4) = true:=by kernel_rfl
theorem k12:(cc.recurses == pp.recurses 4) = true:=by kernel_rfl
theorem k13:(cc.named == pp.varsNamed 4) = true:=by kernel_rfl
theorem closed:joinedFacts pp 4 Tryz.f4 ss cc = true:=by
 unfold joinedFacts
 rw [k1,k2,k3,k4,k5,k6,k7,k8,k9,k10,k11,k12,k13]
 kernel_rfl
end Go.Proofs.YtckhohpbokojdaaGreatDoor.Cforg
end
