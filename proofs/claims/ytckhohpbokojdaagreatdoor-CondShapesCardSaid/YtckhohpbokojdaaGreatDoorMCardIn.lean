import Derived.Test.YtckhohpbokojdaaGreatDoorMBase
import Derived.Test.YtckhohpbokojdaaGreatDoorMRef3
import Derived.Test.YtckhohpbokojdaaGreatDoorCards
import Derived.Test.YtckhohpbokojdaaGreatDoorTie
import Derived.WalkKit
import Derived.ProofKit
import Derived.OpenShut
import Derived.Deep.DeepHandedRow
import Derived.Deep.Slices
import Derived.Deep.Fields
import Derived.ChangeSame
import Derived.LaidSub
import Derived.Lib.LaidTab
import Derived.Test.YtckhohpbokojdaaGreatDoorMLaw11
import Derived.Test.YtckhohpbokojdaaGreatDoorMReg
set_option linter.unusedSimpArgs false
set_option linter.unusedVariables false
namespace Go.Proofs.YtckhohpbokojdaaGreatDoor
open Go Go.ChangeShapes Go.WideShapes Go.ChangeAt Go.RowKit Go.Deep
theorem own:ownKnob Tryz.prog.godebug = none:=by kernel_rfl
theorem laidOut:laidOutB Tryz.prog = true:=by kernel_rfl
section
variable {H:Type} {enc:TypeId × Value→H} {P:Program} {w:World} {base:Nat} {spare:Nat→Bool} {held:Bool}
theorem open_slice_fields {t e:TypeId} {fs:Array Field} {fuel:Nat} {cs:List Value} {x:DataW H × List MemPlace} (ht:P.underlying t = some (.slice e)) (he:P.underlying e = some (.struct fs))
  (hone:oneCellFields P fs = true) (hC:P.cellsOf e = fs.size) (h:DataW.trod enc P w base spare held fuel t cs = some x) :
  (cs = [.slice none 0 0]∧x = (.nil,[])) ∨
  ∃ (a:Addr) (len cap m:Nat) (D:Nat→DataW H) (Pl:Nat→List MemPlace),cs = [.slice (some a) len cap]∧base≤a.block∧len≤cap∧cap≤maxLen∧m = (if spare a.block then cap else len) ∧
    x = (.slice ((List.range len).map D) ((List.range (m - len)).map fun j=>D (len+j)),MemPlace.row a (m * fs.size)++(List.range m).flatMap Pl) ∧
    ∀ i,i < m→∃ (ys:List (DataW H × List MemPlace)) (n:Nat),D i = .agg (ys.map (·.1))∧Pl i = ys.flatMap (·.2)∧ys.length = fs.size ∧
      ∀ (j:Nat) (f:Field),fs[j]? = some f→∃ (v:Value) (y:DataW H × List MemPlace),w.cell? (a.add (i * fs.size+j)) = some v∧ys[j]? = some y∧DataW.trod enc P w base spare held n f.type [v] = some y:=by
 rcases open_slice ht h with h0 | ⟨a,len,cap,m,n,D,Pl,hcs,hb,hl,hm,hmm,hx,hi⟩
 ·exact .inl h0
 ·refine .inr ⟨a,len,cap,m,D,Pl,hcs,hb,hl,hm,hmm,by rw [hC] at hx;exact hx,fun i him=>?_⟩
  obtain ⟨cs',hc,ht'⟩:=hi i him
  rw [hC] at hc
  obtain ⟨ys,n',hn',hy,hlen,hyl,hf⟩:=DataW.trod_struct he ht'
  obtain ⟨_,hcl,hat⟩:=World.cells?_some hc
  simp only [Prod.mk.injEq] at hy
  refine ⟨ys,n',hy.1,hy.2,hyl,fun j f hj=>?_⟩
  obtain ⟨ho,hk⟩:=hone_of hone j f hj
  have hjl:j < fs.size:=(Array.getElem?_eq_some_iff.1 hj).1
  have hcell:=hat j hjl
  have hv:cs'[j]? = some (cs'[j]'(by omega)):=List.getElem?_eq_getElem (by omega)
  have h1:=hf j f hj
  rw [ho,hk] at h1
  have hone':(cs'.drop j).take 1 = [cs'[j]'(by omega)]:=by
   rw [List.drop_eq_getElem_cons (by omega)]
   rfl
  rw [hone'] at h1
  have hys:ys[j]? = some (ys[j]'(by omega)):=List.getElem?_eq_getElem (by omega)
  refine ⟨_,_,?_,hys,h1.trans hys⟩
  rw [←Go.Deep.add_add,hcell,hv]
end
theorem list_choose {α:Type} {Q:Nat→α→Prop}:∀ n,(∀ i,i < n→∃ x,Q i x)→∃ l:List α,l.length = n∧∀ i (hi:i < l.length),Q i l[i]
 | 0,_=>⟨[],rfl,fun i hi=>absurd hi (Nat.not_lt_zero _)⟩
 | n+1,h=>by
   obtain ⟨l,hl,hq⟩:=list_choose n (fun i hi=>h i (by omega))
   obtain ⟨x,hx⟩:=h n (by omega)
   refine ⟨l++[x],by simp [hl],fun i hi=>?_⟩
   by_cases hlt:i < l.length
   ·rw [List.getElem_append_left hlt];exact hq i hlt
   ·have e:i = l.length:=by simp at hi;omega
    subst e
    rw [List.getElem_append_right (Nat.le_refl _)]
    simp only [Nat.sub_self,List.getElem_cons_zero]
    rw [hl];exact hx
theorem laid_tabs {W : World} {l : List (String × DataW Unit)} (hl : l = [("math/bits.deBruijn32tab", Rows.laid_math_bits_deBruijn32tab), ("math/bits.deBruijn64tab", Rows.laid_math_bits_deBruijn64tab), ("internal/strconv.uint64pow10", Rows.laid_internal_strconv_uint64pow10)]) (h : laidMetH Tryz.prog l W) : TzTab W ∧ PowTab W := by
 subst hl
 have h1 := laidMetH.filter (fun x => x.1 == "math/bits.deBruijn64tab") h
 have h2 := laidMetH.filter (fun x => x.1 == "internal/strconv.uint64pow10") h
 have t1 : Lib.TabIs Tryz.prog W "math/bits.deBruijn64tab" .u8 (Lib.deBruijn64tab.map fun n : Nat => (n : Int)) :=
  Lib.tabIs_of_head (rest := []) (show Tryz.prog.globalNamed "math/bits.deBruijn64tab" = some 1 by kernel_rfl) (by kernel_rfl) Tryz.underlying107 Tryz.underlying5 (by kernel_rfl) (by kernel_rfl) h1
 have t2 : Lib.TabIs Tryz.prog W "internal/strconv.uint64pow10" .u64 Lib.pow10Tab :=
  Lib.tabIs_of_head (rest := []) (show Tryz.prog.globalNamed "internal/strconv.uint64pow10" = some 2 by kernel_rfl) (by kernel_rfl) Tryz.underlying165 Tryz.underlying35 (by kernel_rfl) (by kernel_rfl) h2
 refine ⟨fun j hj=>?_,t2⟩
 have := t1.cell (show Tryz.prog.globalNamed "math/bits.deBruijn64tab" = some 1 by kernel_rfl) j (by simpa using hj)
 rw [this]
 congr 1
 rw [List.getD_eq_getElem?_getD,List.getD_eq_getElem?_getD,List.getElem?_map]
 rw [List.getElem?_eq_getElem hj]
 rfl
theorem trodAll_below {H:Type} {enc:TypeId × Value→H} {P:Program} (hlo:laidOutB P = true) {W W':World} (hb:Below W.heap.size W W'):∀ {ts:List TypeId} {vs:List Value} {ds:List (DataW H)} {ps:List MemPlace},(ts.all fun t=>P.readableRec t && decide (t < P.types.size)) = true →
  DataW.TrodAll enc P W 0 (fun _=>true) true ts vs ds ps→(∀ x∈ps,x.block < W.heap.size)→DataW.TrodAll enc P W' 0 (fun b=>decide (b < W.heap.size)) true ts vs ds ps
 | [],vs,ds,ps,_,h,_=>by
   obtain ⟨rfl,rfl,rfl⟩:=trodAll_nil h
   exact trodAll_mk0
 | t :: ts,vs,ds,ps,hr,h,hlt=>by
   obtain ⟨v,vs',d,ds',p,q,rfl,rfl,rfl,h1,h2⟩:=trodAll_cons h
   simp only [List.all_cons,Bool.and_eq_true,decide_eq_true_eq] at hr
   exact trodAll_cons_mk (Below.trod hlo hr.1.1 hr.1.2 h1 hb fun x hx=>hlt x (List.mem_append_left _ hx)) (trodAll_below hlo hb hr.2 h2 fun x hx=>hlt x (List.mem_append_right _ hx))
def setT (c:Array Value):Obj→Obj
 | .cells _ t frozen=>.cells c t frozen
 | o=>o
noncomputable def laidWorld (os:Os):World :=
 { World.holding Tryz.prog os ⟨#[],#[],[]⟩ with heap:=(((World.holding Tryz.prog os ⟨#[],#[],[]⟩).heap.modify 2 (setT (Lib.pow10Tab.map fun z:Int=>Value.int .u64 z).toArray)).modify 1 (setT (Lib.deBruijn64tab.map fun n:Nat=>Value.int .u8 (n:Int)).toArray)).modify 3 (setT (([0,1,28,2,29,14,24,3,30,22,20,15,25,17,4,8,31,27,13,23,21,19,16,7,26,12,18,6,11,5,10,9]:List Int).map fun n:Int=>Value.int .u8 n).toArray) }
end Go.Proofs.YtckhohpbokojdaaGreatDoor
namespace Go.Proofs.YtckhohpbokojdaaGreatDoor
open Go Go.ChangeShapes Go.WideShapes Go.ChangeAt Go.RowKit Go.Deep
theorem open_i64 {H:Type} {enc:TypeId × Value→H} {W:World} {spare:Nat→Bool} {held:Bool} {fuel:Nat} {v:Value} {x:DataW H × List MemPlace} (h:DataW.trod enc Tryz.prog W 0 spare held fuel 3 [v] = some x) :
  ∃ n:Int,v = .int .i64 n∧(-9223372036854775808≤n∧n≤9223372036854775807):=by
 obtain ⟨k0,e0,_,hwf⟩:=DataW.trod_int Tryz.underlying3 h
 simp only [List.cons.injEq,and_true] at e0
 exact ⟨k0,e0,bounds_i64 hwf⟩
end Go.Proofs.YtckhohpbokojdaaGreatDoor
