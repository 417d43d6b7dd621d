import Derived.Test.YtckhohpbokojdaaGreatDoorLAdd
import Derived.Test.YtckhohpbokojdaaGreatDoorLVars
import Derived.Defers
import Derived.Recover
import Derived.Shelf.Lay
import Derived.Shelf.LaySoft
import Derived.Shelf.SlGeneric
import Derived.Shelf.SlSortCmp.WholeK
import Derived.Test.YtckhohpbokojdaaGreatDoorProg
import Derived.Test.YtckhohpbokojdaaGreatDoorLBase
import Derived.Deep.OwnRows
import Derived.Deep.LoopGhost
import Derived.Laws.EntriesVeiled
import Derived.Lib.AppendStr
import Derived.Lib.SlBytesConst
import Derived.Deep.AppendLies
import Derived.Deep.RegionHeld3
section
set_option linter.unusedSimpArgs false
set_option linter.unusedVariables false
namespace Go.Proofs.YtckhohpbokojdaaGreatDoor
open Go Go.RowKit Go.Shelf
theorem heap_new_at (w:World) (o:Obj) (ad:Nat) (h:ad = w.heap.size):(w.alloc o).heap[ad]? = some o:=by subst h;exact heap_alloc_new w o
end Go.Proofs.YtckhohpbokojdaaGreatDoor
end
section
set_option linter.unusedSimpArgs false
set_option linter.unusedVariables false
namespace Go.Proofs.YtckhohpbokojdaaGreatDoor
open Go Go.RowKit Go.Shelf Go.Sort
abbrev PrN (n:Nat):={ p:Nat × Nat // p.1 < n }
instance {n:Nat} [h:NeZero n]:Inhabited (PrN n):=⟨⟨(0,0),Nat.pos_of_ne_zero h.out⟩⟩
end Go.Proofs.YtckhohpbokojdaaGreatDoor
end
section
set_option linter.unusedSimpArgs false
set_option linter.unusedVariables false
namespace Go.Proofs.YtckhohpbokojdaaGreatDoor
open Go Go.RowKit Go.Shelf
def leafB (x:VN):Bool:=decide (x.left = -1) && decide (x.right = -1) && (decide (1≤x.var) && decide (x.var≤128))
end Go.Proofs.YtckhohpbokojdaaGreatDoor
end
section
set_option linter.unusedSimpArgs false
set_option linter.unusedVariables false
namespace Go.Proofs.YtckhohpbokojdaaGreatDoor.L
abbrev Asg:=Int→Bool
end Go.Proofs.YtckhohpbokojdaaGreatDoor.L
namespace Go.Proofs.YtckhohpbokojdaaGreatDoor.L
def vlF:Nat→List VN→Nat→List Int
 | 0,_,_=>[]
 | f+1,t,v=>match t[v]? with
   | none=>[]
   | some y=>if leafB y = true then [y.var] else vlF f t y.left.toNat++vlF f t y.right.toNat
def vl (t:List VN) (v:Nat):List Int:=vlF (v+1) t v
theorem nodup_len {α:Type} [DecidableEq α]:∀ (l m:List α),l.Nodup→(∀ x∈l,x∈m)→l.length≤m.length
 | [],_,_,_=>Nat.zero_le _
 | a :: r,m,hn,hs=>by
   rw [List.nodup_cons] at hn
   have ha:a∈m:=hs a (List.mem_cons_self ..)
   have:=nodup_len r (m.erase a) hn.2 (fun x hx=>by
    have hne:x≠a:=fun e=>hn.1 (e ▸ hx)
    exact (List.mem_erase_of_ne hne).2 (hs x (List.mem_cons_of_mem _ hx)))
   rw [List.length_erase_of_mem ha] at this
   have:0 < m.length:=List.length_pos_of_mem ha
   simp only [List.length_cons];omega
theorem nodup_lt (l:List Nat) (n:Nat) (hn:l.Nodup) (h:∀ x∈l,x < n):l.length≤n:=by
 have:=nodup_len l (List.range n) hn (fun x hx=>List.mem_range.2 (h x hx))
 simpa using this
end Go.Proofs.YtckhohpbokojdaaGreatDoor.L
namespace Go.Proofs.YtckhohpbokojdaaGreatDoor.L
theorem hasS_bit (m:VSet) (i:Nat) (hi:i < 128):hasS m ((i:Int)+1) = m.getLsbD i:=by
 have e1:decide ((1:Int)≤(i:Int)+1) = true:=decide_eq_true (by omega)
 have e2:decide ((i:Int)+1≤128) = true:=decide_eq_true (by omega)
 have e3:((i:Int)+1 - 1).toNat = i:=by omega
 rw [hasS,e1,e2,e3];rfl
theorem hasS_or (a b:VSet) (v:Int):hasS (a ||| b) v = (hasS a v || hasS b v):=by
 simp only [hasS,BitVec.getLsbD_or]
 cases decide (1≤v) <;> cases decide (v≤128) <;> simp
end Go.Proofs.YtckhohpbokojdaaGreatDoor.L
namespace Go.Proofs.YtckhohpbokojdaaGreatDoor.L
def decN (s:St) (P:Nat) (el:List (Nat × Nat)):SNode:={ pl:=P,lit:=0,el:=sortF (lessP s.nodes) el,le:=(leastF s.nodes (sortF (lessP s.nodes) el)).2 }
end Go.Proofs.YtckhohpbokojdaaGreatDoor.L
namespace Go.Proofs.YtckhohpbokojdaaGreatDoor.L
def ca (n:Nat):Nat:=if n≤4 then 0 else if n = 5 then 2 else 118
end Go.Proofs.YtckhohpbokojdaaGreatDoor.L
end
section
set_option linter.unusedSimpArgs false
set_option linter.unusedVariables false
namespace Go.Proofs.YtckhohpbokojdaaGreatDoor
open Go Go.RowKit Go.Shelf
def encI (n:Nat):Value:=.int .i64 (n:Int)
theorem MapAt.look1 {P:Program} {α β:Type} [DecidableEq α] {K E T:TypeId} {enc:α→Value} {encV:β→Value} {w:World} {b:Nat} {m:α→Option β} (h:MapAt enc encV w b m) (law:KeyLaw P K enc)
  (hT:P.underlying T = some (.map K E)) (z:Value) (hz:∀ w,(zeroValue E).run P w = .ok z w) (a:α) :
  (Instr.lookup T (.map (some b)) (enc a) false).run P w = .ok (((m a).map encV).getD z) w:=by
 obtain ⟨L,clock,hb,hm,_⟩:=h
 have hf:=hm a
 have h2:=law.find a L w
 cases hl:findL a L 0 with
 | none =>
   rw [hl] at hf h2
   have hma:m a = none:=by simpa using hf.symm
   simp [Instr.lookup,run_underlying hT,Sem.run_bind,getObj,Sem.run,hb,Result.andThen,law.check,h2,hz,hma]
 | some p =>
   rw [hl] at hf h2
   obtain ⟨v,hv,hpv⟩:∃ v,m a = some v∧encV v = p.2:=by
    cases hma:m a with
    | none=>rw [hma] at hf;simp at hf
    | some v=>rw [hma] at hf;exact ⟨v,rfl,by simpa using hf.symm⟩
   simp [Instr.lookup,run_underlying hT,Sem.run_bind,getObj,Sem.run,hb,Result.andThen,law.check,h2,hv,hpv]
end Go.Proofs.YtckhohpbokojdaaGreatDoor
end
section
set_option linter.unusedSimpArgs false
set_option linter.unusedVariables false
namespace Go.Proofs.YtckhohpbokojdaaGreatDoor
open Go Go.RowKit Go.Shelf
def varF (l:Int):Int:=if 1≤l∧l≤128 then l else if l≤-1∧-128≤l then -l else 0
set_option maxRecDepth 100000 in
set_option maxHeartbeats 1000000 in
theorem var_any (l:Int) (w:World):Calls Tryz.prog 25 #[.int .i64 l] w fun e w'=>e = .returned (.int .i64 (varF l))∧w = w':=by
 by_cases h1:1≤l∧l≤128
 ·have hv:Hid (varF l = l):=Lib.hid (if_pos h1)
  obtain ⟨h1,h2⟩:=h1
  have d1:decide (l≥1) = true:=decide_eq_true h1
  have d2:decide (l≤128) = true:=decide_eq_true h2
  go_enter Tryz.func25,Tryz.ntmps25
  go_wp2_with fail
  go_ret
  exact ⟨by rw [hv.out] <;> rfl,rfl⟩
 ·by_cases h2:l≤-1∧-128≤l
  ·have hv:Hid (varF l = -l):=Lib.hid (by unfold varF;rw [if_neg h1,if_pos h2])
   clear h1
   obtain ⟨h1,h2⟩:=h2
   have d0:decide (l≥1) = false:=decide_eq_false (by omega)
   have d1:decide (l≤-1) = true:=decide_eq_true h1
   have d2:decide (l≥-128) = true:=decide_eq_true h2
   go_enter Tryz.func25,Tryz.ntmps25
   go_wp2_with fail
   go_ret
   exact ⟨by rw [hv.out] <;> rfl,rfl⟩
  ·have hv:Hid (varF l = 0):=Lib.hid (by unfold varF;rw [if_neg h1,if_neg h2])
   by_cases a1:1≤l
   ·have d0:decide (l≥1) = true:=decide_eq_true a1
    have d3:decide (l≤128) = false:=decide_eq_false (by omega)
    have d1:decide (l≤-1) = false:=decide_eq_false (by omega)
    clear h1 h2
    go_enter Tryz.func25,Tryz.ntmps25
    go_wp2_with fail
    go_ret
    exact ⟨by rw [hv.out] <;> rfl,rfl⟩
   ·have d0:decide (l≥1) = false:=decide_eq_false (by omega)
    by_cases a2:l≤-1
    ·have d1:decide (l≤-1) = true:=decide_eq_true a2
     have d3:decide (l≥-128) = false:=decide_eq_false (by omega)
     clear h1 h2
     go_enter Tryz.func25,Tryz.ntmps25
     go_wp2_with fail
     go_ret
     exact ⟨by rw [hv.out] <;> rfl,rfl⟩
    ·have d1:decide (l≤-1) = false:=decide_eq_false (by omega)
     clear h1 h2
     go_enter Tryz.func25,Tryz.ntmps25
     go_wp2_with fail
     go_ret
     exact ⟨by rw [hv.out] <;> rfl,rfl⟩
end Go.Proofs.YtckhohpbokojdaaGreatDoor
end
section
set_option linter.unusedSimpArgs false
set_option linter.unusedVariables false
namespace Go.Proofs.YtckhohpbokojdaaGreatDoor
open Go Go.RowKit Go.Shelf
theorem mapEmpty {α β:Type} [DecidableEq α] (enc:α→Value) (encV:β→Value) {w:World} {b:Nat} (h:w.heap[b]? = some (.map #[] 0)):MapAt enc encV w b (fun _=>none) :=
 ⟨[],0,h,fun a=>rfl,⟨fun e he=>absurd he (by simp),List.nodup_nil⟩⟩
end Go.Proofs.YtckhohpbokojdaaGreatDoor
end
section
set_option linter.unusedSimpArgs false
set_option linter.unusedVariables false
namespace Go.Proofs.YtckhohpbokojdaaGreatDoor
open Go Go.RowKit Go.Shelf
def encB (b:Bool):Value:=.bool b
end Go.Proofs.YtckhohpbokojdaaGreatDoor
namespace Go.Proofs.YtckhohpbokojdaaGreatDoor
open Go Go.RowKit Go.Shelf
theorem zeroBool:∀ w,(zeroValue 4).run Tryz.prog w = .ok (.bool false) w:=fun w=>by kernel_rfl
end Go.Proofs.YtckhohpbokojdaaGreatDoor
end
section
set_option linter.unusedSimpArgs false
set_option linter.unusedVariables false
namespace Go.Proofs.YtckhohpbokojdaaGreatDoor
open Go Go.RowKit Go.Shelf
theorem itoa_below (B:Nat) {w w':World} (h:∃ k os,w' = Go.Sort.grow (w.drewN k) os) (hB:B≤w.heap.size):Below B w w':=by
 obtain ⟨k,os,rfl⟩:=h
 exact Lib.below_grow B w hB k os
end Go.Proofs.YtckhohpbokojdaaGreatDoor
end
section
set_option linter.unusedSimpArgs false
set_option linter.unusedVariables false
namespace Go.Proofs.YtckhohpbokojdaaGreatDoor
open Go Go.RowKit
theorem shr_bit (x:BitVec 64) (n:Nat):((((x.toNat:Int) / 2 ^ n).tmod 2) == 1) = x.getLsbD n:=by
 have h1:((x.toNat:Int) / 2 ^ n) = ((x.toNat / 2 ^ n:Nat):Int):=by simp
 rw [h1]
 have h2:(((x.toNat / 2 ^ n:Nat):Int)).tmod 2 = ((x.toNat / 2 ^ n % 2:Nat):Int):=by
  rw [Int.tmod_eq_emod_of_nonneg (Int.natCast_nonneg _)];simp
 rw [h2,BitVec.getLsbD,Nat.testBit_eq_decide_div_mod_eq]
 rw [Bool.eq_iff_iff]
 simp
 omega
theorem shr_lo (a:VSet) (v:Int) (h1:1≤v) (h2:v≤64):((lo a / 2 ^ (v.toNat - 1)).tmod 2 == 1) = hasS a v:=by
 rw [lo,shr_bit,BitVec.getLsbD_setWidth]
 have e1:v.toNat - 1 = (v - 1).toNat:=by omega
 rw [e1]
 simp only [hasS,h1,show v≤128 from by omega,show (v-1).toNat < 64 from by omega,decide_true,Bool.true_and]
theorem shr_hi (a:VSet) (v:Int) (h1:65≤v) (h2:v≤128):((hi a / 2 ^ (v - 65).toNat).tmod 2 == 1) = hasS a v:=by
 have e1:64+(v - 65).toNat = (v - 1).toNat:=by omega
 rw [hi,shr_bit,BitVec.getLsbD_setWidth,BitVec.getLsbD_ushiftRight,e1]
 simp only [hasS,h2,show 1≤v from by omega,show (v-65).toNat < 64 from by omega,decide_true,Bool.true_and]
set_option maxRecDepth 100000 in
set_option maxHeartbeats 1000000 in
theorem refHas_no (a:VSet) (v:Int) (w:World) (h:v < 1∨128 < v):Calls Tryz.prog 47 #[encS a,.int .i64 v] w fun e w'=>e = .returned (.bool false)∧Ext w w':=by
 have hx:=(Ext.refl w).alloc (.cells #[.int .u64 (lo a),.int .u64 (hi a)] 37)
 unfold encS
 by_cases h1:v < 1
 ·have d0:decide (v < 1) = true:=decide_eq_true h1
  go_enter Tryz.func47,Tryz.ntmps47
  go_wp2_with fail
  all_goals go_ret
  all_goals exact ⟨rfl,hx⟩
 ·have d0:decide (v < 1) = false:=decide_eq_false h1
  have d1:decide (128 < v) = true:=decide_eq_true (by omega)
  go_enter Tryz.func47,Tryz.ntmps47
  go_wp2_with fail
  all_goals go_ret
  all_goals exact ⟨rfl,hx⟩
set_option maxRecDepth 100000 in
set_option maxHeartbeats 1000000 in
theorem refHas_lo (a:VSet) (v:Int) (w:World) (h1:1≤v) (h2:v≤64):Calls Tryz.prog 47 #[encS a,.int .i64 v] w fun e w'=>e = .returned (.bool (hasS a v))∧Ext w w':=by
 have hx:=(Ext.refl w).alloc (.cells #[.int .u64 (lo a),.int .u64 (hi a)] 37)
 have d1:decide (v < 1) = false:=decide_eq_false (by omega)
 have d2:decide (v > 128) = false:=decide_eq_false (by omega)
 have e1:(v - 1) / 64 = 0:=by omega
 have e2:(v - 1) % 64 = v - 1:=by omega
 have hb:=Lib.hid (shr_lo a v h1 h2)
 unfold encS
 go_enter Tryz.func47,Tryz.ntmps47
 go_wp2_with fail
 go_ret
 exact ⟨by rw [←hb.out] <;> rfl,hx⟩
set_option maxRecDepth 100000 in
set_option maxHeartbeats 1000000 in
theorem refHas_hi (a:VSet) (v:Int) (w:World) (h1:65≤v) (h2:v≤128):Calls Tryz.prog 47 #[encS a,.int .i64 v] w fun e w'=>e = .returned (.bool (hasS a v))∧Ext w w':=by
 have hx:=(Ext.refl w).alloc (.cells #[.int .u64 (lo a),.int .u64 (hi a)] 37)
 have d1:decide (v < 1) = false:=decide_eq_false (by omega)
 have d2:decide (v > 128) = false:=decide_eq_false (by omega)
 have e1:(v - 1) / 64 = 1:=by omega
 have e2:(v - 1) % 64 = v - 65:=by omega
 have hb:=Lib.hid (shr_hi a v h1 h2)
 unfold encS
 go_enter Tryz.func47,Tryz.ntmps47
 go_wp2_with fail
 go_ret
 exact ⟨by rw [←hb.out] <;> rfl,hx⟩
theorem refHas_any (a:VSet) (v:Int) (w:World):Calls Tryz.prog 47 #[encS a,.int .i64 v] w fun e w'=>e = .returned (.bool (hasS a v))∧Ext w w':=by
 by_cases h:v < 1∨128 < v
 ·have hv:hasS a v = false:=by simp [hasS];omega
  rw [hv];exact refHas_no a v w h
 ·by_cases hs:v≤64
  ·exact refHas_lo a v w (by omega) hs
  ·exact refHas_hi a v w (by omega) (by omega)
theorem int_info:(Tryz.prog.info? 3).map (fun i=>(i.zero,i.size,i.bytes)) = some (some (.int .i64 0),1,8):=by kernel_rfl
def encZ (n:Int):Value:=.int .i64 n
theorem owns_slI {w:World} {base:Nat} {v:Value} {l:List Int} (h:w.ownsRow base 3 1 v l.length (l.map encZ)):SlI w v l:=by
 obtain ⟨_,⟨rfl,e⟩ | ⟨g,cap,cur,rfl,hgb,hgh,hn,hm,hcs,ht⟩⟩:=h
 ·have:l = []:=by simpa using e
  subst this
  exact ⟨none,0,rfl,.inl ⟨rfl,rfl,rfl⟩⟩
 ·refine ⟨_,cap,rfl,.inr ⟨g,0,rfl,fun j hj=>?_⟩⟩
  have h1:(l.map encZ)[j]? = some (encZ l[j]):=by rw [List.getElem?_map,List.getElem?_eq_getElem hj];rfl
  rw [←ht,List.getElem?_take] at h1
  split at h1
  ·have h2:cur[j]? = some (encZ l[j]):=by simpa using h1
   simp [World.cell?,hgh,h2,encZ]
  ·simp at h1
end Go.Proofs.YtckhohpbokojdaaGreatDoor
end
section
set_option linter.unusedSimpArgs false
set_option linter.unusedVariables false
namespace Go.Proofs.YtckhohpbokojdaaGreatDoor.L
inductive Reach (ns:List SNode) (a:Nat):Nat→Prop
 | refl:Reach ns a a
 | prime {b:Nat} {n:SNode} {p:Nat × Nat}:Reach ns a b→ns[b]? = some n→p∈n.el→Reach ns a p.1
 | sub {b:Nat} {n:SNode} {p:Nat × Nat}:Reach ns a b→ns[b]? = some n→p∈n.el→Reach ns a p.2
def Shut (ns:List SNode) (o:List Nat) (b:Nat):Prop:=∀ n,ns[b]? = some n→∀ p∈n.el,p.1∈o∧p.2∈o
end Go.Proofs.YtckhohpbokojdaaGreatDoor.L
end
section
set_option linter.unusedSimpArgs false
set_option linter.unusedVariables false
namespace Go.Proofs.YtckhohpbokojdaaGreatDoor.L
def upd (x:Asg) (v:Int) (b:Bool):Asg:=fun u=>if u = v then b else x u
end Go.Proofs.YtckhohpbokojdaaGreatDoor.L
namespace Go.Proofs.YtckhohpbokojdaaGreatDoor.L
theorem hasS_zero (v:Int):hasS 0 v = false:=by
 unfold hasS
 rw [show (0:VSet).getLsbD (v - 1).toNat = false from BitVec.getLsbD_zero,Bool.and_false]
end Go.Proofs.YtckhohpbokojdaaGreatDoor.L
namespace Go.Proofs.YtckhohpbokojdaaGreatDoor.L
def validB (n l:Int):Bool:=decide (l≠0) && (decide (-n≤l) && decide (l≤n))
theorem validB_range {n l:Int} (hn:n≤128) (h:validB n l = true):1≤(l.natAbs:Int)∧(l.natAbs:Int)≤n∧(l.natAbs:Int)≤128:=by
 unfold validB at h
 simp only [Bool.and_eq_true,decide_eq_true_eq] at h
 omega
end Go.Proofs.YtckhohpbokojdaaGreatDoor.L
end
section
set_option linter.unusedSimpArgs false
set_option linter.unusedVariables false
namespace Go.Proofs.YtckhohpbokojdaaGreatDoor
open Go Go.RowKit Go.Shelf
def t3:List VN:=[⟨-1,-1,1⟩,⟨-1,-1,2⟩,⟨0,1,0⟩]
end Go.Proofs.YtckhohpbokojdaaGreatDoor
end
section
set_option linter.unusedSimpArgs false
set_option linter.unusedVariables false
namespace Go.Proofs.YtckhohpbokojdaaGreatDoor
open Go Go.RowKit Go.Shelf
def TabAt (w:World) (v:Value) (f:List Bool):Prop:=∃ (g c:Nat) (cs:Array Value),v = .slice (some ⟨g,0,none⟩) f.length c∧w.heap[g]? = some (.cells cs 4 (0,0))∧∀ j (hj:j < f.length),cs[j]? = some (.bool f[j])
end Go.Proofs.YtckhohpbokojdaaGreatDoor
end
section
set_option linter.unusedSimpArgs false
set_option linter.unusedVariables false
namespace Go.Proofs.YtckhohpbokojdaaGreatDoor
open Go Go.RowKit
theorem takeL {P:Program} {l:List Oper} {md:Region.Mode} {Q:Exit→Act→World→Prop} {S:World→Prop} {i:Nat} {oi:Oper} {v:Value} {fuel:Nat} {listed:Array Bool} {a:Act} {w:World} (hi:l[i]? = some oi)
  (hs:Region.noSelect l.toArray = true) (hf:Region.free md l.toArray listed i = true) (hr:(Region.ready md l.toArray listed).contains i = true)
  (hQ:∀ c a w,Q (.panic c) (a.put oi.dst v) w→Q (.panic c) a w) (hy:YieldsIf P l.toArray S oi v a) (hS:S w)
  (h:wpAnyH P md l.toArray Q S fuel (listed.setIfInBounds i true) (a.put oi.dst v) w):wpAnyH P md l.toArray Q S (fuel+1) listed a w :=
 wpAnyH_take (by simpa using hi) hs hf hr hQ hy hS h
theorem consL {P:Program} {l:List Oper} {md:Region.Mode} {Q:Exit→Act→World→Prop} {S:World→Prop} {fuel:Nat} {listed:Array Bool} {a:Act} {w:World} {i:Nat} {o:Oper} (ho:l[i]? = some o)
  (h:∀ K':Act→World→Prop,Shut (∀ a w,S w→(S w→wpAnyH P md l.toArray Q S fuel (listed.setIfInBounds i true) a w)→K' a w)→if Region.wanted o (yielded l.toArray a.tmps) = true then Oper.wp P o a w K' Q else K' (a.put o.dst undef) w)
  : AllReadyH P md l.toArray Q S fuel listed a w [i]:=AllReadyH.cons (by simpa using ho) h AllReadyH.nil
theorem consL2 {P:Program} {l:List Oper} {md:Region.Mode} {Q:Exit→Act→World→Prop} {S:World→Prop} {fuel:Nat} {listed:Array Bool} {a:Act} {w:World} {i j:Nat} {o p:Oper} (ho:l[i]? = some o) (hp:l[j]? = some p)
  (h:∀ K':Act→World→Prop,Shut (∀ a w,S w→(S w→wpAnyH P md l.toArray Q S fuel (listed.setIfInBounds i true) a w)→K' a w)→if Region.wanted o (yielded l.toArray a.tmps) = true then Oper.wp P o a w K' Q else K' (a.put o.dst undef) w)
  (h':∀ K':Act→World→Prop,Shut (∀ a w,S w→(S w→wpAnyH P md l.toArray Q S fuel (listed.setIfInBounds j true) a w)→K' a w)→if Region.wanted p (yielded l.toArray a.tmps) = true then Oper.wp P p a w K' Q else K' (a.put p.dst undef) w) :
  AllReadyH P md l.toArray Q S fuel listed a w [i,j]:=AllReadyH.cons (by simpa using ho) h (AllReadyH.cons (by simpa using hp) h' AllReadyH.nil)
end Go.Proofs.YtckhohpbokojdaaGreatDoor
end
