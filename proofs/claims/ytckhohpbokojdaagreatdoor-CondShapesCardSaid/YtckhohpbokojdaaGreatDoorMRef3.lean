import Derived.Test.YtckhohpbokojdaaGreatDoorMAdd
import Derived.Test.YtckhohpbokojdaaGreatDoorMVars
import Derived.Defers
import Derived.Recover
import Derived.Shelf.Lay
import Derived.Shelf.LaySoft
import Derived.Shelf.SlGeneric
import Derived.Shelf.SlSortCmp.WholeK
import Derived.Test.YtckhohpbokojdaaGreatDoorProg
import Derived.Test.YtckhohpbokojdaaGreatDoorMBase
import Derived.Deep.OwnRows
import Derived.Deep.LoopGhost
import Derived.Laws.EntriesVeiled
import Derived.Lib.AppendStr
import Derived.Lib.SlBytesConst
import Derived.Deep.AppendLies
section
set_option linter.unusedSimpArgs false
set_option linter.unusedVariables false
namespace Go.Proofs.YtckhohpbokojdaaGreatDoor
open Go Go.RowKit Go.Shelf
theorem heap_new_at (w:World) (o:Obj) (ad:Nat) (h:ad = w.heap.size):(w.alloc o).heap[ad]? = some o:=by subst h;exact heap_alloc_new w o
end Go.Proofs.YtckhohpbokojdaaGreatDoor
end
section
set_option linter.unusedSimpArgs false
set_option linter.unusedVariables false
namespace Go.Proofs.YtckhohpbokojdaaGreatDoor
open Go Go.RowKit Go.Shelf Go.Sort
abbrev PrN (n:Nat):={ p:Nat × Nat // p.1 < n }
instance {n:Nat} [h:NeZero n]:Inhabited (PrN n):=⟨⟨(0,0),Nat.pos_of_ne_zero h.out⟩⟩
end Go.Proofs.YtckhohpbokojdaaGreatDoor
end
section
set_option linter.unusedSimpArgs false
set_option linter.unusedVariables false
namespace Go.Proofs.YtckhohpbokojdaaGreatDoor
open Go Go.RowKit Go.Shelf
def leafB (x:VN):Bool:=decide (x.left = -1) && decide (x.right = -1) && (decide (1≤x.var) && decide (x.var≤128))
end Go.Proofs.YtckhohpbokojdaaGreatDoor
end
section
set_option linter.unusedSimpArgs false
set_option linter.unusedVariables false
namespace Go.Proofs.YtckhohpbokojdaaGreatDoor.L
abbrev Asg:=Int→Bool
end Go.Proofs.YtckhohpbokojdaaGreatDoor.L
namespace Go.Proofs.YtckhohpbokojdaaGreatDoor.L
def vlF:Nat→List VN→Nat→List Int
 | 0,_,_=>[]
 | f+1,t,v=>match t[v]? with
   | none=>[]
   | some y=>if leafB y = true then [y.var] else vlF f t y.left.toNat++vlF f t y.right.toNat
def vl (t:List VN) (v:Nat):List Int:=vlF (v+1) t v
theorem nodup_len {α:Type} [DecidableEq α]:∀ (l m:List α),l.Nodup→(∀ x∈l,x∈m)→l.length≤m.length
 | [],_,_,_=>Nat.zero_le _
 | a :: r,m,hn,hs=>by
   rw [List.nodup_cons] at hn
   have ha:a∈m:=hs a (List.mem_cons_self ..)
   have:=nodup_len r (m.erase a) hn.2 (fun x hx=>by
    have hne:x≠a:=fun e=>hn.1 (e ▸ hx)
    exact (List.mem_erase_of_ne hne).2 (hs x (List.mem_cons_of_mem _ hx)))
   rw [List.length_erase_of_mem ha] at this
   have:0 < m.length:=List.length_pos_of_mem ha
   simp only [List.length_cons];omega
theorem nodup_lt (l:List Nat) (n:Nat) (hn:l.Nodup) (h:∀ x∈l,x < n):l.length≤n:=by
 have:=nodup_len l (List.range n) hn (fun x hx=>List.mem_range.2 (h x hx))
 simpa using this
end Go.Proofs.YtckhohpbokojdaaGreatDoor.L
namespace Go.Proofs.YtckhohpbokojdaaGreatDoor.L
theorem hasS_range {m:VSet} {v:Int} (h:hasS m v = true):1≤v∧v≤128:=by
 simp only [hasS,Bool.and_eq_true,decide_eq_true_eq] at h
 exact h.1
theorem hasS_or (a b:VSet) (v:Int):hasS (a ||| b) v = (hasS a v || hasS b v):=by
 simp only [hasS,BitVec.getLsbD_or]
 cases decide (1≤v) <;> cases decide (v≤128) <;> simp
end Go.Proofs.YtckhohpbokojdaaGreatDoor.L
namespace Go.Proofs.YtckhohpbokojdaaGreatDoor.L
def decN (s:St) (P:Nat) (el:List (Nat × Nat)):SNode:={ pl:=P,lit:=0,el:=sortF (lessP s.nodes) el,le:=(leastF s.nodes (sortF (lessP s.nodes) el)).2 }
end Go.Proofs.YtckhohpbokojdaaGreatDoor.L
namespace Go.Proofs.YtckhohpbokojdaaGreatDoor.L
def ca (n:Nat):Nat:=if n≤4 then 0 else if n = 5 then 2 else 118
end Go.Proofs.YtckhohpbokojdaaGreatDoor.L
end
section
set_option linter.unusedSimpArgs false
set_option linter.unusedVariables false
namespace Go.Proofs.YtckhohpbokojdaaGreatDoor
open Go Go.RowKit Go.Shelf
def encI (n:Nat):Value:=.int .i64 (n:Int)
theorem MapAt.look1 {P:Program} {α β:Type} [DecidableEq α] {K E T:TypeId} {enc:α→Value} {encV:β→Value} {w:World} {b:Nat} {m:α→Option β} (h:MapAt enc encV w b m) (law:KeyLaw P K enc)
  (hT:P.underlying T = some (.map K E)) (z:Value) (hz:∀ w,(zeroValue E).run P w = .ok z w) (a:α) :
  (Instr.lookup T (.map (some b)) (enc a) false).run P w = .ok (((m a).map encV).getD z) w:=by
 obtain ⟨L,clock,hb,hm,_⟩:=h
 have hf:=hm a
 have h2:=law.find a L w
 cases hl:findL a L 0 with
 | none =>
   rw [hl] at hf h2
   have hma:m a = none:=by simpa using hf.symm
   simp [Instr.lookup,run_underlying hT,Sem.run_bind,getObj,Sem.run,hb,Result.andThen,law.check,h2,hz,hma]
 | some p =>
   rw [hl] at hf h2
   obtain ⟨v,hv,hpv⟩:∃ v,m a = some v∧encV v = p.2:=by
    cases hma:m a with
    | none=>rw [hma] at hf;simp at hf
    | some v=>rw [hma] at hf;exact ⟨v,rfl,by simpa using hf.symm⟩
   simp [Instr.lookup,run_underlying hT,Sem.run_bind,getObj,Sem.run,hb,Result.andThen,law.check,h2,hv,hpv]
end Go.Proofs.YtckhohpbokojdaaGreatDoor
end
section
set_option linter.unusedSimpArgs false
set_option linter.unusedVariables false
namespace Go.Proofs.YtckhohpbokojdaaGreatDoor
open Go Go.RowKit Go.Shelf
def varF (l:Int):Int:=if 1≤l∧l≤128 then l else if l≤-1∧-128≤l then -l else 0
set_option maxRecDepth 100000 in
set_option maxHeartbeats 1000000 in
theorem var_any (l:Int) (w:World):Calls Tryz.prog 25 #[.int .i64 l] w fun e w'=>e = .returned (.int .i64 (varF l))∧w = w':=by
 by_cases h1:1≤l∧l≤128
 ·have hv:Hid (varF l = l):=Lib.hid (if_pos h1)
  obtain ⟨h1,h2⟩:=h1
  have d1:decide (l≥1) = true:=decide_eq_true h1
  have d2:decide (l≤128) = true:=decide_eq_true h2
  go_enter Tryz.func25,Tryz.ntmps25
  go_wp2_with fail
  go_ret
  exact ⟨by rw [hv.out] <;> rfl,rfl⟩
 ·by_cases h2:l≤-1∧-128≤l
  ·have hv:Hid (varF l = -l):=Lib.hid (by unfold varF;rw [if_neg h1,if_pos h2])
   clear h1
   obtain ⟨h1,h2⟩:=h2
   have d0:decide (l≥1) = false:=decide_eq_false (by omega)
   have d1:decide (l≤-1) = true:=decide_eq_true h1
   have d2:decide (l≥-128) = true:=decide_eq_true h2
   go_enter Tryz.func25,Tryz.ntmps25
   go_wp2_with fail
   go_ret
   exact ⟨by rw [hv.out] <;> rfl,rfl⟩
  ·have hv:Hid (varF l = 0):=Lib.hid (by unfold varF;rw [if_neg h1,if_neg h2])
   by_cases a1:1≤l
   ·have d0:decide (l≥1) = true:=decide_eq_true a1
    have d3:decide (l≤128) = false:=decide_eq_false (by omega)
    have d1:decide (l≤-1) = false:=decide_eq_false (by omega)
    clear h1 h2
    go_enter Tryz.func25,Tryz.ntmps25
    go_wp2_with fail
    go_ret
    exact ⟨by rw [hv.out] <;> rfl,rfl⟩
   ·have d0:decide (l≥1) = false:=decide_eq_false (by omega)
    by_cases a2:l≤-1
    ·have d1:decide (l≤-1) = true:=decide_eq_true a2
     have d3:decide (l≥-128) = false:=decide_eq_false (by omega)
     clear h1 h2
     go_enter Tryz.func25,Tryz.ntmps25
     go_wp2_with fail
     go_ret
     exact ⟨by rw [hv.out] <;> rfl,rfl⟩
    ·have d1:decide (l≤-1) = false:=decide_eq_false (by omega)
     clear h1 h2
     go_enter Tryz.func25,Tryz.ntmps25
     go_wp2_with fail
     go_ret
     exact ⟨by rw [hv.out] <;> rfl,rfl⟩
end Go.Proofs.YtckhohpbokojdaaGreatDoor
end
section
set_option linter.unusedSimpArgs false
set_option linter.unusedVariables false
namespace Go.Proofs.YtckhohpbokojdaaGreatDoor
open Go Go.RowKit Go.Shelf
theorem mapEmpty {α β:Type} [DecidableEq α] (enc:α→Value) (encV:β→Value) {w:World} {b:Nat} (h:w.heap[b]? = some (.map #[] 0)):MapAt enc encV w b (fun _=>none) :=
 ⟨[],0,h,fun a=>rfl,⟨fun e he=>absurd he (by simp),List.nodup_nil⟩⟩
end Go.Proofs.YtckhohpbokojdaaGreatDoor
end
section
set_option linter.unusedSimpArgs false
set_option linter.unusedVariables false
namespace Go.Proofs.YtckhohpbokojdaaGreatDoor
open Go Go.RowKit Go.Shelf
def encB (b:Bool):Value:=.bool b
end Go.Proofs.YtckhohpbokojdaaGreatDoor
namespace Go.Proofs.YtckhohpbokojdaaGreatDoor
open Go Go.RowKit Go.Shelf
theorem zeroBool:∀ w,(zeroValue 4).run Tryz.prog w = .ok (.bool false) w:=fun w=>by kernel_rfl
end Go.Proofs.YtckhohpbokojdaaGreatDoor
end
section
set_option linter.unusedSimpArgs false
set_option linter.unusedVariables false
namespace Go.Proofs.YtckhohpbokojdaaGreatDoor
open Go Go.RowKit Go.Shelf
theorem itoa_below (B:Nat) {w w':World} (h:∃ k os,w' = Go.Sort.grow (w.drewN k) os) (hB:B≤w.heap.size):Below B w w':=by
 obtain ⟨k,os,rfl⟩:=h
 exact Lib.below_grow B w hB k os
end Go.Proofs.YtckhohpbokojdaaGreatDoor
end
section
set_option linter.unusedSimpArgs false
set_option linter.unusedVariables false
namespace Go.Proofs.YtckhohpbokojdaaGreatDoor
open Go Go.RowKit
def listVK (s:VSet):Nat→List Int
 | 0=>[]
 | k+1=>if hasS s ((k:Int)+1) then listVK s k++[(k:Int)+1] else listVK s k
def listV (s:VSet):List Int:=listVK s 128
theorem int_info:(Tryz.prog.info? 3).map (fun i=>(i.zero,i.size,i.bytes)) = some (some (.int .i64 0),1,8):=by kernel_rfl
def encZ (n:Int):Value:=.int .i64 n
theorem owns_slI {w:World} {base:Nat} {v:Value} {l:List Int} (h:w.ownsRow base 3 1 v l.length (l.map encZ)):SlI w v l:=by
 obtain ⟨_,⟨rfl,e⟩ | ⟨g,cap,cur,rfl,hgb,hgh,hn,hm,hcs,ht⟩⟩:=h
 ·have:l = []:=by simpa using e
  subst this
  exact ⟨none,0,rfl,.inl ⟨rfl,rfl,rfl⟩⟩
 ·refine ⟨_,cap,rfl,.inr ⟨g,0,rfl,fun j hj=>?_⟩⟩
  have h1:(l.map encZ)[j]? = some (encZ l[j]):=by rw [List.getElem?_map,List.getElem?_eq_getElem hj];rfl
  rw [←ht,List.getElem?_take] at h1
  split at h1
  ·have h2:cur[j]? = some (encZ l[j]):=by simpa using h1
   simp [World.cell?,hgh,h2,encZ]
  ·simp at h1
theorem own_base {w:World} {B B':Nat} {e:TypeId} {sz:Nat} {v:Value} {n:Nat} {xs:List Value} (h:w.ownsRow B e sz v n xs) (hb:B'≤B):w.ownsRow B' e sz v n xs:=by
 obtain ⟨h1,h2⟩:=h
 refine ⟨h1,h2.imp id ?_⟩
 rintro ⟨g,cap,cur,h3,h4,h5⟩
 exact ⟨g,cap,cur,h3,Nat.le_trans hb h4,h5⟩
end Go.Proofs.YtckhohpbokojdaaGreatDoor
end
