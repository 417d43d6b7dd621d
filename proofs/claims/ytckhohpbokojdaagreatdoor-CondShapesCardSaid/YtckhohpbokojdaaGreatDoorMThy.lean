import Derived.Test.YtckhohpbokojdaaGreatDoorMRef3
import Derived.Test.YtckhohpbokojdaaGreatDoorMLaw11
import Derived.Test.YtckhohpbokojdaaGreatDoorMReg
import Derived.Test.YtckhohpbokojdaaGreatDoorMAdd
import Derived.Test.YtckhohpbokojdaaGreatDoorMBase
import Derived.ChangeKeysEq
section
set_option linter.unusedSimpArgs false
set_option linter.unusedVariables false
namespace Go.Proofs.YtckhohpbokojdaaGreatDoor
open Go Go.RowKit Go.Shelf
def SetsAt (w:World) (b:Nat) (n:Nat) (f:Nat→VSet):Prop:=∃ c,w.heap[b]? = some (.cells c 37 (0,0))∧c.size = n * 2∧∀ j,j < n→c[j * 2]? = some (.int .u64 (lo (f j)))∧c[j * 2+1]? = some (.int .u64 (hi (f j)))
section
variable {w w':World} {b n:Nat} {f:Nat→VSet}
theorem SetsAt.cell (h:SetsAt w b n f) {j:Nat} (hj:j < n):(w.cell? ⟨b,j * 2,none⟩ = some (.int .u64 (lo (f j)))∧w.cell? ⟨b,j * 2+1,none⟩ = some (.int .u64 (hi (f j))))∧w.frozen? ⟨b,j * 2,none⟩ = false∧w.frozen? ⟨b,j * 2+1,none⟩ = false:=by
 obtain ⟨c,h1,h2,h3⟩:=h
 obtain ⟨h4,h5⟩:=h3 j hj
 simp [World.cell?,World.frozen?,h1,h4,h5]
theorem SetsAt.same (h:SetsAt w b n f) (hs:w'.heap[b]? = w.heap[b]?):SetsAt w' b n f:=by
 obtain ⟨c,h1,h2,h3⟩:=h
 exact ⟨c,hs.trans h1,h2,h3⟩
theorem SetsAt.lt (h:SetsAt w b n f):b < w.heap.size:=by
 obtain ⟨c,h1,h2,h3⟩:=h
 exact (Array.getElem?_eq_some_iff.1 h1).1
theorem SetsAt.below (h:SetsAt w b n f) (hs:Below w.heap.size w w'):SetsAt w' b n f:=h.same (hs.block b h.lt)
def setVS (f:Nat→VSet) (i:Nat) (m:VSet):Nat→VSet:=fun j=>if j = i then m else f j
theorem SetsAt.set (h:SetsAt w b n f) (i:Nat) (m:VSet):SetsAt ((w.setCell ⟨b,i * 2,none⟩ (.int .u64 (lo m))).setCell ⟨b,i * 2+1,none⟩ (.int .u64 (hi m))) b n (setVS f i m):=by
 obtain ⟨c,h1,h2,h3⟩:=h
 refine ⟨_,heap_set (heap_set h1 _ _) _ _,by simpa using h2,fun j hj=>?_⟩
 obtain ⟨h4,h5⟩:=h3 j hj
 by_cases hij:j = i
 ·subst hij
  simp only [setVS,if_pos]
  constructor
  ·rw [Array.getElem?_setIfInBounds,if_neg (by omega),Array.getElem?_setIfInBounds,if_pos rfl,if_pos (by omega)]
  ·rw [Array.getElem?_setIfInBounds,if_pos rfl,if_pos (by simp;omega)]
 ·simp only [setVS,if_neg hij]
  constructor
  ·rw [Array.getElem?_setIfInBounds,if_neg (by omega),Array.getElem?_setIfInBounds,if_neg (by omega)];exact h4
  ·rw [Array.getElem?_setIfInBounds,if_neg (by omega),Array.getElem?_setIfInBounds,if_neg (by omega)];exact h5
end
theorem setsNew (w:World) (n:Nat) (ad:Nat) (ha:ad = w.heap.size):SetsAt (w.alloc (.cells (madeCells #[.int .u64 0,.int .u64 0] (n * 2)) 37)) ad n (fun _=>0):=by
 refine ⟨_,heap_new_at w _ ad ha,by simp [madeCells],fun j hj=>?_⟩
 have e0:(j * 2) % 2 = 0:=by omega
 have e1:(j * 2+1) % 2 = 1:=by omega
 have l0:j * 2 < n * 2:=by omega
 have l1:j * 2+1 < n * 2:=by omega
 constructor
 ·simp [madeCells,l0,e0,lo]
 ·simp [madeCells,l1,e1,hi]
theorem union_agg' (a b:VSet) (w:World):Calls Tryz.prog 21 #[.agg #[.int .u64 (lo a),.int .u64 (hi a)],.agg #[.int .u64 (lo b),.int .u64 (hi b)]] w fun e w'=>e = .returned (.agg #[.int .u64 (lo (a ||| b)),.int .u64 (hi (a ||| b))])∧Ext w w':=union_any a b w
end Go.Proofs.YtckhohpbokojdaaGreatDoor
namespace Go.Proofs.YtckhohpbokojdaaGreatDoor
open Go Go.RowKit Go.Shelf
theorem lohi_inj {a b:VSet} (h1:lo a = lo b) (h2:hi a = hi b):a = b:=by
 unfold lo at h1
 unfold hi at h2
 have e1:a.setWidth 64 = b.setWidth 64:=BitVec.eq_of_toNat_eq (by exact_mod_cast h1)
 have e2:(a >>> 64).setWidth 64 = (b >>> 64).setWidth 64:=BitVec.eq_of_toNat_eq (by exact_mod_cast h2)
 refine BitVec.eq_of_getLsbD_eq fun i hi=>?_
 by_cases hlt:i < 64
 ·have:=congrArg (fun x:BitVec 64=>x.getLsbD i) e1
  simpa [hlt] using this
 ·have:=congrArg (fun x:BitVec 64=>x.getLsbD (i - 64)) e2
  simp only [BitVec.getLsbD_setWidth,BitVec.getLsbD_ushiftRight] at this
  rw [show 64+(i - 64) = i by omega,show decide (i - 64 < 64) = true from decide_eq_true (by omega)] at this
  simpa using this
set_option maxRecDepth 100000 in
theorem setEqD (x y a b:Int) (w:World):(Op.equalIn 10000 37 (.agg #[.int .u64 x,.int .u64 y]) (.agg #[.int .u64 a,.int .u64 b])).run Tryz.prog w = .ok (decide (x = a) && decide (y = b)) w:=by
 obtain ⟨i0,hi0,_,_,_⟩:=info_parts (show (Tryz.prog.info? 35).map (fun i=>(i.zero,i.size,i.bytes)) = some (some (.int .u64 0),1,8) by kernel_rfl)
 rw [run_equalIn_array w 9999 _ _ Tryz.underlying37 hi0]
 have hc:Tryz.prog.cellsOf 35 = 1:=by kernel_rfl
 rw [hc,show List.range 2 = [0,1] from rfl]
 simp [Op.eqItems,go_sem,Tryz.underlying35]
 by_cases h1:x = a <;> by_cases h2:y = b <;> simp [h1,h2]
theorem setEqS (m n:VSet) (w:World):(Op.equalIn 10000 37 (.agg #[.int .u64 (lo m),.int .u64 (hi m)]) (.agg #[.int .u64 (lo n),.int .u64 (hi n)])).run Tryz.prog w = .ok (decide (m = n)) w:=by
 rw [setEqD]
 congr 1
 rw [Bool.eq_iff_iff,Bool.and_eq_true,decide_eq_true_iff,decide_eq_true_iff,decide_eq_true_iff]
 exact ⟨fun h=>lohi_inj h.1 h.2,fun h=>by subst h;exact ⟨rfl,rfl⟩⟩
end Go.Proofs.YtckhohpbokojdaaGreatDoor
end
section
set_option linter.unusedSimpArgs false
set_option linter.unusedVariables false
namespace Go.Proofs.YtckhohpbokojdaaGreatDoor
open Go Go.RowKit Go.Shelf
theorem validB_var {n l:Int} (h0:0≤n) (h1:n≤128):L.validB n l = (decide (varF l≠0) && decide (varF l≤n)):=by
 unfold L.validB varF
 by_cases a:1≤l∧l≤128
 ·rw [if_pos a];rw [Bool.eq_iff_iff];simp only [Bool.and_eq_true,decide_eq_true_eq];omega
 ·rw [if_neg a]
  by_cases b:l≤-1∧-128≤l
  ·rw [if_pos b];rw [Bool.eq_iff_iff];simp only [Bool.and_eq_true,decide_eq_true_eq];omega
  ·rw [if_neg b];rw [Bool.eq_iff_iff];simp only [Bool.and_eq_true,decide_eq_true_eq];omega
set_option maxRecDepth 100000 in
set_option maxHeartbeats 1000000 in
theorem valid_any {n l:Int} (h0:0≤n) (h1:n≤128) (w:World):Calls Tryz.prog 78 #[.int .i64 l,.int .i64 n] w fun e w'=>e = .returned (.bool (L.validB n l))∧w = w':=by
 rw [validB_var h0 h1]
 have q:=fun W=>var_any l W
 by_cases a:varF l = 0
 ·have e:((varF l == 0:Bool)) = true:=by rw [beq_iff_eq];exact a
  have e2:decide (varF l≠0) = false:=decide_eq_false (by omega)
  rw [e2]
  have q1:=q w
  rw [a] at q1
  clear a e e2 q
  go_enter Tryz.func78,Tryz.ntmps78
  go_wp2_with fail
  refine q1.mono ?_
  rintro e w2 ⟨rfl,rfl⟩
  go_wp2_with fail
  go_ret
  exact ⟨rfl,rfl⟩
 ·have e2:decide (varF l≠0) = true:=decide_eq_true a
  rw [e2]
  generalize varF l = x at *
  have q1:=q w
  have d:(x == 0) = false:=by rw [beq_eq_false_iff_ne];exact a
  clear e2
  replace a:=Lib.hid a
  go_enter Tryz.func78,Tryz.ntmps78
  go_wp2_with fail
  refine q1.mono ?_
  rintro e w2 ⟨rfl,rfl⟩
  go_wp2_with fail
  refine q1.mono ?_
  rintro e w3 ⟨rfl,rfl⟩
  go_wp2_with fail
  go_ret
  exact ⟨by have:=a.out;simp [this],rfl⟩
end Go.Proofs.YtckhohpbokojdaaGreatDoor
end
