import Derived.Test.YtckhohpbokojdaaGreatDoorLReg
import Derived.Test.YtckhohpbokojdaaGreatDoorLAdd
import Derived.Test.YtckhohpbokojdaaGreatDoorLBase
import Derived.ChangeKeysEq
import Derived.Test.YtckhohpbokojdaaGreatDoorLVars
import Derived.Laws.IdiomStrings
import Derived.LoopN
import Derived.Laws.CopyOwn
import Derived.Laws.IdiomCopy
import Derived.Laws.EntriesVeiled
section
set_option linter.unusedSimpArgs false
set_option linter.unusedVariables false
namespace Go.Proofs.YtckhohpbokojdaaGreatDoor
open Go Go.RowKit Go.Shelf
def SetsAt (w:World) (b:Nat) (n:Nat) (f:Nat→VSet):Prop:=∃ c,w.heap[b]? = some (.cells c 37 (0,0))∧c.size = n * 2∧∀ j,j < n→c[j * 2]? = some (.int .u64 (lo (f j)))∧c[j * 2+1]? = some (.int .u64 (hi (f j)))
section
variable {w w':World} {b n:Nat} {f:Nat→VSet}
theorem SetsAt.cell (h:SetsAt w b n f) {j:Nat} (hj:j < n):(w.cell? ⟨b,j * 2,none⟩ = some (.int .u64 (lo (f j)))∧w.cell? ⟨b,j * 2+1,none⟩ = some (.int .u64 (hi (f j))))∧w.frozen? ⟨b,j * 2,none⟩ = false∧w.frozen? ⟨b,j * 2+1,none⟩ = false:=by
 obtain ⟨c,h1,h2,h3⟩:=h
 obtain ⟨h4,h5⟩:=h3 j hj
 simp [World.cell?,World.frozen?,h1,h4,h5]
theorem SetsAt.same (h:SetsAt w b n f) (hs:w'.heap[b]? = w.heap[b]?):SetsAt w' b n f:=by
 obtain ⟨c,h1,h2,h3⟩:=h
 exact ⟨c,hs.trans h1,h2,h3⟩
theorem SetsAt.lt (h:SetsAt w b n f):b < w.heap.size:=by
 obtain ⟨c,h1,h2,h3⟩:=h
 exact (Array.getElem?_eq_some_iff.1 h1).1
theorem SetsAt.below (h:SetsAt w b n f) (hs:Below w.heap.size w w'):SetsAt w' b n f:=h.same (hs.block b h.lt)
def setVS (f:Nat→VSet) (i:Nat) (m:VSet):Nat→VSet:=fun j=>if j = i then m else f j
theorem SetsAt.set (h:SetsAt w b n f) (i:Nat) (m:VSet):SetsAt ((w.setCell ⟨b,i * 2,none⟩ (.int .u64 (lo m))).setCell ⟨b,i * 2+1,none⟩ (.int .u64 (hi m))) b n (setVS f i m):=by
 obtain ⟨c,h1,h2,h3⟩:=h
 refine ⟨_,heap_set (heap_set h1 _ _) _ _,by simpa using h2,fun j hj=>?_⟩
 obtain ⟨h4,h5⟩:=h3 j hj
 by_cases hij:j = i
 ·subst hij
  simp only [setVS,if_pos]
  constructor
  ·rw [Array.getElem?_setIfInBounds,if_neg (by omega),Array.getElem?_setIfInBounds,if_pos rfl,if_pos (by omega)]
  ·rw [Array.getElem?_setIfInBounds,if_pos rfl,if_pos (by simp;omega)]
 ·simp only [setVS,if_neg hij]
  constructor
  ·rw [Array.getElem?_setIfInBounds,if_neg (by omega),Array.getElem?_setIfInBounds,if_neg (by omega)];exact h4
  ·rw [Array.getElem?_setIfInBounds,if_neg (by omega),Array.getElem?_setIfInBounds,if_neg (by omega)];exact h5
end
theorem setsNew (w:World) (n:Nat) (ad:Nat) (ha:ad = w.heap.size):SetsAt (w.alloc (.cells (madeCells #[.int .u64 0,.int .u64 0] (n * 2)) 37)) ad n (fun _=>0):=by
 refine ⟨_,heap_new_at w _ ad ha,by simp [madeCells],fun j hj=>?_⟩
 have e0:(j * 2) % 2 = 0:=by omega
 have e1:(j * 2+1) % 2 = 1:=by omega
 have l0:j * 2 < n * 2:=by omega
 have l1:j * 2+1 < n * 2:=by omega
 constructor
 ·simp [madeCells,l0,e0,lo]
 ·simp [madeCells,l1,e1,hi]
theorem union_agg' (a b:VSet) (w:World):Calls Tryz.prog 21 #[.agg #[.int .u64 (lo a),.int .u64 (hi a)],.agg #[.int .u64 (lo b),.int .u64 (hi b)]] w fun e w'=>e = .returned (.agg #[.int .u64 (lo (a ||| b)),.int .u64 (hi (a ||| b))])∧Ext w w':=union_any a b w
end Go.Proofs.YtckhohpbokojdaaGreatDoor
namespace Go.Proofs.YtckhohpbokojdaaGreatDoor
open Go Go.RowKit Go.Shelf
theorem lohi_inj {a b:VSet} (h1:lo a = lo b) (h2:hi a = hi b):a = b:=by
 unfold lo at h1
 unfold hi at h2
 have e1:a.setWidth 64 = b.setWidth 64:=BitVec.eq_of_toNat_eq (by exact_mod_cast h1)
 have e2:(a >>> 64).setWidth 64 = (b >>> 64).setWidth 64:=BitVec.eq_of_toNat_eq (by exact_mod_cast h2)
 refine BitVec.eq_of_getLsbD_eq fun i hi=>?_
 by_cases hlt:i < 64
 ·have:=congrArg (fun x:BitVec 64=>x.getLsbD i) e1
  simpa [hlt] using this
 ·have:=congrArg (fun x:BitVec 64=>x.getLsbD (i - 64)) e2
  simp only [BitVec.getLsbD_setWidth,BitVec.getLsbD_ushiftRight] at this
  rw [show 64+(i - 64) = i by omega,show decide (i - 64 < 64) = true from decide_eq_true (by omega)] at this
  simpa using this
set_option maxRecDepth 100000 in
theorem setEqD (x y a b:Int) (w:World):(Op.equalIn 10000 37 (.agg #[.int .u64 x,.int .u64 y]) (.agg #[.int .u64 a,.int .u64 b])).run Tryz.prog w = .ok (decide (x = a) && decide (y = b)) w:=by
 obtain ⟨i0,hi0,_,_,_⟩:=info_parts (show (Tryz.prog.info? 35).map (fun i=>(i.zero,i.size,i.bytes)) = some (some (.int .u64 0),1,8) by kernel_rfl)
 rw [run_equalIn_array w 9999 _ _ Tryz.underlying37 hi0]
 have hc:Tryz.prog.cellsOf 35 = 1:=by kernel_rfl
 rw [hc,show List.range 2 = [0,1] from rfl]
 simp [Op.eqItems,go_sem,Tryz.underlying35]
 by_cases h1:x = a <;> by_cases h2:y = b <;> simp [h1,h2]
theorem setEqS (m n:VSet) (w:World):(Op.equalIn 10000 37 (.agg #[.int .u64 (lo m),.int .u64 (hi m)]) (.agg #[.int .u64 (lo n),.int .u64 (hi n)])).run Tryz.prog w = .ok (decide (m = n)) w:=by
 rw [setEqD]
 congr 1
 rw [Bool.eq_iff_iff,Bool.and_eq_true,decide_eq_true_iff,decide_eq_true_iff,decide_eq_true_iff]
 exact ⟨fun h=>lohi_inj h.1 h.2,fun h=>by subst h;exact ⟨rfl,rfl⟩⟩
end Go.Proofs.YtckhohpbokojdaaGreatDoor
end
section
set_option linter.unusedSimpArgs false
set_option linter.unusedVariables false
namespace Go.Proofs.YtckhohpbokojdaaGreatDoor
open Go Go.RowKit Go.Shelf
theorem validB_var {n l:Int} (h0:0≤n) (h1:n≤128):L.validB n l = (decide (varF l≠0) && decide (varF l≤n)):=by
 unfold L.validB varF
 by_cases a:1≤l∧l≤128
 ·rw [if_pos a];rw [Bool.eq_iff_iff];simp only [Bool.and_eq_true,decide_eq_true_eq];omega
 ·rw [if_neg a]
  by_cases b:l≤-1∧-128≤l
  ·rw [if_pos b];rw [Bool.eq_iff_iff];simp only [Bool.and_eq_true,decide_eq_true_eq];omega
  ·rw [if_neg b];rw [Bool.eq_iff_iff];simp only [Bool.and_eq_true,decide_eq_true_eq];omega
set_option maxRecDepth 100000 in
set_option maxHeartbeats 1000000 in
theorem valid_any {n l:Int} (h0:0≤n) (h1:n≤128) (w:World):Calls Tryz.prog 78 #[.int .i64 l,.int .i64 n] w fun e w'=>e = .returned (.bool (L.validB n l))∧w = w':=by
 rw [validB_var h0 h1]
 have q:=fun W=>var_any l W
 by_cases a:varF l = 0
 ·have e:((varF l == 0:Bool)) = true:=by rw [beq_iff_eq];exact a
  have e2:decide (varF l≠0) = false:=decide_eq_false (by omega)
  rw [e2]
  have q1:=q w
  rw [a] at q1
  clear a e e2 q
  go_enter Tryz.func78,Tryz.ntmps78
  go_wp2_with fail
  refine q1.mono ?_
  rintro e w2 ⟨rfl,rfl⟩
  go_wp2_with fail
  go_ret
  exact ⟨rfl,rfl⟩
 ·have e2:decide (varF l≠0) = true:=decide_eq_true a
  rw [e2]
  generalize varF l = x at *
  have q1:=q w
  have d:(x == 0) = false:=by rw [beq_eq_false_iff_ne];exact a
  clear e2
  replace a:=Lib.hid a
  go_enter Tryz.func78,Tryz.ntmps78
  go_wp2_with fail
  refine q1.mono ?_
  rintro e w2 ⟨rfl,rfl⟩
  go_wp2_with fail
  refine q1.mono ?_
  rintro e w3 ⟨rfl,rfl⟩
  go_wp2_with fail
  go_ret
  exact ⟨by have:=a.out;simp [this],rfl⟩
end Go.Proofs.YtckhohpbokojdaaGreatDoor
end
section
set_option linter.unusedSimpArgs false
set_option linter.unusedVariables false
namespace Go.Proofs.YtckhohpbokojdaaGreatDoor
open Go Go.RowKit
section
variable {P:Program} {ops:Array Oper} {Q:Exit→Act→World→Prop} {md:Region.Mode} {S:World→Prop} {z:Nat}
def lastOp (md:Region.Mode) (ops:Array Oper) (z:Nat):Bool:=(List.range ops.size).all fun k=>decide (k = z) || ((ops[z]?).map fun o=>o.after.any fun e=>Region.binds md e && decide (e.on = k)).getD false
theorem lastOp_waits (h:lastOp md ops z = true) {listed:Array Bool} (hz:z∈Region.ready md ops listed) {k:Nat} (hk:k∈Region.ready md ops listed):k = z:=by
 apply Classical.byContradiction
 intro hne
 obtain ⟨hk0,ok,hok,_⟩:=mem_ready.1 hk
 obtain ⟨hz0,oz,hoz,hall⟩:=mem_ready.1 hz
 have hks:k < ops.size:=(Array.getElem?_eq_some_iff.1 hok).1
 have h1:=List.all_eq_true.1 h k (List.mem_range.2 hks)
 rw [decide_eq_false hne,Bool.false_or,hoz] at h1
 simp only [Option.map_some,Option.getD_some] at h1
 rw [Array.any_eq_true'] at h1
 obtain ⟨e,he,h2⟩:=h1
 simp only [Bool.and_eq_true,decide_eq_true_eq] at h2
 have h3:=hall e he h2.1
 rw [h2.2] at h3
 rcases Nat.lt_or_ge k listed.size with h' | h'
 ·simp [h'] at hk0 h3;rw [hk0] at h3;cases h3
 ·simp [Array.getElem?_eq_none h'] at h3
def wpZ (P:Program) (md:Region.Mode) (ops:Array Oper) (Q:Exit→Act→World→Prop) (S:World→Prop) (z:Nat):Nat→Array Bool→Act→World→Prop
 | 0,listed,a,w=>Region.ready md ops listed = []∧Q .normal a w
 | fuel+1,listed,a,w =>
   (Region.ready md ops listed = []→Q .normal a w) ∧
   ∀ i∈Region.ready md ops listed,wpOp P ops Q i (fun a' w'=>(i≠z→S w')∧wpZ P md ops Q S z fuel (listed.setIfInBounds i true) a' w') a w
theorem wpZ_any:∀ (fuel:Nat) (listed:Array Bool) (a:Act) (w:World),wpZ P md ops Q S z fuel listed a w→wpAny P md ops Q fuel listed a w
 | 0,_,_,_,h=>h
 | fuel+1,_,_,_,h=>⟨h.1,fun i hi=>wpOp_mono (fun a' w' h'=>wpZ_any fuel _ a' w' h'.2) (h.2 i hi)⟩
theorem wpZ_done {listed:Array Bool} {a:Act} {w:World} (hr:Region.ready md ops listed = []) (h:Q .normal a w):∀ fuel,wpZ P md ops Q S z fuel listed a w
 | 0=>⟨hr,h⟩
 | _+1=>⟨fun _=>h,by rw [hr];simp⟩
theorem wpZ_first (hz:lastOp md ops z = true) {i:Nat} {oi:Oper} {v:Value} (hi:ops[i]? = some oi) (hiz:i≠z) (hsel:∀ (j:Nat) (o:Oper) cs b,ops[j]? = some o→o.op≠.select cs b)
  (hQ:∀ c a w,Q (.panic c) (a.put oi.dst v) w→Q (.panic c) a w) :
  ∀ (fuel:Nat) (listed:Array Bool) (a:Act) (w:World),
    (∀ j oj,ops[j]? = some oj→j≠i→listed.getD j true = false→(∀ e∈oj.after,Region.binds md e = true→e.on≠i)→oi.apart ops oj = true) →
    i∈Region.ready md ops listed→YieldsIf P ops S oi v a→S w →
    wpZ P md ops Q S z fuel (listed.setIfInBounds i true) (a.put oi.dst v) w→wpZ P md ops Q S z (fuel+1) listed a w
 | 0,listed,a,w,_,hr,hy,hS,H=>⟨fun h=>(by rw [h] at hr;cases hr),fun j hj=>by
    by_cases hji:j = i
    ·subst hji;exact hy.wpOp hi hS ⟨fun _=>hS,H⟩
    ·have:=ready_mono hj hji
     rw [H.1] at this;cases this⟩
 | fuel+1,listed,a,w,hfree,hr,hy,hS,H=>⟨fun h=>(by rw [h] at hr;cases hr),fun j hj=>by
    by_cases hji:j = i
    ·subst hji;exact hy.wpOp hi hS ⟨fun _=>hS,H⟩
    have hjz:j≠z:=fun e=>hiz (lastOp_waits hz (e ▸ hj) hr)
    have h1:=H.2 j (ready_mono hj hji)
    obtain ⟨hjun,oj,hoj,hall⟩:=mem_ready.1 hj
    have hnot:∀ e∈oj.after,Region.binds md e = true→e.on≠i:=fun e he hb heq=>by
     have h2:=hall e he hb
     have h0:=(mem_ready.1 hr).1
     rw [heq] at h2
     rcases Nat.lt_or_ge i listed.size with h' | h'
     ·simp [h'] at h0 h2;rw [h0] at h2;cases h2
     ·simp [Array.getElem?_eq_none h'] at h2
    have h2:=wpOp_putIf hoj (hfree j oj hoj hji hjun hnot) (fun cs b=>hsel i oi cs b hi) (fun cs b=>hsel j oj cs b hoj) hQ hy h1
    refine wpOp_mono (fun a' w' h3=>⟨h3.2.1,wpZ_first hz hi hiz hsel hQ fuel (listed.setIfInBounds j true) a' w' (fun k ok hk hki hun hno=>hfree k ok hk hki ?_ hno) (ready_mono hr (Ne.symm hji)) h3.1 (h3.2.1 hjz) ?_⟩) h2
    ·by_cases hjk:j = k
     ·subst hjk;exact hjun
     ·rw [getD_set_ne true hjk] at hun;exact hun
    ·rw [Array.setIfInBounds_comm _ _ hji]
     exact h3.2.2⟩
end
theorem wpZ_take {P:Program} {l:List Oper} {md:Region.Mode} {Q:Exit→Act→World→Prop} {S:World→Prop} {z i:Nat} {oi:Oper} {v:Value} {fuel:Nat} {listed:Array Bool} {a:Act} {w:World} (hi:l[i]? = some oi) (hz:lastOp md l.toArray z = true) (hiz:i≠z)
  (hs:Region.noSelect l.toArray = true) (hf:Region.free md l.toArray listed i = true) (hr:(Region.ready md l.toArray listed).contains i = true)
  (hQ:∀ c a w,Q (.panic c) (a.put oi.dst v) w→Q (.panic c) a w) (hy:YieldsIf P l.toArray S oi v a) (hS:S w)
  (h:wpZ P md l.toArray Q S z fuel (listed.setIfInBounds i true) (a.put oi.dst v) w):wpZ P md l.toArray Q S z (fuel+1) listed a w :=
 wpZ_first hz (by simpa using hi) hiz (Region.noSelect_spec hs) hQ fuel listed a w (Region.free_spec (by simpa using hi) hf) (by simpa using hr) hy hS h
theorem wpZ_one {P:Program} {l:List Oper} {md:Region.Mode} {Q:Exit→Act→World→Prop} {S:World→Prop} {z i:Nat} {o:Oper} {fuel:Nat} {listed:Array Bool} {a:Act} {w:World} (hr:Region.ready md l.toArray listed = [i]) (ho:l[i]? = some o)
  (h:∀ K':Act→World→Prop,Shut (∀ a w,S w→(S w→wpZ P md l.toArray Q S z fuel (listed.setIfInBounds i true) a w)→K' a w)→if Region.wanted o (yielded l.toArray a.tmps) = true then Oper.wp P o a w K' Q else K' (a.put o.dst undef) w) :
  wpZ P md l.toArray Q S z (fuel+1) listed a w:=by
 refine ⟨fun h0=>(by rw [h0] at hr;cases hr),fun j hj=>?_⟩
 rw [hr,List.mem_singleton] at hj
 subst hj
 exact wpOp_step (by simpa using ho) (fun K' hK=>h K' (fun a w hS hW=>hK a w ⟨fun _=>hS,hW hS⟩))
theorem wpZ_last {P:Program} {l:List Oper} {md:Region.Mode} {Q:Exit→Act→World→Prop} {S:World→Prop} {z:Nat} {o:Oper} {fuel:Nat} {listed:Array Bool} {a:Act} {w:World} (hr:Region.ready md l.toArray listed = [z]) (ho:l[z]? = some o) (hd:Region.ready md l.toArray (listed.setIfInBounds z true) = [])
  (h:∀ K':Act→World→Prop,Shut (∀ a w,Q .normal a w→K' a w)→if Region.wanted o (yielded l.toArray a.tmps) = true then Oper.wp P o a w K' Q else K' (a.put o.dst undef) w) :
  wpZ P md l.toArray Q S z (fuel+1) listed a w:=by
 refine ⟨fun h0=>(by rw [h0] at hr;cases hr),fun j hj=>?_⟩
 rw [hr,List.mem_singleton] at hj
 subst hj
 exact wpOp_step (by simpa using ho) (fun K' hK=>h K' (fun a w hW=>hK a w ⟨fun hn=>absurd rfl hn,wpZ_done hd hW fuel⟩))
theorem wp_region_z {P:Program} {l:List Oper} {Q:Exit→Act→World→Prop} {S:World→Prop} (z:Nat) {id:Nat} {a:Act} {w:World} (hm:P.follows .mixedOrders = true) (hS:S w.drew)
  (h:S w.drew→wpZ P .any l.toArray Q S z l.toArray.size (Array.replicate l.toArray.size false) a w.drew):(Code.region id l.toArray true).wp P Q a w :=
 wp_region_any hm (wpZ_any _ _ _ _ (h hS))
end Go.Proofs.YtckhohpbokojdaaGreatDoor
end
section
set_option linter.unusedSimpArgs false
set_option linter.unusedVariables false
namespace Go.Proofs.YtckhohpbokojdaaGreatDoor.L
def g1 (A x:Nat):Nat:=(x / 2 &&& A)+(x &&& A)
def g2 (A x:Nat):Nat:=(x / 4 &&& A)+(x &&& A)
def g3 (A x:Nat):Nat:=(x / 16+x) &&& A
theorem t1:((List.range 512).all fun k=>((k % 256 / 2+128 * (k / 256)) &&& 0x55) == (k % 256 / 2 &&& 0x55)) = true:=by decide +kernel
theorem t2:((List.range 1024).all fun k=>((k % 256 / 4+64 * (k / 256)) &&& 0x33) == (k % 256 / 4 &&& 0x33)) = true:=by decide +kernel
theorem t3:((List.range 2048).all fun k=>!(decide (k % 256 % 16≤4) && decide (k % 256 / 16≤4) && decide (k / 256≤4)) || (((k % 256 / 16+16 * (k / 256)+k % 256) &&& 0x0f) == ((k % 256 / 16+k % 256) &&& 0x0f))) = true:=by decide +kernel
def pop8 (u:Nat):Nat:=((List.range 8).filter fun i=>u.testBit i).length
theorem t4:((List.range 256).all fun u=>decide (g1 0x55 u < 256) && (decide (g2 0x33 (g1 0x55 u) < 256) && (decide (g2 0x33 (g1 0x55 u) % 16≤4) && (decide (g2 0x33 (g1 0x55 u) / 16≤4) && (g3 0x0f (g2 0x33 (g1 0x55 u)) == pop8 u))))) = true:=by decide +kernel
end Go.Proofs.YtckhohpbokojdaaGreatDoor.L
end
section
set_option linter.unusedSimpArgs false
set_option linter.unusedVariables false
namespace Go.Proofs.YtckhohpbokojdaaGreatDoor
open Go Go.RowKit Go.Shelf
def RowF (w:World) (b:Nat) (ty:TypeId) (n:Nat) (f:Nat→Value):Prop:=∃ c,w.heap[b]? = some (.cells c ty (0,0))∧c.size = n∧∀ j,j < n→c[j]? = some (f j)
def putF (f:Nat→Value) (i:Nat) (v:Value):Nat→Value:=fun j=>if j = i then v else f j
section
variable {w w':World} {b n:Nat} {ty:TypeId} {f:Nat→Value}
theorem RowF.cell (h:RowF w b ty n f) {j:Nat} (hj:j < n):w.cell? ⟨b,j,none⟩ = some (f j)∧w.frozen? ⟨b,j,none⟩ = false:=by
 obtain ⟨c,h1,h2,h3⟩:=h
 have h4:=h3 j hj
 simp [World.cell?,World.frozen?,h1,h4]
theorem RowF.same (h:RowF w b ty n f) (hs:w'.heap[b]? = w.heap[b]?):RowF w' b ty n f:=by
 obtain ⟨c,h1,h2⟩:=h
 exact ⟨c,hs.trans h1,h2⟩
theorem RowF.lt (h:RowF w b ty n f):b < w.heap.size:=by
 obtain ⟨c,h1,_⟩:=h
 exact (Array.getElem?_eq_some_iff.1 h1).1
theorem RowF.ext (h:RowF w b ty n f) (hs:Ext w w'):RowF w' b ty n f:=h.same (hs.below.block b h.lt)
theorem RowF.below (h:RowF w b ty n f) (hs:Below w.heap.size w w'):RowF w' b ty n f:=h.same (hs.block b h.lt)
theorem RowF.set (h:RowF w b ty n f) (i:Nat) (v:Value):RowF (w.setCell ⟨b,i,none⟩ v) b ty n (putF f i v):=by
 obtain ⟨c,h1,h2,h3⟩:=h
 refine ⟨_,heap_set h1 _ _,by simpa using h2,fun j hj=>?_⟩
 have h4:=h3 j hj
 unfold putF
 by_cases hij:j = i
 ·subst hij
  rw [if_pos rfl,Array.getElem?_setIfInBounds,if_pos rfl,if_pos (by omega)]
 ·rw [if_neg hij,Array.getElem?_setIfInBounds,if_neg (by omega)];exact h4
theorem RowF.congr {g:Nat→Value} (h:RowF w b ty n f) (hg:∀ j,j < n→f j = g j):RowF w b ty n g:=by
 obtain ⟨c,h1,h2,h3⟩:=h
 exact ⟨c,h1,h2,fun j hj=>by rw [h3 j hj,hg j hj]⟩
end
theorem rowNew (w:World) (n:Nat) (z:Value) (ty:TypeId) (ad:Nat) (ha:ad = w.heap.size):RowF (w.alloc (.cells (madeCells #[z] n) ty)) ad ty n (fun _=>z):=by
 refine ⟨_,(by subst ha;exact heap_alloc_new w _),by simp [madeCells],fun j hj=>?_⟩
 simp [madeCells,hj,Nat.mod_one]
theorem make_row {sl el:TypeId} {z:Value} {by_:Nat} (h1:Tryz.prog.underlying sl = some (.slice el)) (h2:(Tryz.prog.info? el).map (fun i=>(i.zero,i.size,i.bytes)) = some (some z,1,by_)) (hz:z.cells = #[z]) (n:Nat) (hn:n≤1048576) (hb:by_≤64) (w:World) :
  (Instr.makeSlice sl (.int .i64 n) (.int .i64 n)).run Tryz.prog w = .ok (.slice (some ⟨w.heap.size,0,none⟩) n n) (w.alloc (.cells (madeCells #[z] n) el)):=by
 obtain ⟨i,hi,hz1,hs,hb1⟩:=info_parts h2
 have hr:=run_make (P:=Tryz.prog) w sl el i _ h1 hi hz1 .i64 .i64 n n (by omega) (Int.le_refl _) (by rw [hb1];have h1:by_ * n≤64 * 1048576:=Nat.mul_le_mul hb hn;have h2:n * by_ = by_ * n:=Nat.mul_comm _ _;omega) (by omega)
 rw [hs,hz,Nat.mul_one] at hr
 exact hr
end Go.Proofs.YtckhohpbokojdaaGreatDoor
end
section
set_option linter.unusedSimpArgs false
set_option linter.unusedVariables false
namespace Go.Proofs.YtckhohpbokojdaaGreatDoor
open Go Go.RowKit Go.Shelf
theorem alloc2h (w:World) (o1 o2:Obj):((w.alloc o1).alloc o2).heap[w.heap.size]? = some o1∧((w.alloc o1).alloc o2).heap[w.heap.size+1]? = some o2 :=
 ⟨(Below.heap_alloc _ _ _ (by simp)).trans (heap_alloc_new w o1),by have:=heap_alloc_new (w.alloc o1) o2;simpa using this⟩
theorem alloc3h (w:World) (o1 o2 o3:Obj):(((w.alloc o1).alloc o2).alloc o3).heap[w.heap.size]? = some o1∧(((w.alloc o1).alloc o2).alloc o3).heap[w.heap.size+1]? = some o2∧(((w.alloc o1).alloc o2).alloc o3).heap[w.heap.size+1+1]? = some o3 :=
 ⟨(Below.heap_alloc _ _ _ (by simp <;> omega)).trans (alloc2h w o1 o2).1,(Below.heap_alloc _ _ _ (by simp <;> omega)).trans (alloc2h w o1 o2).2,by have:=heap_alloc_new ((w.alloc o1).alloc o2) o3;simpa using this⟩
end Go.Proofs.YtckhohpbokojdaaGreatDoor
end
section
set_option linter.unusedSimpArgs false
set_option linter.unusedVariables false
namespace Go.Proofs.YtckhohpbokojdaaGreatDoor.L
structure Gt where
 kind:Int
 lit:Int
 inp:List Int
end Go.Proofs.YtckhohpbokojdaaGreatDoor.L
end
section
set_option linter.unusedSimpArgs false
set_option linter.unusedVariables false
namespace Go.Proofs.YtckhohpbokojdaaGreatDoor
open Go Go.RowKit Go.Shelf
set_option maxRecDepth 100000 in
set_option maxHeartbeats 1000000 in
theorem indexFunc_any {fm:Nat} {q:Value} (hKf:∀ (c:Array Value) (w:World),(callFunc fm c).run Tryz.prog w = .ok (.enter fm c) w) (I:World→Prop) {p:Int→Bool} {l:List Int} {v:Value} {w:World} (hv:∀ W,I W→SlI W v l) (hl:l.length≤9223372036854775807) (h0:I w)
  (hc:∀ (j:Nat) (hj:j < l.length) (W:World),I W→Calls Tryz.prog fm #[.int .i64 l[j],q] W fun e W'=>e = .returned (.bool (p l[j]))∧I W') :
  Calls Tryz.prog 73 #[v,.func (.func fm) #[] #[q]] w fun e w'=>∃ z:Int,e = .returned (.int .i64 z)∧decide (0≤z) = l.any p∧I w':=by
 obtain ⟨ba,cp,rfl,_⟩:=hv w h0
 have hcell:∀ W,I W→∀ j (hj:j < l.length),∃ b o,ba = some ⟨b,o,none⟩∧W.cell? ⟨b,o+j,none⟩ = some (.int .i64 l[j]):=fun W hI j hj=>by
  obtain ⟨ba',cp',e,h⟩:=hv W hI
  cases e
  rcases h with ⟨_,rfl,_⟩ | ⟨b,o,h1,h2⟩
  ·simp at hj
  ·exact ⟨b,o,h1,h2 j hj⟩
 replace hcell:=Lib.hid hcell
 replace hc:=Lib.hid hc
 replace h0:=Lib.hid h0
 clear hv
 go_enter Tryz.func73,Tryz.ntmps73
 go_wp2_with fail
 go_loopw [5,8] (fun _ i wr=>∃ k:Nat,k≤l.length∧i = .int .i64 k∧I wr∧∀ j (hj:j < l.length),j < k→p l[j] = false) (fun _ i _=>l.length - (intOf i).toNat)
 case atStart=>exact ⟨0,Nat.zero_le _,rfl,h0.out,fun j _ h=>absurd h (Nat.not_lt_zero _)⟩
 case round =>
  obtain ⟨k,hk,rfl,hI,hno⟩:=hrel
  by_cases hlt:k < l.length
  ·obtain ⟨b,o,rfl,f1⟩:=hcell.out wr hI k hlt
   have q1:=hc.out k hlt wr hI
   have hany:p l[k] = true→l.any p = true:=fun h=>List.any_eq_true.2 ⟨_,List.getElem_mem hlt,h⟩
   have hnext:p l[k] = false→∀ j (hj:j < l.length),j < k+1→p l[j] = false:=fun h j hj hjk=>by
    by_cases e:j = k
    ·subst e;exact h
    ·exact hno j hj (by omega)
   generalize l[k] = x at *
   replace hI:=Lib.hid hI
   replace hno:=Lib.hid hno
   replace hnext:=Lib.hid hnext
   replace hany:=Lib.hid hany
   cases hp:p x
   ·rw [hp] at q1
    go_wp2_with fail
    refine q1.mono ?_
    rintro e w2 ⟨rfl,hI2⟩
    have hn2:=hnext.out hp
    replace hI2:=Lib.hid hI2
    replace hn2:=Lib.hid hn2
    clear q1
    go_wp2_with fail
    go_roundw
    case rel=>exact ⟨k+1,by omega,by go_num,hI2.out,hn2.out⟩
    case measure=>simp [intOf];omega
   ·rw [hp] at q1
    go_wp2_with fail
    refine q1.mono ?_
    rintro e w2 ⟨rfl,hI2⟩
    replace hI2:=Lib.hid hI2
    clear q1
    go_wp2_with fail
    go_ret
    exact ⟨k,rfl,by rw [hany.out hp];exact decide_eq_true (by omega),hI2.out⟩
  ·obtain rfl:k = l.length:=by omega
   have hf:l.any p = false:=by
    rw [List.any_eq_false]
    intro x hx
    obtain ⟨j,hj,rfl⟩:=List.getElem_of_mem hx
    simp [hno j hj hj]
   replace hI:=Lib.hid hI
   replace hno:=Lib.hid hno
   replace hf:=Lib.hid hf
   go_wp2_with fail
   go_ret
   exact ⟨-1,rfl,by rw [hf.out];rfl,hI.out⟩
set_option maxRecDepth 100000 in
set_option maxHeartbeats 1000000 in
theorem containsFunc_any {fm:Nat} {q:Value} (hKf:∀ (c:Array Value) (w:World),(callFunc fm c).run Tryz.prog w = .ok (.enter fm c) w) (I:World→Prop) {p:Int→Bool} {l:List Int} {v:Value} {w:World} (hv:∀ W,I W→SlI W v l) (hl:l.length≤9223372036854775807) (h0:I w)
  (hc:∀ (j:Nat) (hj:j < l.length) (W:World),I W→Calls Tryz.prog fm #[.int .i64 l[j],q] W fun e W'=>e = .returned (.bool (p l[j]))∧I W') :
  Calls Tryz.prog 49 #[v,.func (.func fm) #[] #[q]] w fun e w'=>e = .returned (.bool (l.any p))∧I w':=by
 have q1:=indexFunc_any hKf I hv hl h0 hc
 obtain ⟨ba,cp,rfl,_⟩:=hv w h0
 replace hv:=Lib.hid hv
 replace hc:=Lib.hid hc
 replace h0:=Lib.hid h0
 generalize l.any p = B at *
 go_enter Tryz.func49,Tryz.ntmps49
 go_wp2_with fail
 refine q1.mono ?_
 rintro e w2 ⟨z,rfl,hz,hI⟩
 have hz2:decide (z≥0) = B:=hz
 replace hI:=Lib.hid hI
 clear q1
 go_wp2_with fail
 go_ret
 exact ⟨by first | rfl | (rw [←hz] <;> rfl),hI.out⟩
end Go.Proofs.YtckhohpbokojdaaGreatDoor
end
section
set_option linter.unusedSimpArgs false
set_option linter.unusedVariables false
namespace Go.Proofs.YtckhohpbokojdaaGreatDoor
open Go Go.RowKit Go.Shelf
def SlC (w:World) (v:Value) (C:List L.Gt):Prop :=
 ∃ ba c,v = .slice ba C.length c∧(C = []∨∃ b o,ba = some ⟨b,o,none⟩∧∀ j (hj:j < C.length),w.cell? ⟨b,o+j * 3,none⟩ = some (.int .i64 C[j].kind)∧w.cell? ⟨b,o+j * 3+1,none⟩ = some (.int .i64 C[j].lit)∧∃ u,w.cell? ⟨b,o+j * 3+2,none⟩ = some u∧SlI w u C[j].inp)
theorem SlC.ext {w w':World} {v:Value} {C:List L.Gt} (h:SlC w v C) (hb:Below w.heap.size w w'):SlC w' v C:=by
 obtain ⟨ba,c,rfl,h⟩:=h
 refine ⟨ba,c,rfl,h.imp id ?_⟩
 rintro ⟨b,o,rfl,hc⟩
 exact ⟨b,o,rfl,fun j hj=>by
  obtain ⟨h1,h2,u,h3,h4⟩:=hc j hj
  exact ⟨(hb.cell (World.block_lt_of_cell? w _ h1)).trans h1,(hb.cell (World.block_lt_of_cell? w _ h2)).trans h2,u,(hb.cell (World.block_lt_of_cell? w _ h3)).trans h3,h4.ext hb⟩⟩
theorem SlC.shape {w:World} {v:Value} {C:List L.Gt} (h:SlC w v C):∃ ba c,v = .slice ba C.length c∧∀ j (hj:j < C.length),∃ b o bb cc,ba = some ⟨b,o,none⟩∧w.cell? ⟨b,o+j * 3,none⟩ = some (.int .i64 C[j].kind)∧w.cell? ⟨b,o+j * 3+1,none⟩ = some (.int .i64 C[j].lit)∧w.cell? ⟨b,o+j * 3+2,none⟩ = some (.slice bb C[j].inp.length cc)∧SlI w (.slice bb C[j].inp.length cc) C[j].inp:=by
 obtain ⟨ba,c,rfl,h⟩:=h
 refine ⟨ba,c,rfl,fun j hj=>?_⟩
 rcases h with rfl | ⟨b,o,rfl,h⟩
 ·simp at hj
 ·obtain ⟨h1,h2,u,h3,h4⟩:=h j hj
  obtain ⟨bb,cc,e,_⟩:=id h4
  subst e
  exact ⟨b,o,bb,cc,rfl,h1,h2,h3,h4⟩
end Go.Proofs.YtckhohpbokojdaaGreatDoor
end
