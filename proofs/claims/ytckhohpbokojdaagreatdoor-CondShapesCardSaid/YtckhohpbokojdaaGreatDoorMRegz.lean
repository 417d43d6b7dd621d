import Derived.Test.YtckhohpbokojdaaGreatDoorMReg
set_option linter.unusedSimpArgs false
set_option linter.unusedVariables false
namespace Go.Proofs.YtckhohpbokojdaaGreatDoor
open Go Go.RowKit
section
variable {P:Program} {ops:Array Oper} {Q:Exit→Act→World→Prop} {md:Region.Mode} {S:World→Prop} {z:Nat}
def lastOp (md:Region.Mode) (ops:Array Oper) (z:Nat):Bool:=(List.range ops.size).all fun k=>decide (k = z) || ((ops[z]?).map fun o=>o.after.any fun e=>Region.binds md e && decide (e.on = k)).getD false
theorem lastOp_waits (h:lastOp md ops z = true) {listed:Array Bool} (hz:z∈Region.ready md ops listed) {k:Nat} (hk:k∈Region.ready md ops listed):k = z:=by
 apply Classical.byContradiction
 intro hne
 obtain ⟨hk0,ok,hok,_⟩:=mem_ready.1 hk
 obtain ⟨hz0,oz,hoz,hall⟩:=mem_ready.1 hz
 have hks:k < ops.size:=(Array.getElem?_eq_some_iff.1 hok).1
 have h1:=List.all_eq_true.1 h k (List.mem_range.2 hks)
 rw [decide_eq_false hne,Bool.false_or,hoz] at h1
 simp only [Option.map_some,Option.getD_some] at h1
 rw [Array.any_eq_true'] at h1
 obtain ⟨e,he,h2⟩:=h1
 simp only [Bool.and_eq_true,decide_eq_true_eq] at h2
 have h3:=hall e he h2.1
 rw [h2.2] at h3
 rcases Nat.lt_or_ge k listed.size with h' | h'
 ·simp [h'] at hk0 h3;rw [hk0] at h3;cases h3
 ·simp [Array.getElem?_eq_none h'] at h3
def wpZ (P:Program) (md:Region.Mode) (ops:Array Oper) (Q:Exit→Act→World→Prop) (S:World→Prop) (z:Nat):Nat→Array Bool→Act→World→Prop
 | 0,listed,a,w=>Region.ready md ops listed = []∧Q .normal a w
 | fuel+1,listed,a,w =>
   (Region.ready md ops listed = []→Q .normal a w) ∧
   ∀ i∈Region.ready md ops listed,wpOp P ops Q i (fun a' w'=>(i≠z→S w')∧wpZ P md ops Q S z fuel (listed.setIfInBounds i true) a' w') a w
theorem wpZ_any:∀ (fuel:Nat) (listed:Array Bool) (a:Act) (w:World),wpZ P md ops Q S z fuel listed a w→wpAny P md ops Q fuel listed a w
 | 0,_,_,_,h=>h
 | fuel+1,_,_,_,h=>⟨h.1,fun i hi=>wpOp_mono (fun a' w' h'=>wpZ_any fuel _ a' w' h'.2) (h.2 i hi)⟩
theorem wpZ_done {listed:Array Bool} {a:Act} {w:World} (hr:Region.ready md ops listed = []) (h:Q .normal a w):∀ fuel,wpZ P md ops Q S z fuel listed a w
 | 0=>⟨hr,h⟩
 | _+1=>⟨fun _=>h,by rw [hr];simp⟩
theorem wpZ_first (hz:lastOp md ops z = true) {i:Nat} {oi:Oper} {v:Value} (hi:ops[i]? = some oi) (hiz:i≠z) (hsel:∀ (j:Nat) (o:Oper) cs b,ops[j]? = some o→o.op≠.select cs b)
  (hQ:∀ c a w,Q (.panic c) (a.put oi.dst v) w→Q (.panic c) a w) :
  ∀ (fuel:Nat) (listed:Array Bool) (a:Act) (w:World),
    (∀ j oj,ops[j]? = some oj→j≠i→listed.getD j true = false→(∀ e∈oj.after,Region.binds md e = true→e.on≠i)→oi.apart ops oj = true) →
    i∈Region.ready md ops listed→YieldsIf P ops S oi v a→S w →
    wpZ P md ops Q S z fuel (listed.setIfInBounds i true) (a.put oi.dst v) w→wpZ P md ops Q S z (fuel+1) listed a w
 | 0,listed,a,w,_,hr,hy,hS,H=>⟨fun h=>(by rw [h] at hr;cases hr),fun j hj=>by
    by_cases hji:j = i
    ·subst hji;exact hy.wpOp hi hS ⟨fun _=>hS,H⟩
    ·have:=ready_mono hj hji
     rw [H.1] at this;cases this⟩
 | fuel+1,listed,a,w,hfree,hr,hy,hS,H=>⟨fun h=>(by rw [h] at hr;cases hr),fun j hj=>by
    by_cases hji:j = i
    ·subst hji;exact hy.wpOp hi hS ⟨fun _=>hS,H⟩
    have hjz:j≠z:=fun e=>hiz (lastOp_waits hz (e ▸ hj) hr)
    have h1:=H.2 j (ready_mono hj hji)
    obtain ⟨hjun,oj,hoj,hall⟩:=mem_ready.1 hj
    have hnot:∀ e∈oj.after,Region.binds md e = true→e.on≠i:=fun e he hb heq=>by
     have h2:=hall e he hb
     have h0:=(mem_ready.1 hr).1
     rw [heq] at h2
     rcases Nat.lt_or_ge i listed.size with h' | h'
     ·simp [h'] at h0 h2;rw [h0] at h2;cases h2
     ·simp [Array.getElem?_eq_none h'] at h2
    have h2:=wpOp_putIf hoj (hfree j oj hoj hji hjun hnot) (fun cs b=>hsel i oi cs b hi) (fun cs b=>hsel j oj cs b hoj) hQ hy h1
    refine wpOp_mono (fun a' w' h3=>⟨h3.2.1,wpZ_first hz hi hiz hsel hQ fuel (listed.setIfInBounds j true) a' w' (fun k ok hk hki hun hno=>hfree k ok hk hki ?_ hno) (ready_mono hr (Ne.symm hji)) h3.1 (h3.2.1 hjz) ?_⟩) h2
    ·by_cases hjk:j = k
     ·subst hjk;exact hjun
     ·rw [getD_set_ne true hjk] at hun;exact hun
    ·rw [Array.setIfInBounds_comm _ _ hji]
     exact h3.2.2⟩
end
theorem wpZ_take {P:Program} {l:List Oper} {md:Region.Mode} {Q:Exit→Act→World→Prop} {S:World→Prop} {z i:Nat} {oi:Oper} {v:Value} {fuel:Nat} {listed:Array Bool} {a:Act} {w:World} (hi:l[i]? = some oi) (hz:lastOp md l.toArray z = true) (hiz:i≠z)
  (hs:Region.noSelect l.toArray = true) (hf:Region.free md l.toArray listed i = true) (hr:(Region.ready md l.toArray listed).contains i = true)
  (hQ:∀ c a w,Q (.panic c) (a.put oi.dst v) w→Q (.panic c) a w) (hy:YieldsIf P l.toArray S oi v a) (hS:S w)
  (h:wpZ P md l.toArray Q S z fuel (listed.setIfInBounds i true) (a.put oi.dst v) w):wpZ P md l.toArray Q S z (fuel+1) listed a w :=
 wpZ_first hz (by simpa using hi) hiz (Region.noSelect_spec hs) hQ fuel listed a w (Region.free_spec (by simpa using hi) hf) (by simpa using hr) hy hS h
theorem wpZ_one {P:Program} {l:List Oper} {md:Region.Mode} {Q:Exit→Act→World→Prop} {S:World→Prop} {z i:Nat} {o:Oper} {fuel:Nat} {listed:Array Bool} {a:Act} {w:World} (hr:Region.ready md l.toArray listed = [i]) (ho:l[i]? = some o)
  (h:∀ K':Act→World→Prop,Shut (∀ a w,S w→(S w→wpZ P md l.toArray Q S z fuel (listed.setIfInBounds i true) a w)→K' a w)→if Region.wanted o (yielded l.toArray a.tmps) = true then Oper.wp P o a w K' Q else K' (a.put o.dst undef) w) :
  wpZ P md l.toArray Q S z (fuel+1) listed a w:=by
 refine ⟨fun h0=>(by rw [h0] at hr;cases hr),fun j hj=>?_⟩
 rw [hr,List.mem_singleton] at hj
 subst hj
 exact wpOp_step (by simpa using ho) (fun K' hK=>h K' (fun a w hS hW=>hK a w ⟨fun _=>hS,hW hS⟩))
theorem wpZ_last {P:Program} {l:List Oper} {md:Region.Mode} {Q:Exit→Act→World→Prop} {S:World→Prop} {z:Nat} {o:Oper} {fuel:Nat} {listed:Array Bool} {a:Act} {w:World} (hr:Region.ready md l.toArray listed = [z]) (ho:l[z]? = some o) (hd:Region.ready md l.toArray (listed.setIfInBounds z true) = [])
  (h:∀ K':Act→World→Prop,Shut (∀ a w,Q .normal a w→K' a w)→if Region.wanted o (yielded l.toArray a.tmps) = true then Oper.wp P o a w K' Q else K' (a.put o.dst undef) w) :
  wpZ P md l.toArray Q S z (fuel+1) listed a w:=by
 refine ⟨fun h0=>(by rw [h0] at hr;cases hr),fun j hj=>?_⟩
 rw [hr,List.mem_singleton] at hj
 subst hj
 exact wpOp_step (by simpa using ho) (fun K' hK=>h K' (fun a w hW=>hK a w ⟨fun hn=>absurd rfl hn,wpZ_done hd hW fuel⟩))
theorem wp_region_z {P:Program} {l:List Oper} {Q:Exit→Act→World→Prop} {S:World→Prop} (z:Nat) {id:Nat} {a:Act} {w:World} (hm:P.follows .mixedOrders = true) (hS:S w.drew)
  (h:S w.drew→wpZ P .any l.toArray Q S z l.toArray.size (Array.replicate l.toArray.size false) a w.drew):(Code.region id l.toArray true).wp P Q a w :=
 wp_region_any hm (wpZ_any _ _ _ _ (h hS))
end Go.Proofs.YtckhohpbokojdaaGreatDoor
