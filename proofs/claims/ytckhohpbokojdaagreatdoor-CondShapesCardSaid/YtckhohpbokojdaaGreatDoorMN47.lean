import Derived.Test.YtckhohpbokojdaaGreatDoorMD2
import Derived.Test.YtckhohpbokojdaaGreatDoorMN44
import Derived.Test.YtckhohpbokojdaaGreatDoorMShelf9
import Derived.Test.YtckhohpbokojdaaGreatDoorMVars
import Derived.Test.YtckhohpbokojdaaGreatDoorMLst
import Derived.Test.YtckhohpbokojdaaGreatDoorMD1
import Derived.Test.YtckhohpbokojdaaGreatDoorMN2
import Derived.Deep.CutRange
import Derived.Test.YtckhohpbokojdaaGreatDoorMShelf7
import Derived.Test.YtckhohpbokojdaaGreatDoorMRef3
import Derived.Test.YtckhohpbokojdaaGreatDoorMCi1
import Derived.Test.YtckhohpbokojdaaGreatDoorMRegz
import Derived.Test.YtckhohpbokojdaaGreatDoorMReg
section
set_option linter.unusedSimpArgs false
set_option linter.unusedVariables false
namespace Go.Proofs.YtckhohpbokojdaaGreatDoor
open Go Go.RowKit Go.Shelf
def patW:Nat→BitVec 64
 | 0=>0xAAAAAAAAAAAAAAAA
 | 1=>0xCCCCCCCCCCCCCCCC
 | 2=>0xF0F0F0F0F0F0F0F0
 | 3=>0xFF00FF00FF00FF00
 | 4=>0xFFFF0000FFFF0000
 | _=>0xFFFFFFFF00000000
theorem patW_bit:∀ i,i < 6→∀ b,b < 64→(patW i).getLsbD b = b.testBit i:=by decide +kernel
def wordOf (blk i:Nat):BitVec 64:=if i < 6 then patW i else if blk.testBit (i - 6) = true then BitVec.allOnes 64 else 0
theorem wordOf_bit {blk i b:Nat} (hb:b < 64):(wordOf blk i).getLsbD b = if i < 6 then b.testBit i else blk.testBit (i - 6):=by
 unfold wordOf
 by_cases h:i < 6
 ·rw [if_pos h,if_pos h,patW_bit i h b hb]
 ·rw [if_neg h,if_neg h]
  cases blk.testBit (i - 6)
  ·simp
  ·rw [if_pos rfl,BitVec.getLsbD_allOnes,decide_eq_true hb]
def WB (l:List Int) (blk:Nat):Nat→BitVec 64:=fun v=>match l.findIdx? (fun z=>decide (z = (v:Int))) with
 | some i=>wordOf blk i
 | none=>0
theorem WB_at {l:List Int} {blk i:Nat} (hnd:l.Nodup) (hpos:∀ v∈l,1≤v) (hi:i < l.length):WB l blk l[i].toNat = wordOf blk i:=by
 unfold WB
 have h1:=hpos _ (List.getElem_mem hi)
 have e:((l[i].toNat:Nat):Int) = l[i]:=by omega
 have:l.findIdx? (fun z=>decide (z = ((l[i].toNat:Nat):Int))) = some i:=by
  rw [List.findIdx?_eq_some_iff_getElem]
  refine ⟨hi,by rw [e];simp,fun j hj=>?_⟩
  rw [e]
  simp only [decide_eq_true_eq]
  intro ee
  exact absurd ee (List.pairwise_iff_getElem.1 hnd j i (by omega) hi hj)
 rw [this]
theorem WB_snoc {l:List Int} {blk:Nat} {z:Int} (hz:1≤z) (hn:z∉l) (k:Nat):(if k = z.toNat then wordOf blk l.length else WB l blk k) = WB (l++[z]) blk k:=by
 unfold WB
 rw [List.findIdx?_append]
 by_cases h:k = z.toNat
 ·have e:(k:Int) = z:=by omega
  rw [if_pos h]
  have h1:l.findIdx? (fun y=>decide (y = (k:Int))) = none:=by
   rw [List.findIdx?_eq_none_iff]
   intro y hy
   simp only [decide_eq_false_iff_not]
   intro ee
   exact hn (by rw [←e,←ee];exact hy)
  rw [h1]
  simp [List.findIdx?_cons,e]
 ·have e:¬ z = (k:Int):=by omega
  rw [if_neg h]
  cases h1:l.findIdx? (fun y=>decide (y = (k:Int))) with
  | some i=>simp
  | none=>simp [List.findIdx?_cons,e]
theorem bits_ex64 (f:Nat→Bool):∀ k,∃ b,b < 2 ^ k∧∀ i,i < k→b.testBit i = f i
 | 0=>⟨0,by simp,fun i hi=>absurd hi (Nat.not_lt_zero _)⟩
 | k+1=>by
   obtain ⟨b,hb,h⟩:=bits_ex64 f k
   have hbk:b.testBit k = false:=Nat.testBit_lt_two_pow hb
   cases hf:f k with
   | false =>
     refine ⟨b,by rw [Nat.pow_succ];omega,fun i hi=>?_⟩
     by_cases e:i = k
     ·subst e;rw [hbk,hf]
     ·exact h i (by omega)
   | true =>
     refine ⟨2 ^ k+b,by rw [Nat.pow_succ];omega,fun i hi=>?_⟩
     by_cases e:i = k
     ·subst e;rw [Nat.testBit_two_pow_add_eq,hbk,hf];rfl
     ·rw [Nat.testBit_two_pow_add_gt (by omega)];exact h i (by omega)
theorem tv_lits {n:Int} {nl:List L.ND} (h:L.NOK n nl) (hn:n≤128) {x y:L.Asg} (hxy:∀ z∈nl,z.kind = 2→x (z.lit.natAbs:Int) = y (z.lit.natAbs:Int)) {i:Nat} (hi:i < nl.length):L.tv nl x i = L.tv nl y i:=by
 refine L.tv_vset h hn i i (Nat.le_refl _) hi fun v hv=>?_
 obtain ⟨l,hl,e⟩:=L.vset_lits h.kids i i (Nat.le_refl _) hi hv
 obtain ⟨z,hz,h2,rfl⟩:=L.mem_litsND.1 hl
 rw [←e]
 exact hxy z hz h2
theorem det_congr {n:Int} {nl:List L.ND} (h:L.NOK n nl) (hn:n≤128) {x y:L.Asg} (hxy:∀ z∈nl,z.kind = 2→x (z.lit.natAbs:Int) = y (z.lit.natAbs:Int)) (hD:L.Det x nl):L.Det y nl:=fun i hi h4=>by
 refine (hD i hi h4).imp_of_mem fun {p q} hp hq hpq e=>hpq ?_
 rw [L.ndAt_lt hi] at hp hq
 have h1:=h.kids i hi p hp
 have h2:=h.kids i hi q hq
 rw [tv_lits h hn hxy (by omega),tv_lits h hn hxy (by omega)]
 exact e
theorem det_all {n:Int} {nl:List L.ND} {l:List Int} (h:L.NOK n nl) (hn:n≤128) (hl:∀ z∈nl,z.kind = 2→(z.lit.natAbs:Int)∈l) (hnd:l.Nodup) (hpos:∀ v∈l,1≤v):(∀ blk,blk < 2 ^ (l.length - 6)→SepP (WB l blk) nl)↔∀ a,L.Det a nl:=by
 constructor
 ·intro hS a
  obtain ⟨b,hb,hb2⟩:=bits_ex64 (fun i=>a (l.getD i 0)) 6
  obtain ⟨blk,hk,hk2⟩:=bits_ex64 (fun i=>a (l.getD (i+6) 0)) (l.length - 6)
  refine det_congr h hn (x:=asgW (WB l blk) b) (fun z hz h2=>?_) (sep_det.1 (hS blk hk) b (by simpa using hb))
  obtain ⟨i,hi,e⟩:=List.getElem_of_mem (hl z hz h2)
  rw [←e]
  unfold asgW
  rw [WB_at hnd hpos hi,wordOf_bit (by simpa using hb)]
  by_cases h6:i < 6
  ·rw [if_pos h6,hb2 i h6,List.getD_eq_getElem?_getD,List.getElem?_eq_getElem hi];rfl
  ·rw [if_neg h6,hk2 (i - 6) (by omega),show i - 6+6 = i by omega,List.getD_eq_getElem?_getD,List.getElem?_eq_getElem hi];rfl
 ·intro hD blk _
  exact sep_det.2 fun b _=>hD _
end Go.Proofs.YtckhohpbokojdaaGreatDoor
end
section
set_option linter.unusedSimpArgs false
set_option linter.unusedVariables false
namespace Go.Proofs.YtckhohpbokojdaaGreatDoor
open Go Go.RowKit Go.Shelf
theorem given_err {n:Int} {C:List L.Gt} {t:List Int} {v tv:Value} {w:World} (hv:SlC w v C) (hl:C.length≤80) (h2:∀ g∈C,g.inp.length≤20) (ht:SlI w tv t) (htl:t.length≤300) (hno:¬ (L.netChk n C = 0∧L.TermL n t)) :
  Calls Tryz.prog 13 #[.agg #[.int .i64 n,v],tv] w fun e w'=>e = .returned (.tuple #[.agg #[.int .i64 0,.slice none 0 0],.int .i64 1])∧Below w.heap.size w w':=by
 by_cases hc:L.netChk n C = 0
 ·exact given_no hv hc (by omega) (fun g hg=>by have:=h2 g hg;omega) ht (by omega) (fun h=>hno ⟨hc,h⟩)
 ·exact condgiven_bad hv hc (by omega) (fun g hg=>by have:=h2 g hg;omega)
theorem light_parts {C:List L.Gt} (h:lightN C = true):C.length≤80∧∀ g∈C,g.inp.length≤20:=by
 unfold lightN at h
 rw [Bool.and_eq_true,decide_eq_true_eq] at h
 exact ⟨h.2,fun g hg=>by have:=List.all_eq_true.1 h.1 g hg;simpa using this⟩
theorem nodes_of {n:Int} {C:List L.Gt} (hc:L.netChk n C = 0):∃ nl:List L.ND,C = nl.map L.ofND∧nl.length = C.length∧∀ y∈nl,∃ g∈C,g.inp.length = y.inp.length:=by
 refine ⟨C.map L.toND,(L.net_nok hc).2.2.symm,List.length_map ..,fun y hy=>?_⟩
 obtain ⟨g,hg,rfl⟩:=List.mem_map.1 hy
 exact ⟨g,hg,(by unfold L.toND;simp)⟩
end Go.Proofs.YtckhohpbokojdaaGreatDoor
end
section
set_option linter.unusedSimpArgs false
set_option linter.unusedVariables false
namespace Go.Proofs.YtckhohpbokojdaaGreatDoor
open Go Go.RowKit Go.Shelf
theorem own_shape {w:World} {base n size:Nat} {e:TypeId} {v:Value} {xs:List Value} (h:w.ownsRow base e size v n xs):∃ b c,v = .slice b n c:=by
 obtain ⟨_,⟨rfl,e⟩ | ⟨g,cap,cur,rfl,_⟩⟩:=h
 ·rw [e];exact ⟨_,_,rfl⟩
 ·exact ⟨_,_,rfl⟩
end Go.Proofs.YtckhohpbokojdaaGreatDoor
end
section
set_option linter.unusedSimpArgs false
set_option linter.unusedVariables false
namespace Go.Proofs.YtckhohpbokojdaaGreatDoor
open Go Go.RowKit Go.Shelf
theorem bits_and64 (y:Nat) (hy:y < 9223372036854775808):bits BinOp.and IntKind.i64 (y:Int) 1 = ((y &&& 1:Nat):Int):=by
 have hlt:y &&& 1 < 9223372036854775808:=Nat.lt_of_le_of_lt Nat.and_le_left hy
 show IntKind.i64.wrap (((BitVec.ofInt 64 (y:Int) &&& BitVec.ofInt 64 ((1:Nat):Int):BitVec 64).toNat:Nat):Int) = _
 rw [show ((BitVec.ofInt 64 (y:Int) &&& BitVec.ofInt 64 ((1:Nat):Int)).toNat) = y &&& 1 from by
  rw [BitVec.toNat_and,BitVec.ofInt_natCast,BitVec.ofInt_natCast,BitVec.toNat_ofNat,BitVec.toNat_ofNat,Nat.mod_eq_of_lt (by omega),Nat.mod_eq_of_lt (by omega)]]
 rw [IntWalk.i64_in _ (by omega)]
theorem bit_one (i b:Nat) (hi:i < 9223372036854775808):(bits BinOp.and IntKind.i64 ((i:Int) / 2 ^ b) 1 == 1) = i.testBit b:=by
 have h1:((i:Int) / 2 ^ b) = ((i / 2 ^ b:Nat):Int):=by simp
 have h2:i / 2 ^ b < 9223372036854775808:=Nat.lt_of_le_of_lt (Nat.div_le_self _ _) hi
 rw [h1,bits_and64 _ h2,Nat.and_one_is_mod,Nat.testBit_eq_decide_div_mod_eq]
 rw [Bool.eq_iff_iff]
 simp
 omega
theorem listV_nodup (s:VSet):(listV s).Nodup:=(L.listVK_sorted s 128).imp fun h=>by omega
def BxI (wB:World) (u:VSet) (V:World):Prop:=Below wB.heap.size wB V∧V.heap[wB.heap.size]? = some (.cells #[.int .u64 (lo u),.int .u64 (hi u)] 37 (0,0))
theorem BxI.next {wB V V':World} {u:VSet} (h:BxI wB u V) (hb:Below V.heap.size V V'):BxI wB u V':=⟨h.1.trans (hb.mono h.1.size),(hb.block _ (Array.getElem?_eq_some_iff.1 h.2).1).trans h.2⟩
theorem BxI.set {wB V:World} {u:VSet} (h:BxI wB u V) (t:VSet):BxI wB t ((V.setCell ⟨wB.heap.size,0,none⟩ (.int .u64 (lo t))).setCell ⟨wB.heap.size,1,none⟩ (.int .u64 (hi t))):=⟨(h.1.setCell (p:=⟨wB.heap.size,0,none⟩) (Nat.le_refl _) _).setCell (p:=⟨wB.heap.size,1,none⟩) (Nat.le_refl _) _,heap_set2 h.2 _ _⟩
theorem BxI.cells {wB V:World} {u:VSet} (h:BxI wB u V):(V.cell? ⟨wB.heap.size,0,none⟩ = some (.int .u64 (lo u))∧V.cell? ⟨wB.heap.size,1,none⟩ = some (.int .u64 (hi u)))∧V.frozen? ⟨wB.heap.size,0,none⟩ = false∧V.frozen? ⟨wB.heap.size,1,none⟩ = false:=⟨⟨by rw [World.cell?,h.2];rfl,by rw [World.cell?,h.2];rfl⟩,by simp [World.frozen?,h.2],by simp [World.frozen?,h.2]⟩
end Go.Proofs.YtckhohpbokojdaaGreatDoor
end
