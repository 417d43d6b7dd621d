import Derived.Shelf.SlGeneric
import Derived.Shelf.SlicesE.Clone
import Derived.Shelf.Slices.Clone
import Derived.Shelf.Slices.CompactI
import Derived.Shelf.Lays2
import Derived.Test.YtckhohpbokojdaaGreatDoorProg
import Derived.Test.YtckhohpbokojdaaGreatDoorMN11
import Derived.Test.YtckhohpbokojdaaGreatDoorMCi1
import Derived.Test.YtckhohpbokojdaaGreatDoorMThy
section
namespace Go.Proofs
open Go.Shelf
def Tryz.cloneIntL_ren:Go.Shelf.Ren:=⟨fun | 15=>80 | n=>n,fun | 22=>25 | 3=>3 | 4=>4 | n=>n,fun | n=>n⟩
theorem Tryz.cloneIntL:Go.Proofs.Lays2.n15 Tryz.prog Tryz.cloneIntL_ren:={
 mixed:=by kernel_rfl
 f15:=Tryz.func80.trans (congrArg some (by kernel_rfl))
 t3:=Tryz.underlying3
 a3:=Tryz.isAgg3
 z3:=Tryz.sizeOf3
 v3:=Tryz.zeroValue3
 t4:=Tryz.underlying4
 a4:=Tryz.isAgg4
 z4:=Tryz.sizeOf4
 v4:=Tryz.zeroValue4
 t22:=Tryz.underlying25
 a22:=Tryz.isAgg25
 z22:=Tryz.sizeOf25
 v22:=Tryz.zeroValue25
 i3:=by kernel_rfl }
def Tryz.compactIntL_ren:Go.Shelf.Ren:=⟨fun | 20=>84 | n=>n,fun | 22=>25 | 3=>3 | 4=>4 | 0=>0 | n=>n,fun | n=>n⟩
theorem Tryz.compactIntL:Go.Proofs.Lays2.n20 Tryz.prog Tryz.compactIntL_ren:={
 mixed:=by kernel_rfl
 f20:=Tryz.func84.trans (congrArg some (by kernel_rfl))
 t0:=Tryz.underlying0
 a0:=Tryz.isAgg0
 z0:=Tryz.sizeOf0
 v0:=Tryz.zeroValue0
 t3:=Tryz.underlying3
 a3:=Tryz.isAgg3
 z3:=Tryz.sizeOf3
 v3:=Tryz.zeroValue3
 t4:=Tryz.underlying4
 a4:=Tryz.isAgg4
 z4:=Tryz.sizeOf4
 v4:=Tryz.zeroValue4
 t22:=Tryz.underlying25
 a22:=Tryz.isAgg25
 z22:=Tryz.sizeOf25
 v22:=Tryz.zeroValue25
 i3:=by kernel_rfl }
def Tryz.cloneNodeG_ren:Go.Shelf.Ren:=⟨fun | 41=>61 | n=>n,fun | 22=>22 | 23=>40 | 4=>4 | n=>n,fun | n=>n⟩
theorem Tryz.cloneNodeG:Go.Proofs.SlLaysE0.n41 Tryz.prog Tryz.cloneNodeG_ren:={
 mixed:=by kernel_rfl
 f41:=⟨Tryz.f61.name,by decide,Tryz.func61.trans (congrArg some (by kernel_rfl))⟩
 t4:=Tryz.underlying4
 a4:=Tryz.isAgg4
 z4:=Tryz.sizeOf4
 v4:=Tryz.zeroValue4
 t22:=Tryz.underlying22
 a22:=Tryz.isAgg22
 z22:=Tryz.sizeOf22
 v22:=Tryz.zeroValue22 }
end Go.Proofs
end
section
set_option linter.unusedSimpArgs false
set_option linter.unusedVariables false
namespace Go.Proofs.YtckhohpbokojdaaGreatDoor
open Go Go.RowKit Go.Shelf
theorem cloneI_any {l:List Int} {v:Value} {w:World} (hv:SlI w v l) (hl:l.length≤1048576) :
  Calls Tryz.prog 80 #[v] w fun e w'=>∃ v',e = .returned v'∧w'.ownsRow w.heap.size 3 1 v' l.length (l.map encZ)∧Below w.heap.size w w':=by
 obtain ⟨ba,cp,rfl,⟨_,e,_⟩ | ⟨b,o,rfl,hc⟩⟩:=hv
 ·rw [e]
  cases ba with
  | none =>
    refine (Any.slices_Clone_int_nil Tryz.cloneIntL 0 cp w).mono ?_
    rintro e w' ⟨rfl,rfl⟩
    exact ⟨_,rfl,⟨rfl,.inl ⟨rfl,rfl⟩⟩,Below.refl _ _⟩
  | some a =>
    refine (Any.slices_Clone_int_zero Tryz.cloneIntL a cp w).mono ?_
    rintro e w' ⟨v',rfl,ho,_,hb⟩
    exact ⟨v',rfl,ho,hb⟩
 ·refine (Any.slices_Clone_int Tryz.cloneIntL b o l.length cp l w (Nat.le_refl _) (by omega) (fun j hj=>by rw [List.getD_eq_getElem?_getD,List.getElem?_eq_getElem hj];exact hc j hj)).mono ?_
  rintro e w' ⟨v',rfl,ho,_,hb⟩
  rw [List.take_length] at ho
  exact ⟨v',rfl,ho,hb⟩
end Go.Proofs.YtckhohpbokojdaaGreatDoor
end
section
set_option linter.unusedSimpArgs false
set_option linter.unusedVariables false
namespace Go.Proofs.YtckhohpbokojdaaGreatDoor
open Go Go.RowKit Go.Shelf
theorem tval1_any {n z:Int} (hn:0≤n∧n≤128) {bx:Nat} {w:World} (hc:w.cell? ⟨bx,0,none⟩ = some (.int .i64 n)):Calls Tryz.prog 79 #[.int .i64 z,.pointer (some ⟨bx,0,none⟩)] w fun e w'=>e = .returned (.bool (!L.validB n z))∧w = w':=by
 have q:=valid_any (l:=z) hn.1 hn.2 w
 generalize L.validB n z = B at *
 go_enter Tryz.func79,Tryz.ntmps79
 go_wp2_with fail
 refine q.mono ?_
 rintro e w2 ⟨rfl,rfl⟩
 clear q
 go_wp2_with fail
 go_ret
 exact ⟨by cases B <;> rfl,rfl⟩
theorem tvalid_any {n:Int} {l:List Int} {v:Value} {w:World} (hn:0≤n∧n≤128) (hv:SlI w v l) (hl:l.length≤9223372036854775807):Calls Tryz.prog 58 #[v,.int .i64 n] w fun e w'=>e = .returned (.bool (l.all fun z=>L.validB n z))∧Ext w w':=by
 have hx:Ext w (w.alloc (.cells #[.int .i64 n] 3)):=(Ext.refl w).alloc _
 have e0:=heap_alloc_new w (.cells #[.int .i64 n] 3)
 have hmf:∀ (fn:Fn) (first cap:Array Value) (w:World),(Instr.makeFunc fn first cap).run Tryz.prog w = .ok (.func fn first cap) w:=fun _ _ _ _=>rfl
 have hK1:∀ (c:Array Value) (w:World),(callFunc 79 c).run Tryz.prog w = .ok (.enter 79 c) w:=fun c w=>by simp [go_sem,Tryz.func79]
 have q:=containsFunc_any (q:=.pointer (some ⟨w.heap.size,0,none⟩)) hK1 (fun W=>W = w.alloc (.cells #[.int .i64 n] 3)) (p:=fun z=>!L.validB n z) (v:=v) (l:=l) (fun W hW=>hW ▸ hv.ext hx.below) hl rfl (fun j hj W hW=>by
  subst hW
  refine (tval1_any hn (by rw [World.cell?,e0];rfl)).mono ?_
  rintro e W' ⟨rfl,rfl⟩
  exact ⟨rfl,rfl⟩)
 rw [List.all_eq_not_any_not]
 obtain ⟨ba,cp,rfl,_⟩:=hv
 generalize (l.any fun z=>!L.validB n z) = B at *
 replace hx:=Lib.hid hx
 clear e0
 go_enter Tryz.func58,Tryz.ntmps58
 go_wp2_with fail
 refine q.mono ?_
 rintro e w2 ⟨rfl,rfl⟩
 clear q
 go_wp2_with fail
 go_ret
 exact ⟨by cases B <;> rfl,hx.out⟩
def OppL (l:List Int):Prop:=∃ k,∃ (h:k+1 < l.length),l[k+1] = -l[k]
set_option maxRecDepth 100000 in
set_option maxHeartbeats 1000000 in
theorem opp_any {l:List Int} {v:Value} {w:World} (hv:SlI w v l) (hl:l.length≤1048576) (hb:∀ z∈l,-128≤z∧z≤128):Calls Tryz.prog 60 #[v] w fun e w'=>∃ b,e = .returned (.bool b)∧(b = true↔OppL l)∧Ext w w':=by
 obtain ⟨ba,cp,rfl,h⟩:=hv
 have hcell:∀ k (hk:k < l.length),∃ b o,ba = some ⟨b,o,none⟩∧w.cell? ⟨b,o+k,none⟩ = some (.int .i64 l[k]):=fun k hk=>by
  rcases h with ⟨_,e,_⟩ | ⟨b,o,h1,h2⟩
  ·rw [e] at hk;simp at hk
  ·exact ⟨b,o,h1,h2 k hk⟩
 replace hcell:=Lib.hid hcell
 replace hb:=Lib.hid hb
 clear h
 go_enter Tryz.func60,Tryz.ntmps60
 go_wp2_with fail
 go_loopw [3] (fun i wr=>∃ k:Nat,i = .int .i64 ((k:Nat)+1)∧(k = 0∨k+1≤l.length)∧(∀ j (h:j+1 < l.length),j < k→l[j+1]≠-l[j])∧Hid (Ext w wr)) (fun i _=>l.length+1 - (intOf i).toNat)
 case atStart=>exact ⟨0,rfl,.inl rfl,(fun j _ h=>absurd h (Nat.not_lt_zero _)),Lib.hid (Ext.refl _)⟩
 case round =>
  obtain ⟨k,rfl,hk,hno,hx⟩:=hrel
  replace hno:=Lib.hid hno
  by_cases hlt:k+1 < l.length
  ·have d0:decide ((k:Int)+1 < (l.length:Int)) = true:=decide_eq_true (by omega)
   have g0:(0:Int)≤(k:Int)+1:=by omega
   have g1:(k:Int)+1 < (l.length:Int):=by omega
   have g2:(0:Int)≤(k:Int):=by omega
   have g3:(k:Int) < (l.length:Int):=by omega
   obtain ⟨b,o,e1,f1⟩:=hcell.out (k+1) hlt
   obtain ⟨b',o',e2,f2⟩:=hcell.out k (by omega)
   rw [e1] at e2
   cases e2
   subst e1
   have hz:=hb.out _ (List.getElem_mem (show k < l.length by omega))
   have hyes:l[k+1] = -l[k]→OppL l:=fun e=>⟨k,hlt,e⟩
   have hnext:l[k+1]≠-l[k]→∀ j (h:j+1 < l.length),j < k+1→l[j+1]≠-l[j]:=fun hne j h hj=>by
    by_cases e:j = k
    ·subst e;exact hne
    ·exact hno.out j h (by omega)
   generalize l[k+1] = x at *
   generalize l[k] = y at *
   have hw1:IntKind.i64.wrap (-y) = -y:=IntWalk.i64_in _ (by omega)
   have hw2:IntKind.i64.wrap ((k:Int)+1 - 1) = (k:Int):=(IntWalk.i64_in _ (by omega)).trans (by omega)
   have hw3:IntKind.i64.wrap (k:Int) = (k:Int):=IntWalk.i64_in _ (by omega)
   have ht1:((k:Int)+1).toNat = k+1:=by omega
   have F1:∀ w',Ext wr w'→w'.cell? ⟨b,o+(k+1),none⟩ = some (.int .i64 x)∧w'.cell? ⟨b,o+k,none⟩ = some (.int .i64 y):=fun w' hw'=>⟨(hx.out.trans hw').cell f1,(hx.out.trans hw').cell f2⟩
   replace F1:=Lib.hid F1
   replace hyes:=Lib.hid hyes
   replace hnext:=Lib.hid hnext
   clear f1 f2
   go_wp2_with fail
   (refine wp_region_below (by kernel_rfl) (by kernel_rfl) ?_
    repeat (refine wpQuiet_step (fun K hK=>?_)
            go_simp
            first
             | (refine hK _ ?_;clear hK K)
             | (replace hK:=Lib.hid hK
                apply Exists.intro
                refine ⟨fun wq hq=>?_,hK.out _ ?_⟩
                ·(obtain ⟨f1,f2⟩:=F1.out wq hq)
                 go_simp
                 first
                  | done
                  | rfl
                  | exact ⟨rfl,rfl⟩
                  | fail
                clear hK K))
    refine wpQuiet_nil ?_)
   intro w3 hw3
   clear F1
   have hx3:=Lib.hid (hx.out.trans hw3)
   by_cases hxy:x = -y
   ·have q1:(x == -y) = true:=beq_iff_eq.2 hxy
    have ho:=Lib.hid (hyes.out hxy)
    replace hxy:=Lib.hid hxy
    go_wp2_with fail
    go_ret
    exact ⟨true,rfl,⟨fun _=>ho.out,fun _=>rfl⟩,hx3.out⟩
   ·have q1:(x == -y) = false:=beq_eq_false_iff_ne.2 hxy
    have hn2:=Lib.hid (hnext.out hxy)
    replace hxy:=Lib.hid hxy
    go_wp2_with fail
    go_roundw
    case rel=>exact ⟨k+1,by go_num,.inr (by omega),hn2.out,hx3⟩
    case measure=>simp [intOf];omega
  ·have d0:decide ((k:Int)+1 < (l.length:Int)) = false:=decide_eq_false (by omega)
   have hn:¬ OppL l:=fun ⟨j,h,e⟩=>hno.out j h (by omega) e
   replace hn:=Lib.hid hn
   go_wp2_with fail
   go_ret
   exact ⟨false,rfl,⟨fun h=>Bool.noConfusion h,fun h=>absurd h hn.out⟩,hx.out⟩
end Go.Proofs.YtckhohpbokojdaaGreatDoor
end
