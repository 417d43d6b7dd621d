import Derived.Test.YtckhohpbokojdaaGreatDoorKQ11
import Derived.Test.YtckhohpbokojdaaGreatDoorKN34
import Derived.Test.YtckhohpbokojdaaGreatDoorKN36
section
set_option linter.unusedSimpArgs false
set_option linter.unusedVariables false
namespace Go.Proofs.YtckhohpbokojdaaGreatDoor
open Go Go.RowKit Go.Shelf
set_option maxRecDepth 100000 in
set_option maxHeartbeats 1000000 in
theorem has05_any {w:World} {v:Value} {l:List Int} (x:Int) (hv:SlI w v l) (hl:l.length≤9223372036854775807) :
  Calls Tryz.prog 66 #[v,.int .i64 x] w fun e w'=>e = .returned (.bool (decide (x∈l)))∧w = w':=by
 obtain ⟨ba,cp,rfl,hcs⟩:=hv.shape
 clear hv
 replace hcs:=Lib.hid hcs
 go_enter Tryz.func66,Tryz.ntmps66
 go_wp2_with fail
 go_loopw [5] (fun i wr=>∃ k:Nat,k≤l.length∧i = .int .i64 (k:Int)∧Hid (∀ j (hj:j < l.length),j < k→l[j]≠x)∧w = wr) (fun i _=>l.length - (intOf i).toNat)
 case atStart=>exact ⟨0,by omega,rfl,Lib.hid (fun j _ h=>absurd h (Nat.not_lt_zero _)),rfl⟩
 case round =>
  obtain ⟨k,hk,rfl,hI,rfl⟩:=hrel
  by_cases hlt:k < l.length
  ·have d0:decide ((k:Int) < (l.length:Int)) = true:=decide_eq_true (by omega)
   have g0':(0:Int)≤(k:Int):=by omega
   have g1:(k:Int) < (l.length:Int):=by omega
   obtain ⟨b,o,rfl,hc⟩:=hcs.out k hlt
   have hmem:l[k]∈l:=List.getElem_mem hlt
   have hnx:l[k]≠x→Hid (∀ j (hj:j < l.length),j < k+1→l[j]≠x):=fun h=>Lib.hid fun j hj hjk=>by
    by_cases e:j = k
    ·subst e;exact h
    ·exact hI.out j hj (by omega)
   generalize l[k] = u at *
   by_cases hu:u = x
   ·have dx:(u == x) = true:=by simpa using hu
    have hr:Hid (decide (x∈l) = true):=Lib.hid (decide_eq_true (by rw [←hu];exact hmem))
    replace hu:=Lib.hid hu
    replace hmem:=Lib.hid hmem
    clear hnx
    go_wp2_with fail
    go_ret
    exact ⟨by rw [hr.out] <;> rfl,rfl⟩
   ·have dx:(u == x) = false:=by simpa using hu
    have hnx2:=hnx hu
    replace hu:=Lib.hid hu
    replace hmem:=Lib.hid hmem
    clear hnx
    go_wp2_with fail
    go_roundw
    case rel=>exact ⟨k+1,by omega,by go_num,hnx2,by first | rfl | trivial⟩
    case measure=>simp [intOf];omega
  ·obtain rfl:k = l.length:=by omega
   have d0:decide ((l.length:Int) < (l.length:Int)) = false:=decide_eq_false (by omega)
   have hr:Hid (decide (x∈l) = false):=Lib.hid (decide_eq_false fun h=>by
    obtain ⟨j,hj,e⟩:=List.getElem_of_mem h
    exact hI.out j hj hj e)
   go_wp2_with fail
   go_ret
   exact ⟨by rw [hr.out] <;> rfl,rfl⟩
set_option maxRecDepth 100000 in
set_option maxHeartbeats 1000000 in
theorem in35_any {w:World} {v:Value} {l:List Int} (x:Int) (hv:SlI w v l) (hl:l.length≤9223372036854775807) :
  Calls Tryz.prog 42 #[v,.int .i64 x] w fun e w'=>e = .returned (.bool (decide (x∈l)))∧w = w':=by
 obtain ⟨ba,cp,rfl,hcs⟩:=hv.shape
 clear hv
 replace hcs:=Lib.hid hcs
 go_enter Tryz.func42,Tryz.ntmps42
 go_wp2_with fail
 go_loopw [5] (fun i wr=>∃ k:Nat,k≤l.length∧i = .int .i64 (k:Int)∧Hid (∀ j (hj:j < l.length),j < k→l[j]≠x)∧w = wr) (fun i _=>l.length - (intOf i).toNat)
 case atStart=>exact ⟨0,by omega,rfl,Lib.hid (fun j _ h=>absurd h (Nat.not_lt_zero _)),rfl⟩
 case round =>
  obtain ⟨k,hk,rfl,hI,rfl⟩:=hrel
  by_cases hlt:k < l.length
  ·have d0:decide ((k:Int) < (l.length:Int)) = true:=decide_eq_true (by omega)
   have g0':(0:Int)≤(k:Int):=by omega
   have g1:(k:Int) < (l.length:Int):=by omega
   obtain ⟨b,o,rfl,hc⟩:=hcs.out k hlt
   have hmem:l[k]∈l:=List.getElem_mem hlt
   have hnx:l[k]≠x→Hid (∀ j (hj:j < l.length),j < k+1→l[j]≠x):=fun h=>Lib.hid fun j hj hjk=>by
    by_cases e:j = k
    ·subst e;exact h
    ·exact hI.out j hj (by omega)
   generalize l[k] = u at *
   by_cases hu:u = x
   ·have dx:(u == x) = true:=by simpa using hu
    have hr:Hid (decide (x∈l) = true):=Lib.hid (decide_eq_true (by rw [←hu];exact hmem))
    replace hu:=Lib.hid hu
    replace hmem:=Lib.hid hmem
    clear hnx
    go_wp2_with fail
    go_ret
    exact ⟨by rw [hr.out] <;> rfl,rfl⟩
   ·have dx:(u == x) = false:=by simpa using hu
    have hnx2:=hnx hu
    replace hu:=Lib.hid hu
    replace hmem:=Lib.hid hmem
    clear hnx
    go_wp2_with fail
    go_roundw
    case rel=>exact ⟨k+1,by omega,by go_num,hnx2,by first | rfl | trivial⟩
    case measure=>simp [intOf];omega
  ·obtain rfl:k = l.length:=by omega
   have d0:decide ((l.length:Int) < (l.length:Int)) = false:=decide_eq_false (by omega)
   have hr:Hid (decide (x∈l) = false):=Lib.hid (decide_eq_false fun h=>by
    obtain ⟨j,hj,e⟩:=List.getElem_of_mem h
    exact hI.out j hj hj e)
   go_wp2_with fail
   go_ret
   exact ⟨by rw [hr.out] <;> rfl,rfl⟩
set_option maxRecDepth 100000 in
set_option maxHeartbeats 4000000 in
theorem term05_any {n:Int} {t:List Int} {v:Value} {w:World} {B:Bool} (h:B = true↔L.TermL n t) (h0:0≤n) (h1:n≤128) (hv:SlI w v t) (hl:t.length≤1048576) :
  Calls Tryz.prog 41 #[v,.int .i64 n] w fun e w'=>e = .returned (.bool B)∧w = w':=by
 have qc:=fun x=>has05_any x hv (by omega)
 have qv:=fun l W=>rvalid_any (n:=n) (l:=l) h0 h1 W
 obtain ⟨ba,cp,rfl,hcs⟩:=hv.shape
 have hgood:(∀ j (hj:j < t.length),L.validB n t[j] = true∧-t[j]∉t)→B = true:=fun hh=>h.2 fun z hz=>by
  obtain ⟨j,hj,rfl⟩:=List.getElem_of_mem hz
  exact hh j hj
 have hbad:∀ j (hj:j < t.length),¬ (L.validB n t[j] = true∧-t[j]∉t)→B = false:=fun j hj hh=>by
  cases hB:B with
  | false=>rfl
  | true=>exact absurd (h.1 hB _ (List.getElem_mem hj)) hh
 clear hv h
 replace hcs:=Lib.hid hcs
 replace hgood:=Lib.hid hgood
 replace hbad:=Lib.hid hbad
 replace qc:=Lib.hid qc
 replace qv:=Lib.hid qv
 go_enter Tryz.func41,Tryz.ntmps41
 go_wp2_with fail
 go_loopw [5] (fun i wr=>∃ k:Nat,k≤t.length∧i = .int .i64 (k:Int)∧Hid (∀ j (hj:j < t.length),j < k→L.validB n t[j] = true∧-t[j]∉t)∧w = wr) (fun i _=>t.length - (intOf i).toNat)
 case atStart=>exact ⟨0,by omega,rfl,Lib.hid (fun j _ h=>absurd h (Nat.not_lt_zero _)),rfl⟩
 case round =>
  obtain ⟨k,hk,rfl,hI,rfl⟩:=hrel
  by_cases hlt:k < t.length
  ·have d0:decide ((k:Int) < (t.length:Int)) = true:=decide_eq_true (by omega)
   have g0':(0:Int)≤(k:Int):=by omega
   have g1:(k:Int) < (t.length:Int):=by omega
   obtain ⟨b,o,rfl,hc⟩:=hcs.out k hlt
   have hb:=hbad.out k hlt
   have hnx:(L.validB n t[k] = true∧-t[k]∉t)→Hid (∀ j (hj:j < t.length),j < k+1→L.validB n t[j] = true∧-t[j]∉t):=fun h=>Lib.hid fun j hj hjk=>by
    by_cases e:j = k
    ·subst e;exact h
    ·exact hI.out j hj (by omega)
   generalize t[k] = u at *
   have q1:=qv.out u
   cases hvu:L.validB n u with
   | false =>
     have hr:=Lib.hid (hb (fun e=>by rw [hvu] at e;cases e.1))
     rw [hvu] at q1
     replace q1:=Lib.hid q1
     replace hvu:=Lib.hid hvu
     clear hb hnx
     go_wp2_with (go_at_call 65;refine (q1.out _).mono ?_;rintro e w' ⟨rfl,rfl⟩)
     go_ret
     exact ⟨by rw [hr.out] <;> rfl,rfl⟩
   | true =>
     have hur:-n≤u∧u≤n:=by
      unfold L.validB at hvu
      simp only [Bool.and_eq_true,decide_eq_true_eq] at hvu
      exact hvu.2
     have wn1:IntKind.i64.wrap (-u) = -u:=IntWalk.i64_in _ (by omega)
     have wn2:wrap64 (-u) = -u:=by unfold wrap64;omega
     have q2:=qc.out (-u)
     by_cases hm:-u∈t
     ·have hr:=Lib.hid (hb (fun e=>e.2 hm))
      rw [hvu] at q1
      rw [decide_eq_true hm] at q2
      replace q1:=Lib.hid q1
      replace q2:=Lib.hid q2
      replace hvu:=Lib.hid hvu
      replace hm:=Lib.hid hm
      clear hb hnx hur
      go_wp2_with (first | (go_at_call 65;refine (q1.out _).mono ?_;rintro e w' ⟨rfl,rfl⟩) | (go_at_call 66;refine q2.out.mono ?_;rintro e w' ⟨rfl,rfl⟩))
      go_ret
      exact ⟨by rw [hr.out] <;> rfl,rfl⟩
     ·have hnx2:=hnx ⟨hvu,hm⟩
      rw [hvu] at q1
      rw [decide_eq_false hm] at q2
      replace q1:=Lib.hid q1
      replace q2:=Lib.hid q2
      replace hvu:=Lib.hid hvu
      replace hm:=Lib.hid hm
      clear hb hnx hur
      go_wp2_with (first | (go_at_call 65;refine (q1.out _).mono ?_;rintro e w' ⟨rfl,rfl⟩) | (go_at_call 66;refine q2.out.mono ?_;rintro e w' ⟨rfl,rfl⟩))
      go_roundw
      case rel=>exact ⟨k+1,by omega,by go_num,hnx2,by first | rfl | trivial⟩
      case measure=>simp [intOf];omega
  ·obtain rfl:k = t.length:=by omega
   have d0:decide ((t.length:Int) < (t.length:Int)) = false:=decide_eq_false (by omega)
   have hr:=Lib.hid (hgood.out fun j hj=>hI.out j hj hj)
   go_wp2_with fail
   go_ret
   exact ⟨by rw [hr.out] <;> rfl,rfl⟩
end Go.Proofs.YtckhohpbokojdaaGreatDoor
end
section
set_option linter.unusedSimpArgs false
set_option linter.unusedVariables false
namespace Go.Proofs.YtckhohpbokojdaaGreatDoor
open Go Go.RowKit Go.Shelf
def OutL (w3:World) (ob b0:Nat) (n:Int) (o:List L.ND) (vO:Value) (us:List Value) (V:World):Prop :=
 Below w3.heap.size w3 V∧V.heap[ob]? = some (.cells #[.int .i64 n,vO] 24 (0,0))∧V.ownsRow b0 40 3 vO o.length (gCells (o.map L.ofND) us)∧(us.length = o.length∧∀ i (hi:i < o.length),∃ u,us[i]? = some u∧SlI w3 u (castL o[i].inp))∧(w3.heap.size≤ob∧w3.heap.size≤b0∧b0≤V.heap.size)
section
variable {w3 V V':World} {ob b0:Nat} {n:Int} {o:List L.ND} {vO:Value} {us:List Value}
theorem OutL.next (h:OutL w3 ob b0 n o vO us V) (hb:Below V.heap.size V V'):OutL w3 ob b0 n o vO us V':=by
 obtain ⟨h1,h2,h3,h4,h5⟩:=h
 exact ⟨h1.trans (hb.mono h1.size),(hb.block _ (Array.getElem?_eq_some_iff.1 h2).1).trans h2,ownsRow_keep h3 (fun g c h=>hb.block g (Array.getElem?_eq_some_iff.1 h).1),h4,h5.1,h5.2.1,Nat.le_trans h5.2.2 hb.size⟩
theorem OutL.cells (h:OutL w3 ob b0 n o vO us V):V.cell? ⟨ob,0,none⟩ = some (.int .i64 n)∧V.cell? ⟨ob,1,none⟩ = some vO∧∃ bO cO,vO = .slice bO o.length cO:=by
 refine ⟨by rw [World.cell?,h.2.1];rfl,by rw [World.cell?,h.2.1];rfl,own_shp h.2.2.1⟩
theorem OutL.slC (h:OutL w3 ob b0 n o vO us V):SlC V vO (o.map L.ofND):=by
 obtain ⟨hB,-,ho,⟨hlen',hu⟩,-⟩:=h
 have hlen:us.length = (o.map L.ofND).length:=by rw [List.length_map];exact hlen'
 have hnl:(o.map L.ofND).length = o.length:=List.length_map ..
 obtain ⟨_,⟨rfl,e⟩ | ⟨g,cap,cur,rfl,hgb,hgh,hn,hm,hcs,ht⟩⟩:=ho
 ·have:o = []:=List.length_eq_zero_iff.1 e
  subst this
  exact ⟨none,0,rfl,.inl rfl⟩
 ·refine ⟨_,cap,by rw [hnl],.inr ⟨g,0,rfl,fun j hj=>?_⟩⟩
  obtain ⟨h1,h2,h3⟩:=gCells_get hlen j hj (by omega)
  have hget:∀ i x,(gCells (o.map L.ofND) us)[i]? = some x→V.cell? ⟨g,0+i,none⟩ = some x:=fun i x hx=>by
   have hil:=(List.getElem?_eq_some_iff.1 hx).1
   rw [gCells_len hlen] at hil
   rw [←ht,List.getElem?_take_of_lt (by omega)] at hx
   rw [World.cell?,hgh]
   show cur[0+i]? = some x
   rw [Nat.zero_add,←Array.getElem?_toList]
   exact hx
  obtain ⟨u,hu1,hu2⟩:=hu j (by omega)
  have hus:us[j] = u:=by rw [List.getElem?_eq_getElem (by omega)] at hu1;exact Option.some.inj hu1
  refine ⟨hget _ _ h1,?_,us[j],?_,?_⟩
  ·have:=hget _ _ h2;rwa [←Nat.add_assoc] at this
  ·have:=hget _ _ h3;rwa [←Nat.add_assoc] at this
  ·rw [List.getElem_map,hus];exact hu2.ext hB
theorem OutL.push {y:L.ND} {u v6:Value} {w6:World} (h:OutL w3 ob b0 n o vO us V) (hu:SlI w3 u (castL y.inp)) (ho:w6.ownsRow b0 40 3 v6 (o.length+1) (gCells (o.map L.ofND) us++[.int .i64 y.kind,.int .i64 y.lit,u])) (hg:V.grownBy w6 vO.ownBlock) :
  (∃ g c,v6 = .slice (some ⟨g,0,none⟩) (o.length+1) c)∧w6.cell? ⟨ob,1,none⟩ = some vO∧w6.frozen? ⟨ob,1,none⟩ = false∧OutL w3 ob b0 n (o++[y]) v6 (us++[u]) (w6.setCell ⟨ob,1,none⟩ v6):=by
 obtain ⟨h1,h2,h3,h4,h5⟩:=h
 have k:∀ {g:Nat} {c:Array Value} {t:TypeId},V.heap[g]? = some (.cells c t (0,0))→t≠40→w6.heap[g]? = some (.cells c t (0,0)):=fun {g c t} e ht=>(grown_other h3 hg e ht).trans e
 have b6:=k h2 (by decide)
 have kk:∀ {g:Nat} {c:Array Value} {t:TypeId},w6.heap[g]? = some (.cells c t (0,0))→t≠24→(w6.setCell ⟨ob,1,none⟩ v6).heap[g]? = some (.cells c t (0,0)):=fun {g c t} e ht=>(Below.heap_setCell _ _ _ _ (ne_type e b6 ht)).trans e
 have hul:us.length = (o.map L.ofND).length:=by rw [List.length_map];exact h4.1
 have hgc:gCells (o.map L.ofND) us++[.int .i64 y.kind,.int .i64 y.lit,u] = gCells ((o++[y]).map L.ofND) (us++[u]):=by
  rw [List.map_append,List.map_cons,List.map_nil,gCells_snoc hul];rfl
 rw [hgc] at ho
 have hB6:Below w3.heap.size w3 w6:=Below.grown h1 hg h1.size (fun k e=>by have:=own_ge h3 e;omega)
 refine ⟨?_,by rw [World.cell?,b6];rfl,by simp [World.frozen?,b6],hB6.setCell (p:=⟨ob,1,none⟩) h5.1 _,heap_set b6 1 _,?_,⟨by rw [List.length_append,List.length_append,h4.1];rfl,fun i hi=>?_⟩,h5.1,h5.2.1,?_⟩
 ·obtain ⟨_,⟨_,e⟩ | ⟨g,cap,cur,h,_⟩⟩:=ho
  ·omega
  ·exact ⟨g,cap,h⟩
 ·rw [List.length_append]
  exact ownsRow_keep ho fun g c e=>(kk e (by decide)).trans e.symm
 ·rw [List.length_append,List.length_singleton] at hi
  by_cases e:i < o.length
  ·obtain ⟨u',e1,e2⟩:=h4.2 i e
   refine ⟨u',by rw [List.getElem?_append_left (by omega)];exact e1,?_⟩
   rw [List.getElem_append_left e];exact e2
  ·have e':i = o.length:=by omega
   subst e'
   refine ⟨u,by rw [List.getElem?_append_right (by omega),h4.1];simp,?_⟩
   rw [List.getElem_append_right (by omega)]
   simpa using hu
 ·have:=hg.size
  have:w6.heap.size≤(w6.setCell ⟨ob,1,none⟩ v6).heap.size:=by simp [World.setCell]
  omega
end
end Go.Proofs.YtckhohpbokojdaaGreatDoor
end
section
set_option linter.unusedSimpArgs false
set_option linter.unusedVariables false
namespace Go.Proofs.YtckhohpbokojdaaGreatDoor
open Go Go.RowKit Go.Shelf
set_option maxRecDepth 100000 in
set_option maxHeartbeats 1000000 in
theorem leaf_any (l:Int) (w:World):Calls Tryz.prog 33 #[.int .i64 l] w fun e w'=>e = .returned (.agg #[.int .i64 2,.int .i64 l,.slice none 0 0])∧Ext w w':=by
 have e0:=heap_alloc_new w (.cells #[.int .i64 2,.int .i64 l,.slice none 0 0] 40)
 have y0:(w.alloc (.cells #[.int .i64 2,.int .i64 l,.slice none 0 0] 40)).cell? ⟨w.heap.size,0,none⟩ = some (.int .i64 2):=by rw [World.cell?,e0];rfl
 have y1:(w.alloc (.cells #[.int .i64 2,.int .i64 l,.slice none 0 0] 40)).cell? ⟨w.heap.size,1,none⟩ = some (.int .i64 l):=by rw [World.cell?,e0];rfl
 have y2:(w.alloc (.cells #[.int .i64 2,.int .i64 l,.slice none 0 0] 40)).cell? ⟨w.heap.size,2,none⟩ = some (.slice none 0 0):=by rw [World.cell?,e0];rfl
 have hx:Ext w (w.alloc (.cells #[.int .i64 2,.int .i64 l,.slice none 0 0] 40)):=(Ext.refl w).alloc _
 replace e0:=Lib.hid e0
 replace hx:=Lib.hid hx
 go_enter Tryz.func33,Tryz.ntmps33
 go_wp2_with fail
 exact bodyPost_ret (v:=.agg #[.int .i64 2,.int .i64 l,.slice none 0 0]) (by simp [results,Tryz.results33,go_sem,y0,y1,y2]) rfl ⟨rfl,hx.out⟩
set_option maxRecDepth 100000 in
set_option maxHeartbeats 1000000 in
theorem ofn_any (kd:Int) (b:Option Addr) (m c:Nat) (w:World):Calls Tryz.prog 34 #[.int .i64 kd,.slice b m c] w fun e w'=>e = .returned (.agg #[.int .i64 kd,.int .i64 0,.slice b m c])∧Ext w w':=by
 have e0:=heap_alloc_new w (.cells #[.int .i64 kd,.int .i64 0,.slice b m c] 40)
 have y0:(w.alloc (.cells #[.int .i64 kd,.int .i64 0,.slice b m c] 40)).cell? ⟨w.heap.size,0,none⟩ = some (.int .i64 kd):=by rw [World.cell?,e0];rfl
 have y1:(w.alloc (.cells #[.int .i64 kd,.int .i64 0,.slice b m c] 40)).cell? ⟨w.heap.size,1,none⟩ = some (.int .i64 0):=by rw [World.cell?,e0];rfl
 have y2:(w.alloc (.cells #[.int .i64 kd,.int .i64 0,.slice b m c] 40)).cell? ⟨w.heap.size,2,none⟩ = some (.slice b m c):=by rw [World.cell?,e0];rfl
 have hx:Ext w (w.alloc (.cells #[.int .i64 kd,.int .i64 0,.slice b m c] 40)):=(Ext.refl w).alloc _
 replace e0:=Lib.hid e0
 replace hx:=Lib.hid hx
 go_enter Tryz.func34,Tryz.ntmps34
 go_wp2_with fail
 exact bodyPost_ret (v:=.agg #[.int .i64 kd,.int .i64 0,.slice b m c]) (by simp [results,Tryz.results34,go_sem,y0,y1,y2]) rfl ⟨rfl,hx.out⟩
set_option maxRecDepth 100000 in
set_option maxHeartbeats 1000000 in
theorem netn_any (n:Int) (b:Option Addr) (m c:Nat) (w:World):Calls Tryz.prog 32 #[.int .i64 n,.slice b m c] w fun e w'=>e = .returned (.agg #[.int .i64 n,.slice b m c])∧Ext w w':=by
 have e0:=heap_alloc_new w (.cells #[.int .i64 n,.slice b m c] 24)
 have y0:(w.alloc (.cells #[.int .i64 n,.slice b m c] 24)).cell? ⟨w.heap.size,0,none⟩ = some (.int .i64 n):=by rw [World.cell?,e0];rfl
 have y1:(w.alloc (.cells #[.int .i64 n,.slice b m c] 24)).cell? ⟨w.heap.size,1,none⟩ = some (.slice b m c):=by rw [World.cell?,e0];rfl
 have hx:Ext w (w.alloc (.cells #[.int .i64 n,.slice b m c] 24)):=(Ext.refl w).alloc _
 replace e0:=Lib.hid e0
 replace hx:=Lib.hid hx
 go_enter Tryz.func32,Tryz.ntmps32
 go_wp2_with fail
 exact bodyPost_ret (v:=.agg #[.int .i64 n,.slice b m c]) (by simp [results,Tryz.results32,go_sem,y0,y1]) rfl ⟨rfl,hx.out⟩
end Go.Proofs.YtckhohpbokojdaaGreatDoor
end
section
set_option linter.unusedSimpArgs false
set_option linter.unusedVariables false
namespace Go.Proofs.YtckhohpbokojdaaGreatDoor
open Go Go.RowKit Go.Shelf
def chL:List L.ND:=[⟨2,1,[]⟩,⟨2,2,[]⟩,⟨2,3,[]⟩,⟨4,0,[1,2]⟩,⟨3,0,[0,3]⟩]
def ex3 (l1 l2 kd:Int):List L.ND:=[⟨2,l1,[]⟩,⟨2,l2,[]⟩,⟨kd,0,[0,1]⟩]
set_option maxRecDepth 100000 in
theorem ch_chk:L.netChk 3 (chL.map L.ofND) = 0:=by kernel_rfl
set_option maxRecDepth 100000 in
theorem ch_giv:L.reduceL (chL.map (L.givND [-2])) = ex3 1 3 3:=by kernel_rfl
set_option maxRecDepth 100000 in
theorem ch_for:L.reduceL (chL.map (L.forND 1)) = ex3 2 3 4:=by kernel_rfl
set_option maxRecDepth 100000 in
theorem ch_dec:decF chL = true:=by kernel_rfl
theorem ch_term:L.TermL 3 [-2]:=fun z hz=>by
 rw [List.mem_singleton.1 hz]
 exact ⟨by decide,by decide⟩
theorem slI_of2 {W:World} {x a b:Nat} (h:W.heap[x]? = some (.cells #[.int .i64 (a:Nat),.int .i64 (b:Nat)] 3 (0,0))):SlI W (.slice (some ⟨x,0,none⟩) 2 2) (castL [a,b]):=⟨_,_,rfl,.inr ⟨x,0,rfl,fun j hj=>by
 match j,hj with
 | 0,_=>rw [World.cell?,h];rfl
 | 1,_=>rw [World.cell?,h];rfl⟩⟩
theorem slI_nil (w:World):SlI w (.slice none 0 0) (castL []):=⟨none,0,rfl,.inl ⟨rfl,rfl,rfl⟩⟩
theorem slC_ex3 {W:World} {y x:Nat} {l1 l2 kd:Int} (h:W.heap[y]? = some (.cells #[.int .i64 2,.int .i64 l1,.slice none 0 0,.int .i64 2,.int .i64 l2,.slice none 0 0,.int .i64 kd,.int .i64 0,.slice (some ⟨x,0,none⟩) 2 2] 40 (0,0))) (hs:SlI W (.slice (some ⟨x,0,none⟩) 2 2) (castL [0,1])):SlC W (.slice (some ⟨y,0,none⟩) 3 3) ((ex3 l1 l2 kd).map L.ofND):=by
 refine ⟨_,3,rfl,.inr ⟨y,0,rfl,fun j hj=>?_⟩⟩
 match j,hj with
 | 0,_=>exact ⟨by rw [World.cell?,h];rfl,by rw [World.cell?,h];rfl,_,by rw [World.cell?,h];rfl,slI_nil W⟩
 | 1,_=>exact ⟨by rw [World.cell?,h];rfl,by rw [World.cell?,h];rfl,_,by rw [World.cell?,h];rfl,slI_nil W⟩
 | 2,_=>exact ⟨by rw [World.cell?,h];rfl,by rw [World.cell?,h];rfl,_,by rw [World.cell?,h];rfl,hs⟩
theorem slC_ch {W:World} {y x1 x2:Nat} (h:W.heap[y]? = some (.cells #[.int .i64 2,.int .i64 1,.slice none 0 0,.int .i64 2,.int .i64 2,.slice none 0 0,.int .i64 2,.int .i64 3,.slice none 0 0,.int .i64 4,.int .i64 0,.slice (some ⟨x1,0,none⟩) 2 2,.int .i64 3,.int .i64 0,.slice (some ⟨x2,0,none⟩) 2 2] 40 (0,0))) (hs1:SlI W (.slice (some ⟨x1,0,none⟩) 2 2) (castL [1,2])) (hs2:SlI W (.slice (some ⟨x2,0,none⟩) 2 2) (castL [0,3])):SlC W (.slice (some ⟨y,0,none⟩) 5 5) (chL.map L.ofND):=by
 refine ⟨_,5,rfl,.inr ⟨y,0,rfl,fun j hj=>?_⟩⟩
 match j,hj with
 | 0,_=>exact ⟨by rw [World.cell?,h];rfl,by rw [World.cell?,h];rfl,_,by rw [World.cell?,h];rfl,slI_nil W⟩
 | 1,_=>exact ⟨by rw [World.cell?,h];rfl,by rw [World.cell?,h];rfl,_,by rw [World.cell?,h];rfl,slI_nil W⟩
 | 2,_=>exact ⟨by rw [World.cell?,h];rfl,by rw [World.cell?,h];rfl,_,by rw [World.cell?,h];rfl,slI_nil W⟩
 | 3,_=>exact ⟨by rw [World.cell?,h];rfl,by rw [World.cell?,h];rfl,_,by rw [World.cell?,h];rfl,hs1⟩
 | 4,_=>exact ⟨by rw [World.cell?,h];rfl,by rw [World.cell?,h];rfl,_,by rw [World.cell?,h];rfl,hs2⟩
set_option maxRecDepth 100000 in
set_option maxHeartbeats 4000000 in
theorem chapter35_any (w:World):Calls Tryz.prog 31 #[] w fun e w'=>∃ y,e = .returned (.agg #[.int .i64 3,.slice (some ⟨y,0,none⟩) 5 5])∧SlC w' (.slice (some ⟨y,0,none⟩) 5 5) (chL.map L.ofND)∧Below w.heap.size w w':=by
 go_enter Tryz.func31,Tryz.ntmps31
 go_wp2_with fail
 have hx0:Ext w (w.alloc (.cells #[.int .i64 0,.slice none 0 0] 24)):=(Ext.refl w).alloc _
 have e0:=heap_alloc_new w (.cells #[.int .i64 0,.slice none 0 0] 24)
 refine (leaf_any 1 _).mono ?_
 rintro e w1 ⟨rfl,hx1⟩
 replace e0:=(hx1.below.block _ (Array.getElem?_eq_some_iff.1 e0).1).trans e0
 replace hx1:=Lib.hid (hx0.trans hx1)
 replace e0:=Lib.hid e0
 clear hx0
 go_wp2_with fail
 refine (leaf_any 2 _).mono ?_
 rintro e w2 ⟨rfl,hx2⟩
 replace e0:=Lib.hid ((hx2.below.block _ (Array.getElem?_eq_some_iff.1 e0.out).1).trans e0.out)
 replace hx2:=Lib.hid (hx1.out.trans hx2)
 clear hx1
 go_wp2_with fail
 refine (leaf_any 3 _).mono ?_
 rintro e w3 ⟨rfl,hx3⟩
 replace e0:=Lib.hid ((hx3.below.block _ (Array.getElem?_eq_some_iff.1 e0.out).1).trans e0.out)
 replace hx3:=Lib.hid (hx2.out.trans hx3)
 clear hx2
 have hs1:=heap_alloc_new w3 (.cells #[.int .i64 1,.int .i64 2] 3)
 have hxa:=(Ext.refl w3).alloc (.cells #[.int .i64 1,.int .i64 2] 3)
 replace hs1:=Lib.hid hs1
 replace hxa:=Lib.hid hxa
 go_wp2_with fail
 refine (ofn_any 4 _ _ _ _).mono ?_
 rintro e w4 ⟨rfl,hx4⟩
 replace e0:=Lib.hid (((hxa.out.trans hx4).below.block _ (Array.getElem?_eq_some_iff.1 e0.out).1).trans e0.out)
 replace hs1:=Lib.hid ((hx4.below.block _ (Array.getElem?_eq_some_iff.1 hs1.out).1).trans hs1.out)
 replace hx4:=Lib.hid (hx3.out.trans (hxa.out.trans hx4))
 clear hx3 hxa
 have hs2:=Lib.hid (heap_alloc_new w4 (.cells #[.int .i64 0,.int .i64 3] 3))
 have hxa:=Lib.hid ((Ext.refl w4).alloc (.cells #[.int .i64 0,.int .i64 3] 3))
 generalize w3.heap.size = x1 at *
 go_wp2_with fail
 refine (ofn_any 3 _ _ _ _).mono ?_
 rintro e w5 ⟨rfl,hx5⟩
 replace e0:=Lib.hid (((hxa.out.trans hx5).below.block _ (Array.getElem?_eq_some_iff.1 e0.out).1).trans e0.out)
 replace hs1:=Lib.hid (((hxa.out.trans hx5).below.block _ (Array.getElem?_eq_some_iff.1 hs1.out).1).trans hs1.out)
 replace hs2:=Lib.hid ((hx5.below.block _ (Array.getElem?_eq_some_iff.1 hs2.out).1).trans hs2.out)
 replace hx5:=Lib.hid (hx4.out.trans (hxa.out.trans hx5))
 clear hx4 hxa
 generalize w4.heap.size = x2 at *
 have hn5:=heap_alloc_new w5 (.cells #[.int .i64 2,.int .i64 1,.slice none 0 0,.int .i64 2,.int .i64 2,.slice none 0 0,.int .i64 2,.int .i64 3,.slice none 0 0,.int .i64 4,.int .i64 0,.slice (some ⟨x1,0,none⟩) 2 2,.int .i64 3,.int .i64 0,.slice (some ⟨x2,0,none⟩) 2 2] 40)
 have hxa:=(Ext.refl w5).alloc (.cells #[.int .i64 2,.int .i64 1,.slice none 0 0,.int .i64 2,.int .i64 2,.slice none 0 0,.int .i64 2,.int .i64 3,.slice none 0 0,.int .i64 4,.int .i64 0,.slice (some ⟨x1,0,none⟩) 2 2,.int .i64 3,.int .i64 0,.slice (some ⟨x2,0,none⟩) 2 2] 40)
 replace hs1:=Lib.hid ((hxa.below.block _ (Array.getElem?_eq_some_iff.1 hs1.out).1).trans hs1.out)
 replace hs2:=Lib.hid ((hxa.below.block _ (Array.getElem?_eq_some_iff.1 hs2.out).1).trans hs2.out)
 replace hn5:=Lib.hid hn5
 replace hxa:=Lib.hid hxa
 go_wp2_with fail
 refine (netn_any 3 _ _ _ _).mono ?_
 rintro e w6 ⟨rfl,hx6⟩
 have hz:=((hxa.out.trans hx6).below.block _ (Array.getElem?_eq_some_iff.1 e0.out).1).trans e0.out
 replace hs1:=Lib.hid ((hx6.below.block _ (Array.getElem?_eq_some_iff.1 hs1.out).1).trans hs1.out)
 replace hs2:=Lib.hid ((hx6.below.block _ (Array.getElem?_eq_some_iff.1 hs2.out).1).trans hs2.out)
 replace hn5:=Lib.hid ((hx6.below.block _ (Array.getElem?_eq_some_iff.1 hn5.out).1).trans hn5.out)
 replace hx6:=Lib.hid (hx5.out.trans (hxa.out.trans hx6))
 generalize w5.heap.size = y at *
 have z0:w6.cell? ⟨w.heap.size,0,none⟩ = some (.int .i64 0):=by rw [World.cell?,hz];rfl
 have z1:w6.cell? ⟨w.heap.size,1,none⟩ = some (.slice none 0 0):=by rw [World.cell?,hz];rfl
 have y0:w6.frozen? ⟨w.heap.size,0,none⟩ = false:=by simp [World.frozen?,hz]
 have y1:w6.frozen? ⟨w.heap.size,1,none⟩ = false:=by simp [World.frozen?,hz]
 obtain ⟨t0,t1⟩:=box2_set hz (.int .i64 3) (.slice (some ⟨y,0,none⟩) 5 5)
 have hk:∀ (v0 v1:Value),SlC ((w6.setCell ⟨w.heap.size,0,none⟩ v0).setCell ⟨w.heap.size,1,none⟩ v1) (.slice (some ⟨y,0,none⟩) 5 5) (chL.map L.ofND):=fun v0 v1=>by
  have kk:∀ {g:Nat} {c:Array Value} {t:TypeId},w6.heap[g]? = some (.cells c t (0,0))→t≠24→((w6.setCell ⟨w.heap.size,0,none⟩ v0).setCell ⟨w.heap.size,1,none⟩ v1).heap[g]? = some (.cells c t (0,0)):=fun {g c t} e ht=>(Below.heap_setCell _ _ _ _ (ne_type e hz ht)).trans ((Below.heap_setCell _ _ _ _ (ne_type e hz ht)).trans e)
  exact slC_ch (kk hn5.out (by decide)) (slI_of2 (kk hs1.out (by decide))) (slI_of2 (kk hs2.out (by decide)))
 have hB:=Lib.hid ((hx6.out.below.setCell (Nat.le_refl _) (.int .i64 3) (p:=⟨w.heap.size,0,none⟩)).setCell (Nat.le_refl _) (.slice (some ⟨y,0,none⟩) 5 5) (p:=⟨w.heap.size,1,none⟩))
 replace t0:=Lib.hid t0
 replace t1:=Lib.hid t1
 replace hk:=Lib.hid hk
 clear hz hx5 e0 hxa
 go_wp2_with fail
 exact bodyPost_ret (v:=.agg #[.int .i64 3,.slice (some ⟨y,0,none⟩) 5 5]) (by simp [results,Tryz.results31,go_sem,t0.out,t1.out]) rfl ⟨y,rfl,hk.out _ _,hB.out⟩
end Go.Proofs.YtckhohpbokojdaaGreatDoor
end
