import Derived.Test.YtckhohpbokojdaaGreatDoorLQ19
import Derived.Test.YtckhohpbokojdaaGreatDoorLN44
set_option linter.unusedSimpArgs false
set_option linter.unusedVariables false
namespace Go.Proofs.YtckhohpbokojdaaGreatDoor
open Go Go.RowKit Go.Shelf
set_option maxRecDepth 100000 in
set_option maxHeartbeats 4000000 in
theorem rvalid21_any {n:Int} {nl:List L.ND} {v:Value} {w:World} (hv:SlC w v (nl.map L.ofND)) (hc:L.netChk n (nl.map L.ofND) = 0) (h2:∀ y∈nl,y.inp.length≤100000) :
  Calls Tryz.prog 70 #[.agg #[.int .i64 n,v]] w fun e w'=>e = .returned (.bool true)∧Ext w w':=by
 have hnok:L.NOK n nl:=by
  have:=(L.net_nok hc).1
  rwa [List.map_map,show (L.toND ∘ L.ofND) = id from funext L.toND_ofND,List.map_id] at this
 obtain ⟨hn,hl1,-⟩:=L.netChk_ok.1 hc
 rw [List.length_map] at hl1
 obtain ⟨ba,cp,rfl,hcell⟩:=slC_nd hv
 have hx1:Ext w (w.alloc (.cells #[.int .i64 n,.slice ba nl.length cp] 24)):=(Ext.refl w).alloc _
 have e0:=heap_alloc_new w (.cells #[.int .i64 n,.slice ba nl.length cp] 24)
 have hbox:∀ V,Ext (w.alloc (.cells #[.int .i64 n,.slice ba nl.length cp] 24)) V→V.cell? ⟨w.heap.size,0,none⟩ = some (.int .i64 n)∧V.cell? ⟨w.heap.size,1,none⟩ = some (.slice ba nl.length cp):=fun V hV=>by
  have f0:=(hV.below.block _ (Array.getElem?_eq_some_iff.1 e0).1).trans e0
  exact ⟨by rw [World.cell?,f0];rfl,by rw [World.cell?,f0];rfl⟩
 obtain ⟨p0,p1⟩:=hbox (w.alloc (.cells #[.int .i64 n,.slice ba nl.length cp] 24)) (Ext.refl _)
 have d0:decide (n < 0) = false:=decide_eq_false (by omega)
 have d1:decide (n > 128) = false:=decide_eq_false (by omega)
 have d2:((nl.length:Int) == 0) = false:=beq_eq_false_iff_ne.2 (by omega)
 have d3:decide ((nl.length:Int) > 65536) = false:=decide_eq_false (by omega)
 have d3':decide (65536 < nl.length) = false:=decide_eq_false (by omega)
 have d2':¬ (nl.length = 0):=by omega
 have d2'':nl≠[]:=fun e=>by rw [e] at hl1;simp at hl1
 have hform:=fun k (hk:k < nl.length)=>hnok.form _ (List.getElem_mem hk)
 have qv:=fun l W=>rvalid_any (n:=n) (l:=l) hn.1 hn.2 W
 replace hcell:=Lib.hid hcell
 replace h2:=Lib.hid h2
 replace hbox:=Lib.hid hbox
 replace e0:=Lib.hid e0
 replace hnok:=Lib.hid hnok
 replace hform:=Lib.hid hform
 replace hx1:=Lib.hid hx1
 replace qv:=Lib.hid qv
 clear hc hv
 go_enter Tryz.func70,Tryz.ntmps70
 go_wp2_with fail
 generalize (w.alloc (.cells #[.int .i64 n,.slice ba nl.length cp] 24)) = w1 at *
 clear p0 p1
 go_loopw [3] (fun i wr=>∃ k:Nat,k≤nl.length∧i = .int .i64 (k:Nat)∧Hid (Ext w1 wr)) (fun i _=>nl.length - (intOf i).toNat)
 case atStart=>exact ⟨0,Nat.zero_le _,rfl,Lib.hid (Ext.refl _)⟩
 case round =>
  obtain ⟨k,hk,rfl,hI⟩:=hrel
  obtain ⟨pn0,pn⟩:=hbox.out wr hI.out
  by_cases hlt:k < nl.length
  ·have q0:(0:Int)≤(k:Int):=by omega
   have q1:(k:Int) < (nl.length:Int):=by omega
   have dk:decide ((k:Int) < (nl.length:Int)) = true:=decide_eq_true q1
   obtain ⟨b,o,bb,cc,rfl,f0,f1,f2,fin⟩:=hcell.out k hlt
   have hkid:=hnok.out.kids k hlt
   have hfm:=hform.out k hlt
   have hilen:=h2.out _ (List.getElem_mem hlt)
   have hxw:=hx1.out.trans hI.out
   have r0:=hxw.cell f0
   have r1:=hxw.cell f1
   have r2:=hxw.cell f2
   have fin2:=fin.ext hxw.below
   generalize nl[k] = y at *
   obtain ⟨kd,lt,ip⟩:=y
   dsimp only at *
   rename World=>wr
   have hxa:=(Ext.refl wr).alloc (.cells #[.int .i64 kd,.int .i64 lt,.slice bb ip.length cc] 40)
   have hna:=heap_alloc_new wr (.cells #[.int .i64 kd,.int .i64 lt,.slice bb ip.length cc] 40)
   obtain ⟨⟨x0,x1,x2⟩,-⟩:=bx3q hna
   have hX6:=Lib.hid (hI.out.trans hxa)
   have hx2:=Lib.hid x2
   obtain ⟨u1,u2⟩:=hbox.out (wr.alloc (.cells #[.int .i64 kd,.int .i64 lt,.slice bb ip.length cc] 40)) hX6.out
   have hip:∀ j (hj:j < ip.length),∃ b o,bb = some ⟨b,o,none⟩∧(wr.alloc (.cells #[.int .i64 kd,.int .i64 lt,.slice bb ip.length cc] 40)).cell? ⟨b,o+j,none⟩ = some (.int .i64 (ip[j]:Nat)):=fun j hj=>by
    obtain ⟨b,o,h1,h2⟩:=slI_cell (fin2.ext hxa.below) (k:=j) (by rw [castL_len];exact hj)
    rw [castL_at _ hj] at h2
    exact ⟨b,o,h1,h2⟩
   replace hip:=Lib.hid hip
   replace hkid:=Lib.hid hkid
   clear f0 f1 f2 fin fin2 hxa hna hxw
   rcases hfm with h | h | h
   ·obtain ⟨hk01,hlz,hipn⟩:=h
    have e7:(lt != 0) = false:=by rw [hlz];rfl
    replace hlz:=Lib.hid hlz
    have e0:decide (kd < 0) = false:=decide_eq_false (by omega)
    have e1:decide (kd > 4) = false:=decide_eq_false (by omega)
    have e2:(kd == 2) = false:=beq_eq_false_iff_ne.2 (by omega)
    have e3:(kd != 2) = true:=by rw [bne_iff_ne];omega
    have e4:decide (kd < 3) = true:=decide_eq_true (by omega)
    have e5:decide ((ip.length:Int) > 0) = false:=decide_eq_false (by rw [hipn];simp)
    have e6:decide (0 < ip.length) = false:=decide_eq_false (by rw [hipn];simp)
    replace hipn:=Lib.hid hipn
    replace hk01:=Lib.hid hk01
    go_wp2_with fail
    generalize hxb:wr.heap.size = xb at *
    generalize hwx:(wr.alloc (.cells #[.int .i64 kd,.int .i64 lt,.slice bb ip.length cc] 40)) = w5 at *
    clear hwx pn r0 r1 r2 x0 x1 x2 u1 u2
    go_loopw [5] (fun j' wr'=>∃ j:Nat,j≤ip.length∧j' = .int .i64 (j:Nat)∧wr' = w5) (fun j' _=>ip.length - (intOf j').toNat)
    case atStart=>exact ⟨0,Nat.zero_le _,rfl,rfl⟩
    case round =>
     obtain ⟨j,hj,rfl,rfl⟩:=hrel
     have x2:=hx2.out
     by_cases hjl:j < ip.length
     ·have p0:(0:Int)≤(j:Int):=by omega
      have p1:(j:Int) < (ip.length:Int):=by omega
      have dj:decide ((j:Int) < (ip.length:Int)) = true:=decide_eq_true p1
      obtain ⟨b2,o2,rfl,x3⟩:=hip.out j hjl
      have hck:=hkid.out _ (List.getElem_mem hjl)
      generalize ip[j] = c at *
      have e1:decide ((c:Int) < 0) = false:=decide_eq_false (by omega)
      have e2:decide ((c:Int)≥(k:Int)) = false:=decide_eq_false (by omega)
      have e3:decide (k≤c) = false:=decide_eq_false (by omega)
      go_wp2_with fail
      go_roundw
      case rel=>exact ⟨j+1,by omega,by go_num,by first | rfl | trivial⟩
      case measure=>simp [intOf];omega
     ·obtain rfl:j = ip.length:=by omega
      have dj:decide ((ip.length:Int) < (ip.length:Int)) = false:=decide_eq_false (by omega)
      go_wp2_with fail
      go_roundw
      case rel=>exact ⟨k+1,by omega,by go_num,hX6⟩
      case measure=>simp [intOf];omega
   ·obtain ⟨hk2,hl,hipn⟩:=h
    have e0:decide (kd < 0) = false:=decide_eq_false (by omega)
    have e1:decide (kd > 4) = false:=decide_eq_false (by omega)
    have e2:(kd == 2) = true:=by rw [hk2];rfl
    have e3:(kd != 2) = false:=by rw [hk2];rfl
    have e4:decide (kd < 3) = true:=decide_eq_true (by omega)
    replace hk2:=Lib.hid hk2
    have q:=qv.out lt
    have hvb:L.validB n lt = true:=by
     unfold L.validB
     simp only [Bool.and_eq_true,decide_eq_true_eq]
     exact ⟨hl.1,hl.2.1,hl.2.2⟩
    rw [hvb] at q
    replace q:=Lib.hid q
    have e5:decide ((ip.length:Int) > 0) = false:=decide_eq_false (by rw [hipn];simp)
    have e6:decide (0 < ip.length) = false:=decide_eq_false (by rw [hipn];simp)
    replace hipn:=Lib.hid hipn
    replace hl:=Lib.hid hl
    replace hvb:=Lib.hid hvb
    go_wp2_with (go_at_call 65;refine (q.out _).mono ?_;rintro e w' ⟨rfl,rfl⟩)
    generalize hxb:wr.heap.size = xb at *
    generalize hwx:(wr.alloc (.cells #[.int .i64 kd,.int .i64 lt,.slice bb ip.length cc] 40)) = w5 at *
    clear hwx pn r0 r1 r2 x0 x1 x2 u1 u2
    go_loopw [5] (fun j' wr'=>∃ j:Nat,j≤ip.length∧j' = .int .i64 (j:Nat)∧wr' = w5) (fun j' _=>ip.length - (intOf j').toNat)
    case atStart=>exact ⟨0,Nat.zero_le _,rfl,rfl⟩
    case round =>
     obtain ⟨j,hj,rfl,rfl⟩:=hrel
     have x2:=hx2.out
     by_cases hjl:j < ip.length
     ·have p0:(0:Int)≤(j:Int):=by omega
      have p1:(j:Int) < (ip.length:Int):=by omega
      have dj:decide ((j:Int) < (ip.length:Int)) = true:=decide_eq_true p1
      obtain ⟨b2,o2,rfl,x3⟩:=hip.out j hjl
      have hck:=hkid.out _ (List.getElem_mem hjl)
      generalize ip[j] = c at *
      have e1:decide ((c:Int) < 0) = false:=decide_eq_false (by omega)
      have e2:decide ((c:Int)≥(k:Int)) = false:=decide_eq_false (by omega)
      have e3:decide (k≤c) = false:=decide_eq_false (by omega)
      go_wp2_with fail
      go_roundw
      case rel=>exact ⟨j+1,by omega,by go_num,by first | rfl | trivial⟩
      case measure=>simp [intOf];omega
     ·obtain rfl:j = ip.length:=by omega
      have dj:decide ((ip.length:Int) < (ip.length:Int)) = false:=decide_eq_false (by omega)
      go_wp2_with fail
      go_roundw
      case rel=>exact ⟨k+1,by omega,by go_num,hX6⟩
      case measure=>simp [intOf];omega
   ·obtain ⟨hk34,hlz⟩:=h
    have e7:(lt != 0) = false:=by rw [hlz];rfl
    replace hlz:=Lib.hid hlz
    have e0:decide (kd < 0) = false:=decide_eq_false (by omega)
    have e1:decide (kd > 4) = false:=decide_eq_false (by omega)
    have e2:(kd == 2) = false:=beq_eq_false_iff_ne.2 (by omega)
    have e3:(kd != 2) = true:=by rw [bne_iff_ne];omega
    have e4:decide (kd < 3) = false:=decide_eq_false (by omega)
    replace hk34:=Lib.hid hk34
    go_wp2_with fail
    generalize hxb:wr.heap.size = xb at *
    generalize hwx:(wr.alloc (.cells #[.int .i64 kd,.int .i64 lt,.slice bb ip.length cc] 40)) = w5 at *
    clear hwx pn r0 r1 r2 x0 x1 x2 u1 u2
    go_loopw [5] (fun j' wr'=>∃ j:Nat,j≤ip.length∧j' = .int .i64 (j:Nat)∧wr' = w5) (fun j' _=>ip.length - (intOf j').toNat)
    case atStart=>exact ⟨0,Nat.zero_le _,rfl,rfl⟩
    case round =>
     obtain ⟨j,hj,rfl,rfl⟩:=hrel
     have x2:=hx2.out
     by_cases hjl:j < ip.length
     ·have p0:(0:Int)≤(j:Int):=by omega
      have p1:(j:Int) < (ip.length:Int):=by omega
      have dj:decide ((j:Int) < (ip.length:Int)) = true:=decide_eq_true p1
      obtain ⟨b2,o2,rfl,x3⟩:=hip.out j hjl
      have hck:=hkid.out _ (List.getElem_mem hjl)
      generalize ip[j] = c at *
      have e1:decide ((c:Int) < 0) = false:=decide_eq_false (by omega)
      have e2:decide ((c:Int)≥(k:Int)) = false:=decide_eq_false (by omega)
      have e3:decide (k≤c) = false:=decide_eq_false (by omega)
      go_wp2_with fail
      go_roundw
      case rel=>exact ⟨j+1,by omega,by go_num,by first | rfl | trivial⟩
      case measure=>simp [intOf];omega
     ·obtain rfl:j = ip.length:=by omega
      have dj:decide ((ip.length:Int) < (ip.length:Int)) = false:=decide_eq_false (by omega)
      go_wp2_with fail
      go_roundw
      case rel=>exact ⟨k+1,by omega,by go_num,hX6⟩
      case measure=>simp [intOf];omega
  ·obtain rfl:k = nl.length:=by omega
   have dk:decide ((nl.length:Int) < (nl.length:Int)) = false:=decide_eq_false (by omega)
   go_wp2_with fail
   go_ret
   exact ⟨rfl,hx1.out.trans hI.out⟩
def PairsOK (nl:List L.ND) (ip:List Nat):Prop:=∀ k (hk:k < ip.length) m (hm:m < k),L.vset nl ip[k] &&& L.vset nl (ip[m]'(Nat.lt_trans hm hk)) = 0
def PairBad (nl:List L.ND) (ip:List Nat) (k m:Nat):Prop:=∃ (hk:k < ip.length) (hm:m < k),L.vset nl ip[k] &&& L.vset nl (ip[m]'(Nat.lt_trans hm hk))≠0
theorem dec_pairs {nl:List L.ND} {y:L.ND} (h3:y.kind = 3):decN nl y = true↔∀ k (hk:k < y.inp.length) m (hm:m < k),L.vset nl y.inp[k] &&& L.vset nl (y.inp[m]'(by omega)) = 0:=by
 unfold decN
 rw [if_pos h3,sepF_iff,List.pairwise_iff_getElem]
 constructor
 ·rintro ⟨-,h⟩ k hk m hm
  exact and_zero.2 fun v e=>h m k (by omega) hk hm v ⟨e.2,e.1⟩
 ·intro h
  refine ⟨fun k _ v hv=>?_,fun i j hi hj hij v e=>and_zero.1 (h j hj i hij) v ⟨e.2,e.1⟩⟩
  have hv1:=hv.1
  rw [L.hasS_zero] at hv1
  cases hv1
set_option maxRecDepth 100000 in
set_option maxHeartbeats 4000000 in
theorem rdecomp21_any {n:Int} {nl:List L.ND} {v:Value} {w:World} (hv:SlC w v (nl.map L.ofND)) (hc:L.netChk n (nl.map L.ofND) = 0) (hl:nl.length≤65536) (h2:∀ y∈nl,y.inp.length≤100000) :
  Calls Tryz.prog 46 #[.agg #[.int .i64 n,v]] w fun e w'=>e = .returned (.bool (decF nl))∧Below w.heap.size w w':=by
 have hnok:L.NOK n nl:=by
  have:=(L.net_nok hc).1
  rwa [List.map_map,show (L.toND ∘ L.ofND) = id from funext L.toND_ofND,List.map_id] at this
 have hkids:=hnok.kids
 have q1:=fun (W:World) (hW:Ext w W)=>rvalid21_any (n:=n) (hv.ext hW.below) hc h2
 have q2:=fun (W:World) (hW:Ext w W)=>rvars21_any (n:=n) (hv.ext hW.below) hc hl h2
 obtain ⟨ba,cp,rfl,hcell⟩:=slC_nd hv
 have hx1:Ext w (w.alloc (.cells #[.int .i64 n,.slice ba nl.length cp] 24)):=(Ext.refl w).alloc _
 have e0:=heap_alloc_new w (.cells #[.int .i64 n,.slice ba nl.length cp] 24)
 have hbox:∀ V,Below ((w.alloc (.cells #[.int .i64 n,.slice ba nl.length cp] 24))).heap.size (w.alloc (.cells #[.int .i64 n,.slice ba nl.length cp] 24)) V→V.cell? ⟨w.heap.size,0,none⟩ = some (.int .i64 n)∧V.cell? ⟨w.heap.size,1,none⟩ = some (.slice ba nl.length cp):=fun V hV=>by
  have f0:=(hV.block _ (Array.getElem?_eq_some_iff.1 e0).1).trans e0
  exact ⟨by rw [World.cell?,f0];rfl,by rw [World.cell?,f0];rfl⟩
 obtain ⟨p0,p1⟩:=hbox (w.alloc (.cells #[.int .i64 n,.slice ba nl.length cp] 24)) (Below.refl _ _)
 obtain ⟨T,hT⟩:∃ T,T = decF nl:=⟨_,rfl⟩
 rw [←hT]
 have hbad:∀ i (hi:i < nl.length),nl[i].kind = 3→∀ k m,PairBad nl nl[i].inp k m→T = false:=fun i hi h3 k m ⟨hk,hm,h⟩=>by
  rw [hT]
  refine decF_bad hi ?_
  cases hd:decN nl nl[i] with
  | false=>rfl
  | true=>exact absurd ((dec_pairs h3).1 hd k hk m hm) h
 have hgood:(∀ i (hi:i < nl.length),nl[i].kind = 3→PairsOK nl nl[i].inp)→T = true:=fun h=>by
  rw [hT]
  refine decF_good fun k hk=>?_
  by_cases h3:nl[k].kind = 3
  ·exact (dec_pairs h3).2 (h k hk h3)
  ·unfold decN;rw [if_neg h3]
 have qm:=fun (a b:VSet) V=>meets21_any a b V
 unfold encS at qm
 have q1':=q1 (w.alloc (.cells #[.int .i64 n,.slice ba nl.length cp] 24)) hx1
 have hsl:=hv
 (try simp only [List.length_map] at q2)
 replace hcell:=Lib.hid hcell
 replace hsl:=Lib.hid hsl
 replace h2:=Lib.hid h2
 replace hbox:=Lib.hid hbox
 replace e0:=Lib.hid e0
 replace hkids:=Lib.hid hkids
 replace hx1:=Lib.hid hx1
 replace hT:=Lib.hid hT
 replace hbad:=Lib.hid hbad
 replace hgood:=Lib.hid hgood
 replace q2:=Lib.hid q2
 replace qm:=Lib.hid qm
 clear hc hv hnok q1
 go_enter Tryz.func46,Tryz.ntmps46
 go_wp2_with fail
 refine q1'.mono ?_
 rintro e w3 ⟨rfl,hx3⟩
 have hb3:=Lib.hid (hx1.out.trans hx3)
 have hB3:=Lib.hid hx3.below
 obtain ⟨p2,p3⟩:=hbox.out w3 hx3.below
 have q3:=q2.out w3 hb3.out
 clear q1' p0 p1 hx3
 go_wp2_with fail
 refine q3.mono ?_
 rintro e w4 ⟨g,hg,rfl,hsets,hb4⟩
 have hX4:=Lib.hid (hb3.out.below.trans (hb4.mono hb3.out.size))
 have hB4:=Lib.hid (hB3.out.trans (hb4.mono hB3.out.size))
 have hcell4:Hid (∀ k (hk:k < nl.length),∃ b o bb cc,ba = some ⟨b,o,none⟩∧w4.cell? ⟨b,o+k * 3,none⟩ = some (.int .i64 nl[k].kind)∧w4.cell? ⟨b,o+k * 3+2,none⟩ = some (.slice bb nl[k].inp.length cc)∧SlI w4 (.slice bb nl[k].inp.length cc) (castL nl[k].inp)):=Lib.hid fun k hk=>by
  obtain ⟨b,o,bb,cc,h1,f0,f1,f2,fin⟩:=hcell.out k hk
  have kp:∀ {a:Addr} {v:Value},w.cell? a = some v→w4.cell? a = some v:=fun e=>(hX4.out.cell (World.block_lt_of_cell? w _ e)).trans e
  exact ⟨b,o,bb,cc,h1,kp f0,kp f2,fin.ext hX4.out⟩
 obtain ⟨-,pn⟩:=hbox.out w4 hB4.out
 replace hsets:=Lib.hid hsets
 clear q3 p2 p3 hb4 hg
 go_wp2_with fail
 go_loopw [4] (fun i wr=>∃ k:Nat,k≤nl.length∧i = .int .i64 (k:Nat)∧Hid (Ext w4 wr)∧Hid (∀ i (hi:i < nl.length),i < k→nl[i].kind = 3→PairsOK nl nl[i].inp)) (fun i _=>nl.length - (intOf i).toNat)
 case atStart=>exact ⟨0,Nat.zero_le _,rfl,Lib.hid (Ext.refl _),Lib.hid (fun i hi h=>absurd h (Nat.not_lt_zero _))⟩
 case round =>
  clear pn
  obtain ⟨i,hile,rfl,hI,hN⟩:=hrel
  have pn:=hI.out.cell (hbox.out w4 hB4.out).2
  by_cases hlt:i < nl.length
  ·have q0:(0:Int)≤(i:Int):=by omega
   have q1:(i:Int) < (nl.length:Int):=by omega
   have dk:decide ((i:Int) < (nl.length:Int)) = true:=decide_eq_true q1
   obtain ⟨b,o,bb,cc,rfl,f0,f2,fin⟩:=hcell4.out i hlt
   have hkid:=hkids.out i hlt
   have hilen:=h2.out _ (List.getElem_mem hlt)
   have hb1:=hbad.out i hlt
   have hnx:(nl[i].kind = 3→PairsOK nl nl[i].inp)→Hid (∀ j (hj:j < nl.length),j < i+1→nl[j].kind = 3→PairsOK nl nl[j].inp):=fun h=>Lib.hid fun j hj hji=>by
    by_cases e:j = i
    ·subst e;exact h
    ·exact hN.out j hj (by omega)
   generalize nl[i] = y at *
   obtain ⟨kd,lt,ip⟩:=y
   dsimp only at *
   have hip:∀ j (hj:j < ip.length),∃ b o,bb = some ⟨b,o,none⟩∧w4.cell? ⟨b,o+j,none⟩ = some (.int .i64 (ip[j]:Nat)):=fun j hj=>by
    obtain ⟨b,o,h1,h2⟩:=slI_cell fin (k:=j) (by rw [castL_len];exact hj)
    rw [castL_at _ hj] at h2
    exact ⟨b,o,h1,h2⟩
   have r2:=hI.out.cell f2
   have hS:=Lib.hid fun V (hV:Ext w4 V)=>And.intro (hV.cell (hbox.out w4 hB4.out).2) (And.intro (hV.cell f0) (hV.cell f2))
   replace hip:=Lib.hid hip
   replace hkid:=Lib.hid hkid
   replace hnx:=Lib.hid hnx
   replace hb1:=Lib.hid hb1
   clear f0 f2 fin
   rename World=>wr
   go_wp2_with fail
   clear pn r2
   go_loopw [6] (fun k' wr=>∃ k:Nat,k≤ip.length∧k' = .int .i64 (k:Nat)∧Hid (Ext w4 wr)∧Hid (kd = 3→∀ k1 (hk:k1 < ip.length),k1 < k→∀ m (hm:m < k1),L.vset nl ip[k1] &&& L.vset nl (ip[m]'(by omega)) = 0)) (fun k' _=>ip.length - (intOf k').toNat)
   case atStart=>exact ⟨0,Nat.zero_le _,rfl,hI,Lib.hid (fun _ k1 hk h=>absurd h (Nat.not_lt_zero _))⟩
   case round =>
    clear hI
    obtain ⟨k,hk,rfl,hI,hM⟩:=hrel
    obtain ⟨pn,r0,r2⟩:=hS.out wr hI.out
    by_cases hkl:k < ip.length
    ·have p1:(k:Int) < (ip.length:Int):=by omega
     have p0:(0:Int)≤(k:Int):=by omega
     have dk2:decide ((k:Int) < (ip.length:Int)) = true:=decide_eq_true p1
     by_cases h3:kd = 3
     ·have d3:(kd == 3) = true:=by simpa using h3
      have hb2:=fun m (hm:m < k) (h:L.vset nl ip[k] &&& L.vset nl (ip[m]'(Nat.lt_trans hm hkl))≠0)=>Lib.hid (hb1.out h3 k m ⟨hkl,hm,h⟩)
      have hM2:(∀ m (hm:m < k),L.vset nl ip[k] &&& L.vset nl (ip[m]'(by omega)) = 0)→Hid (kd = 3→∀ k1 (hk:k1 < ip.length),k1 < k+1→∀ m (hm:m < k1),L.vset nl ip[k1] &&& L.vset nl (ip[m]'(by omega)) = 0):=fun h=>Lib.hid fun _ k1 hk1 hlt1=>by
       by_cases e:k1 = k
       ·subst e;exact h
       ·exact hM.out h3 k1 hk1 (by omega)
      replace hM2:=Lib.hid hM2
      replace hb2:=Lib.hid hb2
      replace h3:=Lib.hid h3
      go_wp2_with fail
      clear pn r0 r2
      go_loopw [7] (fun m' wr=>∃ m:Nat,m≤k∧m' = .int .i64 (m:Nat)∧Hid (Ext w4 wr)∧Hid (∀ m1 (hm:m1 < k),m1 < m→L.vset nl ip[k] &&& L.vset nl (ip[m1]'(by omega)) = 0)) (fun m' _=>k - (intOf m').toNat)
      case atStart=>exact ⟨0,Nat.zero_le _,rfl,hI,Lib.hid (fun m1 hm h=>absurd h (Nat.not_lt_zero _))⟩
      case round =>
       clear hI
       obtain ⟨m,hm,rfl,hI,hZ⟩:=hrel
       by_cases hml:m < k
       ·have m1:(m:Int) < (k:Int):=by omega
        have dm:decide ((m:Int) < (k:Int)) = true:=decide_eq_true m1
        have dm':decide (m < k) = true:=decide_eq_true hml
        have m0:(0:Int)≤(m:Int):=by omega
        have m2:(m:Int) < (ip.length:Int):=by omega
        obtain ⟨b2,o2,hbb,x0⟩:=hip.out k hkl
        obtain ⟨b2',o2',hbb',x1⟩:=hip.out m (by omega)
        rw [hbb] at hbb'
        simp only [Option.some.injEq,Addr.mk.injEq] at hbb'
        obtain ⟨rfl,rfl,-⟩:=hbb'
        subst hbb
        have hck:=hkid.out _ (List.getElem_mem hkl)
        have hcm:=hkid.out _ (List.getElem_mem (show m < ip.length by omega))
        have hbm:=hb2.out m hml
        have hZ2:L.vset nl ip[k] &&& L.vset nl (ip[m]'(by omega)) = 0→Hid (∀ m1 (hm:m1 < k),m1 < m+1→L.vset nl ip[k] &&& L.vset nl (ip[m1]'(by omega)) = 0):=fun h=>Lib.hid fun m1 hm1 hlt1=>by
         by_cases e:m1 = m
         ·subst e;exact h
         ·exact hZ.out m1 hm1 (by omega)
        obtain ⟨cA,hcA⟩:∃ c,c = ip[k]:=⟨_,rfl⟩
        obtain ⟨cB,hcB⟩:∃ c,c = ip[m]'(by omega):=⟨_,rfl⟩
        rw [←hcA] at x0 hck hbm hZ2
        rw [←hcB] at x1 hcm hbm hZ2
        obtain ⟨sA,hsA⟩:∃ s,s = L.vset nl cA:=⟨_,rfl⟩
        obtain ⟨sB,hsB⟩:∃ s,s = L.vset nl cB:=⟨_,rfl⟩
        rw [←hsA,←hsB] at hbm hZ2
        have hS4:∀ V,Ext w4 V→(V.cell? ⟨b2,o2+k,none⟩ = some (.int .i64 (cA:Nat))∧V.cell? ⟨b2,o2+m,none⟩ = some (.int .i64 (cB:Nat)))∧(V.cell? ⟨g,cA * 2,none⟩ = some (.int .u64 (lo sA))∧V.cell? ⟨g,cA * 2+1,none⟩ = some (.int .u64 (hi sA)))∧V.cell? ⟨g,cB * 2,none⟩ = some (.int .u64 (lo sB))∧V.cell? ⟨g,cB * 2+1,none⟩ = some (.int .u64 (hi sB)):=fun V hV=>by
         obtain ⟨⟨a0,a1⟩,-,-⟩:=(hsets.out.below hV.below).cell (j:=cA) (by omega)
         obtain ⟨⟨a2,a3⟩,-,-⟩:=(hsets.out.below hV.below).cell (j:=cB) (by omega)
         rw [hsA,hsB]
         exact ⟨⟨hV.cell x0,hV.cell x1⟩,⟨a0,a1⟩,a2,a3⟩
        have n0:(0:Int)≤(cA:Int):=by omega
        have n1:(cA:Int) < (nl.length:Int):=by omega
        have n2:(0:Int)≤(cB:Int):=by omega
        have n3:(cB:Int) < (nl.length:Int):=by omega
        have q:=qm.out sA sB
        have hE:=Lib.hid (hI.out.trans (Ext.refl wr).drew)
        replace hS4:=Lib.hid hS4
        replace hcA:=Lib.hid hcA
        replace hcB:=Lib.hid hcB
        replace hsA:=Lib.hid hsA
        replace hsB:=Lib.hid hsB
        clear x0 x1 hck hcm
        by_cases hz:sA &&& sB = 0
        ·have hZ3:=hZ2 hz
         rw [decide_eq_true hz] at q
         replace q:=Lib.hid q
         replace hz:=Lib.hid hz
         clear hbm hZ2
         go_wp2_with fail
         (refine wp_region_held_drew (S:=(fun V=>(V.cell? ⟨b2,o2+k,none⟩ = some (.int .i64 (cA:Nat))∧V.cell? ⟨b2,o2+m,none⟩ = some (.int .i64 (cB:Nat)))∧(V.cell? ⟨g,cA * 2,none⟩ = some (.int .u64 (lo sA))∧V.cell? ⟨g,cA * 2+1,none⟩ = some (.int .u64 (hi sA)))∧V.cell? ⟨g,cB * 2,none⟩ = some (.int .u64 (lo sB))∧V.cell? ⟨g,cB * 2+1,none⟩ = some (.int .u64 (hi sB)))) (by kernel_rfl) ?_ (fun hHeld=>?_))
         ·exact hS4.out _ hE.out
         (refine takeL (i:=0) (v:=?_) rfl (by kernel_rfl) (by kernel_rfl) (by kernel_rfl) (fun _ _ _ h=>h) (Or.inl ⟨by rfl,?_⟩) (by assumption) ?_)
         rotate_left
         ·(intro w hSw;(try dsimp only at hSw);go_simp;first | done | with_reducible rfl)
         (try simp only [Act.put,List.setIfInBounds_toArray,List.set_cons_zero,List.set_cons_succ])
         (refine takeL (i:=1) (v:=?_) rfl (by kernel_rfl) (by kernel_rfl) (by kernel_rfl) (fun _ _ _ h=>h) (Or.inl ⟨by rfl,?_⟩) (by assumption) ?_)
         rotate_left
         ·(intro w hSw;(try dsimp only at hSw);go_simp;first | done | with_reducible rfl)
         (try simp only [Act.put,List.setIfInBounds_toArray,List.set_cons_zero,List.set_cons_succ])
         (refine takeL (i:=2) (v:=?_) rfl (by kernel_rfl) (by kernel_rfl) (by kernel_rfl) (fun _ _ _ h=>h) (Or.inl ⟨by rfl,?_⟩) (by assumption) ?_)
         rotate_left
         ·(intro w hSw;(try dsimp only at hSw);go_simp;first | done | with_reducible rfl)
         (try simp only [Act.put,List.setIfInBounds_toArray,List.set_cons_zero,List.set_cons_succ])
         (refine takeL (i:=3) (v:=?_) rfl (by kernel_rfl) (by kernel_rfl) (by kernel_rfl) (fun _ _ _ h=>h) (Or.inl ⟨by rfl,?_⟩) (by assumption) ?_)
         rotate_left
         ·(intro w hSw;(try dsimp only at hSw);go_simp;first | done | with_reducible rfl)
         (try simp only [Act.put,List.setIfInBounds_toArray,List.set_cons_zero,List.set_cons_succ])
         (refine takeL (i:=4) (v:=?_) rfl (by kernel_rfl) (by kernel_rfl) (by kernel_rfl) (fun _ _ _ h=>h) (Or.inl ⟨by rfl,?_⟩) (by assumption) ?_)
         rotate_left
         ·(intro w hSw;(try dsimp only at hSw);obtain ⟨⟨s0,s1⟩,⟨s2,s3⟩,s4,s5⟩:=hSw;go_simp;first | done | with_reducible rfl)
         (try simp only [Act.put,List.setIfInBounds_toArray,List.set_cons_zero,List.set_cons_succ])
         (refine takeL (i:=5) (v:=?_) rfl (by kernel_rfl) (by kernel_rfl) (by kernel_rfl) (fun _ _ _ h=>h) (Or.inl ⟨by rfl,?_⟩) (by assumption) ?_)
         rotate_left
         ·(intro w hSw;(try dsimp only at hSw);go_simp;first | done | with_reducible rfl)
         (try simp only [Act.put,List.setIfInBounds_toArray,List.set_cons_zero,List.set_cons_succ])
         (refine takeL (i:=6) (v:=?_) rfl (by kernel_rfl) (by kernel_rfl) (by kernel_rfl) (fun _ _ _ h=>h) (Or.inl ⟨by rfl,?_⟩) (by assumption) ?_)
         rotate_left
         ·(intro w hSw;(try dsimp only at hSw);obtain ⟨⟨s0,s1⟩,⟨s2,s3⟩,s4,s5⟩:=hSw;go_simp;first | done | with_reducible rfl)
         (try simp only [Act.put,List.setIfInBounds_toArray,List.set_cons_zero,List.set_cons_succ])
         (refine takeL (i:=7) (v:=?_) rfl (by kernel_rfl) (by kernel_rfl) (by kernel_rfl) (fun _ _ _ h=>h) (Or.inl ⟨by rfl,?_⟩) (by assumption) ?_)
         rotate_left
         ·(intro w hSw;(try dsimp only at hSw);go_simp;first | done | with_reducible rfl)
         (try simp only [Act.put,List.setIfInBounds_toArray,List.set_cons_zero,List.set_cons_succ])
         (refine takeL (i:=8) (v:=?_) rfl (by kernel_rfl) (by kernel_rfl) (by kernel_rfl) (fun _ _ _ h=>h) (Or.inl ⟨by rfl,?_⟩) (by assumption) ?_)
         rotate_left
         ·(intro w hSw;(try dsimp only at hSw);go_simp;first | done | with_reducible rfl)
         (try simp only [Act.put,List.setIfInBounds_toArray,List.set_cons_zero,List.set_cons_succ])
         (refine takeL (i:=9) (v:=?_) rfl (by kernel_rfl) (by kernel_rfl) (by kernel_rfl) (fun _ _ _ h=>h) (Or.inl ⟨by rfl,?_⟩) (by assumption) ?_)
         rotate_left
         ·(intro w hSw;(try dsimp only at hSw);go_simp;first | done | with_reducible rfl)
         (try simp only [Act.put,List.setIfInBounds_toArray,List.set_cons_zero,List.set_cons_succ])
         (refine takeL (i:=10) (v:=?_) rfl (by kernel_rfl) (by kernel_rfl) (by kernel_rfl) (fun _ _ _ h=>h) (Or.inl ⟨by rfl,?_⟩) (by assumption) ?_)
         rotate_left
         ·(intro w hSw;(try dsimp only at hSw);go_simp;first | done | with_reducible rfl)
         (try simp only [Act.put,List.setIfInBounds_toArray,List.set_cons_zero,List.set_cons_succ])
         (refine takeL (i:=11) (v:=?_) rfl (by kernel_rfl) (by kernel_rfl) (by kernel_rfl) (fun _ _ _ h=>h) (Or.inl ⟨by rfl,?_⟩) (by assumption) ?_)
         rotate_left
         ·(intro w hSw;(try dsimp only at hSw);obtain ⟨⟨s0,s1⟩,⟨s2,s3⟩,s4,s5⟩:=hSw;go_simp;first | done | with_reducible rfl)
         (try simp only [Act.put,List.setIfInBounds_toArray,List.set_cons_zero,List.set_cons_succ])
         (refine takeL (i:=12) (v:=?_) rfl (by kernel_rfl) (by kernel_rfl) (by kernel_rfl) (fun _ _ _ h=>h) (Or.inl ⟨by rfl,?_⟩) (by assumption) ?_)
         rotate_left
         ·(intro w hSw;(try dsimp only at hSw);go_simp;first | done | with_reducible rfl)
         (try simp only [Act.put,List.setIfInBounds_toArray,List.set_cons_zero,List.set_cons_succ])
         (refine takeL (i:=13) (v:=?_) rfl (by kernel_rfl) (by kernel_rfl) (by kernel_rfl) (fun _ _ _ h=>h) (Or.inl ⟨by rfl,?_⟩) (by assumption) ?_)
         rotate_left
         ·(intro w hSw;(try dsimp only at hSw);obtain ⟨⟨s0,s1⟩,⟨s2,s3⟩,s4,s5⟩:=hSw;go_simp;first | done | with_reducible rfl)
         (try simp only [Act.put,List.setIfInBounds_toArray,List.set_cons_zero,List.set_cons_succ])
         (refine wpAnyH_ready (rs:=[14]) (by kernel_rfl) (by simp) ?_)
         (refine consL rfl (fun K hK=>?_))
         ((rw [if_pos (by rfl)]);go_simp;(go_at_call 72);refine (q.out _).mono ?_;rintro e w9 ⟨rfl,hx9⟩;have hE3:=Lib.hid (hE.out.trans hx9);refine hK.out _ _ (hS4.out _ hE3.out) (fun hHeld=>?_))
         (clear hK K)
         (try simp only [Act.put,List.setIfInBounds_toArray,List.set_cons_zero,List.set_cons_succ])
         (refine wpAnyH_done (by kernel_rfl) ?_ _)
         clear hHeld
         go_wp2_with fail
         go_roundw
         case rel=>exact ⟨m+1,by omega,by go_num,hE3,by
          have e:sA = L.vset nl ip[k]:=by rw [hsA.out,hcA.out]
          rw [←e];exact hZ3⟩
         case measure=>simp [intOf];omega
        ·have hr:=hbm hz
         rw [decide_eq_false hz] at q
         replace q:=Lib.hid q
         replace hz:=Lib.hid hz
         clear hbm hZ2
         go_wp2_with fail
         (refine wp_region_held_drew (S:=(fun V=>(V.cell? ⟨b2,o2+k,none⟩ = some (.int .i64 (cA:Nat))∧V.cell? ⟨b2,o2+m,none⟩ = some (.int .i64 (cB:Nat)))∧(V.cell? ⟨g,cA * 2,none⟩ = some (.int .u64 (lo sA))∧V.cell? ⟨g,cA * 2+1,none⟩ = some (.int .u64 (hi sA)))∧V.cell? ⟨g,cB * 2,none⟩ = some (.int .u64 (lo sB))∧V.cell? ⟨g,cB * 2+1,none⟩ = some (.int .u64 (hi sB)))) (by kernel_rfl) ?_ (fun hHeld=>?_))
         ·exact hS4.out _ hE.out
         (refine takeL (i:=0) (v:=?_) rfl (by kernel_rfl) (by kernel_rfl) (by kernel_rfl) (fun _ _ _ h=>h) (Or.inl ⟨by rfl,?_⟩) (by assumption) ?_)
         rotate_left
         ·(intro w hSw;(try dsimp only at hSw);go_simp;first | done | with_reducible rfl)
         (try simp only [Act.put,List.setIfInBounds_toArray,List.set_cons_zero,List.set_cons_succ])
         (refine takeL (i:=1) (v:=?_) rfl (by kernel_rfl) (by kernel_rfl) (by kernel_rfl) (fun _ _ _ h=>h) (Or.inl ⟨by rfl,?_⟩) (by assumption) ?_)
         rotate_left
         ·(intro w hSw;(try dsimp only at hSw);go_simp;first | done | with_reducible rfl)
         (try simp only [Act.put,List.setIfInBounds_toArray,List.set_cons_zero,List.set_cons_succ])
         (refine takeL (i:=2) (v:=?_) rfl (by kernel_rfl) (by kernel_rfl) (by kernel_rfl) (fun _ _ _ h=>h) (Or.inl ⟨by rfl,?_⟩) (by assumption) ?_)
         rotate_left
         ·(intro w hSw;(try dsimp only at hSw);go_simp;first | done | with_reducible rfl)
         (try simp only [Act.put,List.setIfInBounds_toArray,List.set_cons_zero,List.set_cons_succ])
         (refine takeL (i:=3) (v:=?_) rfl (by kernel_rfl) (by kernel_rfl) (by kernel_rfl) (fun _ _ _ h=>h) (Or.inl ⟨by rfl,?_⟩) (by assumption) ?_)
         rotate_left
         ·(intro w hSw;(try dsimp only at hSw);go_simp;first | done | with_reducible rfl)
         (try simp only [Act.put,List.setIfInBounds_toArray,List.set_cons_zero,List.set_cons_succ])
         (refine takeL (i:=4) (v:=?_) rfl (by kernel_rfl) (by kernel_rfl) (by kernel_rfl) (fun _ _ _ h=>h) (Or.inl ⟨by rfl,?_⟩) (by assumption) ?_)
         rotate_left
         ·(intro w hSw;(try dsimp only at hSw);obtain ⟨⟨s0,s1⟩,⟨s2,s3⟩,s4,s5⟩:=hSw;go_simp;first | done | with_reducible rfl)
         (try simp only [Act.put,List.setIfInBounds_toArray,List.set_cons_zero,List.set_cons_succ])
         (refine takeL (i:=5) (v:=?_) rfl (by kernel_rfl) (by kernel_rfl) (by kernel_rfl) (fun _ _ _ h=>h) (Or.inl ⟨by rfl,?_⟩) (by assumption) ?_)
         rotate_left
         ·(intro w hSw;(try dsimp only at hSw);go_simp;first | done | with_reducible rfl)
         (try simp only [Act.put,List.setIfInBounds_toArray,List.set_cons_zero,List.set_cons_succ])
         (refine takeL (i:=6) (v:=?_) rfl (by kernel_rfl) (by kernel_rfl) (by kernel_rfl) (fun _ _ _ h=>h) (Or.inl ⟨by rfl,?_⟩) (by assumption) ?_)
         rotate_left
         ·(intro w hSw;(try dsimp only at hSw);obtain ⟨⟨s0,s1⟩,⟨s2,s3⟩,s4,s5⟩:=hSw;go_simp;first | done | with_reducible rfl)
         (try simp only [Act.put,List.setIfInBounds_toArray,List.set_cons_zero,List.set_cons_succ])
         (refine takeL (i:=7) (v:=?_) rfl (by kernel_rfl) (by kernel_rfl) (by kernel_rfl) (fun _ _ _ h=>h) (Or.inl ⟨by rfl,?_⟩) (by assumption) ?_)
         rotate_left
         ·(intro w hSw;(try dsimp only at hSw);go_simp;first | done | with_reducible rfl)
         (try simp only [Act.put,List.setIfInBounds_toArray,List.set_cons_zero,List.set_cons_succ])
         (refine takeL (i:=8) (v:=?_) rfl (by kernel_rfl) (by kernel_rfl) (by kernel_rfl) (fun _ _ _ h=>h) (Or.inl ⟨by rfl,?_⟩) (by assumption) ?_)
         rotate_left
         ·(intro w hSw;(try dsimp only at hSw);go_simp;first | done | with_reducible rfl)
         (try simp only [Act.put,List.setIfInBounds_toArray,List.set_cons_zero,List.set_cons_succ])
         (refine takeL (i:=9) (v:=?_) rfl (by kernel_rfl) (by kernel_rfl) (by kernel_rfl) (fun _ _ _ h=>h) (Or.inl ⟨by rfl,?_⟩) (by assumption) ?_)
         rotate_left
         ·(intro w hSw;(try dsimp only at hSw);go_simp;first | done | with_reducible rfl)
         (try simp only [Act.put,List.setIfInBounds_toArray,List.set_cons_zero,List.set_cons_succ])
         (refine takeL (i:=10) (v:=?_) rfl (by kernel_rfl) (by kernel_rfl) (by kernel_rfl) (fun _ _ _ h=>h) (Or.inl ⟨by rfl,?_⟩) (by assumption) ?_)
         rotate_left
         ·(intro w hSw;(try dsimp only at hSw);go_simp;first | done | with_reducible rfl)
         (try simp only [Act.put,List.setIfInBounds_toArray,List.set_cons_zero,List.set_cons_succ])
         (refine takeL (i:=11) (v:=?_) rfl (by kernel_rfl) (by kernel_rfl) (by kernel_rfl) (fun _ _ _ h=>h) (Or.inl ⟨by rfl,?_⟩) (by assumption) ?_)
         rotate_left
         ·(intro w hSw;(try dsimp only at hSw);obtain ⟨⟨s0,s1⟩,⟨s2,s3⟩,s4,s5⟩:=hSw;go_simp;first | done | with_reducible rfl)
         (try simp only [Act.put,List.setIfInBounds_toArray,List.set_cons_zero,List.set_cons_succ])
         (refine takeL (i:=12) (v:=?_) rfl (by kernel_rfl) (by kernel_rfl) (by kernel_rfl) (fun _ _ _ h=>h) (Or.inl ⟨by rfl,?_⟩) (by assumption) ?_)
         rotate_left
         ·(intro w hSw;(try dsimp only at hSw);go_simp;first | done | with_reducible rfl)
         (try simp only [Act.put,List.setIfInBounds_toArray,List.set_cons_zero,List.set_cons_succ])
         (refine takeL (i:=13) (v:=?_) rfl (by kernel_rfl) (by kernel_rfl) (by kernel_rfl) (fun _ _ _ h=>h) (Or.inl ⟨by rfl,?_⟩) (by assumption) ?_)
         rotate_left
         ·(intro w hSw;(try dsimp only at hSw);obtain ⟨⟨s0,s1⟩,⟨s2,s3⟩,s4,s5⟩:=hSw;go_simp;first | done | with_reducible rfl)
         (try simp only [Act.put,List.setIfInBounds_toArray,List.set_cons_zero,List.set_cons_succ])
         (refine wpAnyH_ready (rs:=[14]) (by kernel_rfl) (by simp) ?_)
         (refine consL rfl (fun K hK=>?_))
         ((rw [if_pos (by rfl)]);go_simp;(go_at_call 72);refine (q.out _).mono ?_;rintro e w9 ⟨rfl,hx9⟩;have hE3:=Lib.hid (hE.out.trans hx9);refine hK.out _ _ (hS4.out _ hE3.out) (fun hHeld=>?_))
         (clear hK K)
         (try simp only [Act.put,List.setIfInBounds_toArray,List.set_cons_zero,List.set_cons_succ])
         (refine wpAnyH_done (by kernel_rfl) ?_ _)
         clear hHeld
         go_wp2_with fail
         go_ret
         exact ⟨by rw [hr.out] <;> rfl,hX4.out.trans (hE3.out.below.mono hX4.out.size)⟩
       ·obtain rfl:m = k:=by omega
        have dm:decide ((m:Int) < (m:Int)) = false:=decide_eq_false (by omega)
        have hnx2:=hM2.out fun m1 hm1=>hZ.out m1 hm1 hm1
        go_wp2_with fail
        go_roundw
        case rel=>exact ⟨m+1,by omega,by go_num,hI,hnx2⟩
        case measure=>simp [intOf];omega
     ·have d3:(kd == 3) = false:=beq_eq_false_iff_ne.2 h3
      have hnx2:=hnx.out (fun e=>absurd e h3)
      replace h3:=Lib.hid h3
      go_wp2_with fail
      go_roundw
      case rel=>exact ⟨i+1,by omega,by go_num,hI,hnx2⟩
      case measure=>simp [intOf];omega
    ·obtain rfl:k = ip.length:=by omega
     have dk2:decide ((ip.length:Int) < (ip.length:Int)) = false:=decide_eq_false (by omega)
     have hnx2:=hnx.out (fun e k1 hk1 m hm=>hM.out e k1 hk1 hk1 m hm)
     go_wp2_with fail
     go_roundw
     case rel=>exact ⟨i+1,by omega,by go_num,hI,hnx2⟩
     case measure=>simp [intOf];omega
  ·obtain rfl:i = nl.length:=by omega
   have dk:decide ((nl.length:Int) < (nl.length:Int)) = false:=decide_eq_false (by omega)
   have hr:=Lib.hid (hgood.out fun j hj=>hN.out j hj hj)
   go_wp2_with fail
   go_ret
   exact ⟨by rw [hr.out] <;> rfl,hX4.out.trans (hI.out.below.mono hX4.out.size)⟩
end Go.Proofs.YtckhohpbokojdaaGreatDoor
