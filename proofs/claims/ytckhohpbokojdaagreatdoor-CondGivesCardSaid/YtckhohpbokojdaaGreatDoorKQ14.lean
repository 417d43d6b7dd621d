import Derived.Test.YtckhohpbokojdaaGreatDoorKN38
import Derived.Test.YtckhohpbokojdaaGreatDoorKN40
set_option linter.unusedSimpArgs false
set_option linter.unusedVariables false
namespace Go.Proofs.YtckhohpbokojdaaGreatDoor
open Go Go.RowKit Go.Shelf
theorem SlI.nilC (w:World):SlI w (.slice none 0 0) (castL []):=⟨none,0,rfl,.inl ⟨rfl,rfl,rfl⟩⟩
theorem giv_chk {n:Int} {nl:List L.ND} (hc:L.netChk n (nl.map L.ofND) = 0) (t:List Int):L.netChk n ((nl.map (L.givND t)).map L.ofND) = 0:=by
 obtain ⟨h1,h2,h3,h4⟩:=nok_of hc
 have hp:1≤nl.length:=List.length_pos_iff.2 h2
 exact L.nok_net (L.map_nok h1 (L.givND t) (L.givND_or t)) h3 (by rw [List.length_map];exact ⟨hp,h4⟩)
set_option maxRecDepth 100000 in
set_option maxHeartbeats 4000000 in
theorem rgiven_bad {n:Int} {C:List L.Gt} {t:List Int} {v tv:Value} {w:World} (hv:SlC w v C) (hc:L.netChk n C≠0) (hl:C.length≤9223372036854775807) (h2:∀ g∈C,g.inp.length≤9223372036854775807) (ht:SlI w tv t) :
  Calls Tryz.prog 14 #[.agg #[.int .i64 n,v],tv] w fun e w'=>e = .returned (.tuple #[.agg #[.int .i64 0,.slice none 0 0],.int .i64 1])∧Below w.heap.size w w':=by
 have q1:=fun (W:World) (hW:Ext w W)=>rvalid20_any (n:=n) (hv.ext hW.below) h2 hl
 rw [decide_eq_false hc] at q1
 obtain ⟨ba,cp,rfl,-⟩:=hv.shape
 obtain ⟨tb,tc,rfl,-⟩:=ht.shape
 clear hv hc h2 ht
 generalize C.length = m at *
 have hx2:Ext w ((w.alloc (.cells #[.int .i64 n,.slice ba m cp] 24)).alloc (.cells #[.int .i64 0,.slice none 0 0] 24)):=((Ext.refl w).alloc _).alloc _
 obtain ⟨e0,e1⟩:=alloc2h w (.cells #[.int .i64 n,.slice ba m cp] 24) (.cells #[.int .i64 0,.slice none 0 0] 24)
 have p0:((w.alloc (.cells #[.int .i64 n,.slice ba m cp] 24)).alloc (.cells #[.int .i64 0,.slice none 0 0] 24)).cell? ⟨w.heap.size,0,none⟩ = some (.int .i64 n):=by rw [World.cell?,e0];rfl
 have p1:((w.alloc (.cells #[.int .i64 n,.slice ba m cp] 24)).alloc (.cells #[.int .i64 0,.slice none 0 0] 24)).cell? ⟨w.heap.size,1,none⟩ = some (.slice ba m cp):=by rw [World.cell?,e0];rfl
 have q2:=q1 _ hx2
 replace e0:=Lib.hid e0
 replace hx2:=Lib.hid hx2
 clear q1
 go_enter Tryz.func14,Tryz.ntmps14
 go_wp2_with fail
 refine q2.mono ?_
 rintro e w3 ⟨rfl,hx3⟩
 have hz:=(hx3.below.block _ (Array.getElem?_eq_some_iff.1 e1).1).trans e1
 have z0:w3.cell? ⟨w.heap.size+1,0,none⟩ = some (.int .i64 0):=by rw [World.cell?,hz];rfl
 have z1:w3.cell? ⟨w.heap.size+1,1,none⟩ = some (.slice none 0 0):=by rw [World.cell?,hz];rfl
 have y0:w3.frozen? ⟨w.heap.size+1,0,none⟩ = false:=by simp [World.frozen?,hz]
 have y1:w3.frozen? ⟨w.heap.size+1,1,none⟩ = false:=by simp [World.frozen?,hz]
 obtain ⟨t0,t1⟩:=box2_set hz (.int .i64 0) (.slice none 0 0)
 have hfin:=Lib.hid (((hx2.out.trans hx3).below.setCell (p:=⟨w.heap.size+1,0,none⟩) (Nat.le_succ _) (.int .i64 0)).setCell (p:=⟨w.heap.size+1,1,none⟩) (Nat.le_succ _) (.slice none 0 0))
 replace t0:=Lib.hid t0
 replace t1:=Lib.hid t1
 clear q2 hz p0 p1 e1
 go_wp2_with fail
 exact bodyPost_ret (v:=.tuple #[.agg #[.int .i64 0,.slice none 0 0],.int .i64 1]) (by simp [results,Tryz.results14,go_sem,t0.out,t1.out]) rfl ⟨rfl,hfin.out⟩
set_option maxRecDepth 100000 in
set_option maxHeartbeats 4000000 in
theorem rgiven_no {n:Int} {C:List L.Gt} {t:List Int} {v tv:Value} {w:World} (hv:SlC w v C) (hc:L.netChk n C = 0) (hl:C.length≤9223372036854775807) (h2:∀ g∈C,g.inp.length≤9223372036854775807) (ht:SlI w tv t) (htl:t.length≤1048576) (hno:¬ L.TermL n t) :
  Calls Tryz.prog 14 #[.agg #[.int .i64 n,v],tv] w fun e w'=>e = .returned (.tuple #[.agg #[.int .i64 0,.slice none 0 0],.int .i64 1])∧Below w.heap.size w w':=by
 obtain ⟨hn,-⟩:=L.netChk_ok.1 hc
 have q1:=fun (W:World) (hW:Ext w W)=>rvalid20_any (n:=n) (hv.ext hW.below) h2 hl
 rw [decide_eq_true hc] at q1
 have qt:=fun (W:World) (hW:Ext w W)=>term05_any (B:=false) (n:=n) (t:=t) ⟨fun e=>(by cases e),fun e=>absurd e hno⟩ hn.1 hn.2 (ht.ext hW.below) htl
 obtain ⟨ba,cp,rfl,-⟩:=hv.shape
 obtain ⟨tb,tc,rfl,-⟩:=ht.shape
 clear hv hc h2 ht
 generalize C.length = m at *
 generalize t.length = tm at *
 have hx2:Ext w ((w.alloc (.cells #[.int .i64 n,.slice ba m cp] 24)).alloc (.cells #[.int .i64 0,.slice none 0 0] 24)):=((Ext.refl w).alloc _).alloc _
 obtain ⟨e0,e1⟩:=alloc2h w (.cells #[.int .i64 n,.slice ba m cp] 24) (.cells #[.int .i64 0,.slice none 0 0] 24)
 have p0:((w.alloc (.cells #[.int .i64 n,.slice ba m cp] 24)).alloc (.cells #[.int .i64 0,.slice none 0 0] 24)).cell? ⟨w.heap.size,0,none⟩ = some (.int .i64 n):=by rw [World.cell?,e0];rfl
 have p1:((w.alloc (.cells #[.int .i64 n,.slice ba m cp] 24)).alloc (.cells #[.int .i64 0,.slice none 0 0] 24)).cell? ⟨w.heap.size,1,none⟩ = some (.slice ba m cp):=by rw [World.cell?,e0];rfl
 have q2:=q1 _ hx2
 replace e0:=Lib.hid e0
 replace hx2:=Lib.hid hx2
 replace qt:=Lib.hid qt
 clear q1 hno
 go_enter Tryz.func14,Tryz.ntmps14
 go_wp2_with fail
 refine q2.mono ?_
 rintro e w3 ⟨rfl,hx3⟩
 have hz:=(hx3.below.block _ (Array.getElem?_eq_some_iff.1 e1).1).trans e1
 have z0:w3.cell? ⟨w.heap.size+1,0,none⟩ = some (.int .i64 0):=by rw [World.cell?,hz];rfl
 have z1:w3.cell? ⟨w.heap.size+1,1,none⟩ = some (.slice none 0 0):=by rw [World.cell?,hz];rfl
 have y0:w3.frozen? ⟨w.heap.size+1,0,none⟩ = false:=by simp [World.frozen?,hz]
 have y1:w3.frozen? ⟨w.heap.size+1,1,none⟩ = false:=by simp [World.frozen?,hz]
 obtain ⟨t0,t1⟩:=box2_set hz (.int .i64 0) (.slice none 0 0)
 have hx03:=hx2.out.trans hx3
 have q3:=qt.out _ hx03
 have p0':=hx3.cell p0
 have hfin:=Lib.hid ((hx03.below.setCell (p:=⟨w.heap.size+1,0,none⟩) (Nat.le_succ _) (.int .i64 0)).setCell (p:=⟨w.heap.size+1,1,none⟩) (Nat.le_succ _) (.slice none 0 0))
 replace t0:=Lib.hid t0
 replace t1:=Lib.hid t1
 clear q2 hz p0 p1 e1 hx03
 go_wp2_with fail
 refine q3.mono ?_
 rintro e w3 ⟨rfl,rfl⟩
 clear q3
 go_wp2_with fail
 exact bodyPost_ret (v:=.tuple #[.agg #[.int .i64 0,.slice none 0 0],.int .i64 1]) (by simp [results,Tryz.results14,go_sem,t0.out,t1.out]) rfl ⟨rfl,hfin.out⟩
set_option maxRecDepth 100000 in
set_option maxHeartbeats 3000000 in
theorem rgiven_ok {n:Int} {nl:List L.ND} {t:List Int} {v tv:Value} {w:World} (hv:SlC w v (nl.map L.ofND)) (hc:L.netChk n (nl.map L.ofND) = 0) (hl:nl.length≤2000) (h2:∀ y∈nl,y.inp.length≤400) (ht:SlI w tv t) (htl:t.length≤1048576) (hT:L.TermL n t) :
  Calls Tryz.prog 14 #[.agg #[.int .i64 n,v],tv] w fun e w'=>∃ vL,e = .returned (.tuple #[.agg #[.int .i64 n,vL],.int .i64 0])∧SlC w' vL ((L.reduceL (nl.map (L.givND t))).map L.ofND)∧Below w.heap.size w w':=by
 obtain ⟨hn,-⟩:=L.netChk_ok.1 hc
 have q1:=fun (W:World) (hW:Ext w W)=>rvalid20_any (n:=n) (hv.ext hW.below) (fun g hg=>by
  obtain ⟨y,hy,rfl⟩:=List.mem_map.1 hg
  have:=h2 y hy
  have e:(L.ofND y).inp.length = y.inp.length:=castL_len y.inp
  omega) (by rw [List.length_map];omega)
 rw [decide_eq_true hc] at q1
 have qt:=fun (W:World) (hW:Ext w W)=>term05_any (B:=true) (n:=n) (t:=t) ⟨fun _=>hT,fun _=>rfl⟩ hn.1 hn.2 (ht.ext hW.below) htl
 have qin:=fun (W:World) (hW:Below w.heap.size w W) (x:Int)=>in35_any x (ht.ext hW) (by omega)
 have hnok:L.NOK n nl:=by
  have:=(L.net_nok hc).1
  rwa [List.map_map,show (L.toND ∘ L.ofND) = id from funext L.toND_ofND,List.map_id] at this
 have hcG:=giv_chk hc t
 have hlitr:∀ y∈nl,-n≤y.lit∧y.lit≤n:=fun y hy=>by
  rcases hnok.form y hy with h | h | h <;> omega
 have hlen:(nl.map (L.givND t)).length≤2000:=by rw [List.length_map];exact hl
 have hig:∀ y∈nl.map (L.givND t),y.inp.length≤400:=fun y hy=>by
  obtain ⟨z,hz,rfl⟩:=List.mem_map.1 hy
  rcases L.givND_or t z with e | ⟨-,-,e⟩
  ·rw [e];exact h2 z hz
  ·rw [e];simp
 obtain ⟨ba,cp,rfl,hcell⟩:=slC_nd hv
 obtain ⟨tb,tc,rfl,-⟩:=ht.shape
 obtain ⟨GF,hGF⟩:∃ GF,GF = L.givND t:=⟨_,rfl⟩
 obtain ⟨iv,hiv,hzv,hsv,hbv⟩:=info_parts nd_info
 rw [←hGF] at hcG hlen hig ⊢
 have hG0:∀ y,y.kind≠2→GF y = y:=fun y h=>by rw [hGF];unfold L.givND;rw [if_neg h]
 have hG1:∀ y,y.kind = 2→y.lit∈t→GF y = ⟨1,0,[]⟩:=fun y h h2=>by rw [hGF];unfold L.givND;rw [if_pos h,if_pos h2]
 have hG2:∀ y,y.kind = 2→y.lit∉t→-y.lit∈t→GF y = ⟨0,0,[]⟩:=fun y h h2 h3=>by rw [hGF];unfold L.givND;rw [if_pos h,if_neg h2,if_pos h3]
 have hG3:∀ y,y.kind = 2→y.lit∉t→-y.lit∉t→GF y = y:=fun y h h2 h3=>by rw [hGF];unfold L.givND;rw [if_pos h,if_neg h2,if_neg h3]
 (try simp only [List.length_map] at q1)
 obtain ⟨m,hm⟩:∃ m,m = nl.length:=⟨_,rfl⟩
 obtain ⟨tm,htm⟩:∃ x,x = t.length:=⟨_,rfl⟩
 (try simp only [←hm,←htm] at q1)
 (try simp only [←hm,←htm] at qt)
 (try simp only [←hm,←htm] at qin)
 (try simp only [←hm,←htm])
 have hx2:Ext w ((w.alloc (.cells #[.int .i64 n,.slice ba m cp] 24)).alloc (.cells #[.int .i64 0,.slice none 0 0] 24)):=((Ext.refl w).alloc _).alloc _
 obtain ⟨e0,e1⟩:=alloc2h w (.cells #[.int .i64 n,.slice ba m cp] 24) (.cells #[.int .i64 0,.slice none 0 0] 24)
 have p0:((w.alloc (.cells #[.int .i64 n,.slice ba m cp] 24)).alloc (.cells #[.int .i64 0,.slice none 0 0] 24)).cell? ⟨w.heap.size,0,none⟩ = some (.int .i64 n):=by rw [World.cell?,e0];rfl
 have p1:((w.alloc (.cells #[.int .i64 n,.slice ba m cp] 24)).alloc (.cells #[.int .i64 0,.slice none 0 0] 24)).cell? ⟨w.heap.size,1,none⟩ = some (.slice ba m cp):=by rw [World.cell?,e0];rfl
 have q2:=q1 _ hx2
 replace hm:=Lib.hid hm
 replace htm:=Lib.hid htm
 replace e0:=Lib.hid e0
 replace e1:=Lib.hid e1
 replace hx2:=Lib.hid hx2
 replace qt:=Lib.hid qt
 replace qin:=Lib.hid qin
 replace hT:=Lib.hid hT
 replace hcell:=Lib.hid hcell
 replace hGF:=Lib.hid hGF
 replace hcG:=Lib.hid hcG
 replace hig:=Lib.hid hig
 replace hlitr:=Lib.hid hlitr
 replace hnok:=Lib.hid hnok
 replace h2:=Lib.hid h2
 replace hlen:=Lib.hid hlen
 replace hG0:=Lib.hid hG0
 replace hG1:=Lib.hid hG1
 replace hG2:=Lib.hid hG2
 replace hG3:=Lib.hid hG3
 clear q1 hc hv ht
 go_enter Tryz.func14,Tryz.ntmps14
 go_wp2_with fail
 refine q2.mono ?_
 rintro e w3 ⟨rfl,hx3⟩
 have hx03:=hx2.out.trans hx3
 have hz3:=(hx3.below.block _ (Array.getElem?_eq_some_iff.1 e1.out).1).trans e1.out
 have p0':=hx3.cell p0
 have p1':=hx3.cell p1
 have q3:=qt.out _ hx03
 have hs3:w.heap.size+2≤w3.heap.size:=by have:=hx3.size;simp at this;omega
 replace hx03:=Lib.hid hx03
 replace hz3:=Lib.hid hz3
 clear q2 hx3 p0 p1 e0 e1 hx2
 go_wp2_with fail
 refine q3.mono ?_
 rintro e w3' ⟨rfl,rfl⟩
 clear q3
 have hxO:=(Ext.refl w3).alloc (.cells #[.int .i64 n,.slice none 0 0] 24)
 have hnO:=heap_alloc_new w3 (.cells #[.int .i64 n,.slice none 0 0] 24)
 have hJ0:Hid (OutL w3 w3.heap.size w3.heap.size n ((nl.take 0).map GF) (.slice none 0 0) [] (w3.alloc (.cells #[.int .i64 n,.slice none 0 0] 24))):=Lib.hid ⟨hxO.below,hnO,⟨rfl,.inl ⟨rfl,rfl⟩⟩,⟨rfl,fun i hi=>absurd hi (Nat.not_lt_zero _)⟩,Nat.le_refl _,Nat.le_refl _,hxO.below.size⟩
 have hnet:Hid (∀ V,Below w3.heap.size w3 V→V.cell? ⟨w.heap.size,1,none⟩ = some (.slice ba m cp)):=Lib.hid fun V hV=>(hV.cell (World.block_lt_of_cell? w3 _ p1')).trans p1'
 have p1'':=hxO.cell p1'
 clear hxO hnO
 go_wp2_with fail
 obtain ⟨ob,hob⟩:∃ ob,ob = w3.heap.size:=⟨_,rfl⟩
 obtain ⟨b0,hb0⟩:∃ b0,b0 = w3.heap.size:=⟨_,rfl⟩
 have hJ1:Hid (OutL w3 ob b0 n ((nl.take 0).map GF) (.slice none 0 0) [] (w3.alloc (.cells #[.int .i64 n,.slice none 0 0] 24))):=by rw [hob,hb0];exact hJ0
 simp only [←hob]
 clear hJ0 p0' p1' p1''
 generalize (w3.alloc (.cells #[.int .i64 n,.slice none 0 0] 24)) = w5 at *
 replace hob:=Lib.hid hob
 replace hb0:=Lib.hid hb0
 go_loopw [7] (fun i wr=>∃ (k:Nat) (vO:Value) (us':List Value),k≤nl.length∧i = .int .i64 (k:Nat)∧Hid (OutL w3 ob b0 n ((nl.take k).map GF) vO us' wr)) (fun i _=>nl.length - (intOf i).toNat)
 case atStart=>exact ⟨0,_,_,Nat.zero_le _,rfl,hJ1⟩
 case round =>
  clear hJ1
  obtain ⟨i,vO,us',hi,rfl,hJ⟩:=hrel
  have pn:=hnet.out _ hJ.out.1
  have hol:Hid (((nl.take i).map GF).length = i):=Lib.hid (by rw [List.length_map,List.length_take];omega)
  obtain ⟨o,ho⟩:∃ o,o = (nl.take i).map GF:=⟨_,rfl⟩
  rw [←ho] at hol hJ
  obtain ⟨bO,cO,hvO⟩:=hJ.out.cells.2.2
  rw [hol.out] at hvO
  subst hvO
  by_cases hlt:i < nl.length
  ·have q0:(0:Int)≤(i:Int):=by omega
   have q1:(i:Int) < (m:Int):=by have:=hm.out;omega
   have di:decide ((i:Int) < (m:Int)) = true:=decide_eq_true q1
   obtain ⟨b,o',bb,cc,rfl,f0,f1,f2,fin⟩:=hcell.out i hlt
   have hxw:∀ V,Below w3.heap.size w3 V→Below w.heap.size w V:=fun V hV=>hx03.out.below.trans (hV.mono (by omega))
   have k0:=((hxw _ hJ.out.1).cell (World.block_lt_of_cell? w _ f0)).trans f0
   have k1:=((hxw _ hJ.out.1).cell (World.block_lt_of_cell? w _ f1)).trans f1
   have k2:=((hxw _ hJ.out.1).cell (World.block_lt_of_cell? w _ f2)).trans f2
   have hsu:=Lib.hid (fin.ext (hxw _ (Below.refl _ _)))
   have hnx0:(nl.take (i+1)).map GF = o++[GF nl[i]]:=by rw [List.take_succ_eq_append_getElem hlt,List.map_append,ho];rfl
   have hg0:=hG0.out nl[i]
   have hg1:=hG1.out nl[i]
   have hg2:=hG2.out nl[i]
   have hg3:=hG3.out nl[i]
   have hr1:=hlitr.out _ (List.getElem_mem hlt)
   generalize GF nl[i] = gy at *
   generalize nl[i] = y at *
   obtain ⟨kd,lt,ip⟩:=y
   dsimp only at *
   rename World=>wr
   replace hxw:=Lib.hid hxw
   replace ho:=Lib.hid ho
   have hob':Hid (b0 = w3.heap.size):=hb0
   clear f0 f1 f2 fin
   by_cases hk:kd = 2
   ·subst hk
    have dk:((2:Int) == 2) = true:=rfl
    have wn1:IntKind.i64.wrap (-lt) = -lt:=IntWalk.i64_in _ (by omega)
    have wn2:wrap64 (-lt) = -lt:=by unfold wrap64;omega
    have hbx:=hxw.out (wr.alloc (.cells #[.int .i64 2,.int .i64 lt,.slice bb ip.length cc] 40)) (hJ.out.1.alloc hJ.out.1.size _)
    replace hr1:=Lib.hid hr1
    by_cases hm1:lt∈t
    ·have e1:=hg1 rfl hm1
     subst e1
     have hnx:=Lib.hid hnx0
     have dm:decide (lt∈t) = true:=decide_eq_true hm1
     replace hm1:=Lib.hid hm1
     clear hg0 hg1 hg2 hg3 hnx0
     have hxa:=(Ext.refl wr).alloc (.cells #[.int .i64 1,.int .i64 0,.slice none 0 0] 40)
     have hna:=heap_alloc_new wr (.cells #[.int .i64 1,.int .i64 0,.slice none 0 0] 40)
     obtain ⟨⟨x0,x1,x2⟩,-⟩:=bx3q hna
     have hJa:=hJ.out.next hxa.below
     have hxb:=(Ext.refl (wr.alloc (.cells #[.int .i64 1,.int .i64 0,.slice none 0 0] 40))).alloc (.cells #[.int .i64 1,.int .i64 0,.slice none 0 0] 40)
     have hnb:=heap_alloc_new (wr.alloc (.cells #[.int .i64 1,.int .i64 0,.slice none 0 0] 40)) (.cells #[.int .i64 1,.int .i64 0,.slice none 0 0] 40)
     rw [show ((wr.alloc (.cells #[.int .i64 1,.int .i64 0,.slice none 0 0] 40))).heap.size = wr.heap.size+1 from by simp] at hnb
     have hca:=Lib.hid (World.news_of_block (cs:=#[.int .i64 1,.int .i64 0,.slice none 0 0]) (t:=40) (fr:=(0,0)) hnb)
     have hJb:=hJa.next hxb.below
     obtain ⟨-,n1,-⟩:=hJa.cells
     obtain ⟨-,n2,-⟩:=hJb.cells
     have hpush:=Lib.hid fun v6 w6 ho hg=>hJb.push (y:=⟨1,0,[]⟩) (u:=.slice none 0 0) (v6:=v6) (w6:=w6) (SlI.nilC w3) ho hg
     have hsz7:b0≤((wr.alloc (.cells #[.int .i64 1,.int .i64 0,.slice none 0 0] 40)).alloc (.cells #[.int .i64 1,.int .i64 0,.slice none 0 0] 40)).heap.size:=hJb.2.2.2.2.2.2
     replace hJb:=Lib.hid hJb
     replace hJa:=Lib.hid hJa
     clear hxa hna hxb hnb
     go_wp2_with (first | (go_at_call 42;refine (qin.out _ hbx _).mono ?_;rintro e w' ⟨rfl,rfl⟩) | (at_builtin;refine wpList_append_own _ rfl _ _ 22 rfl b0 40 iv _ 3 40 Tryz.underlying22 hiv hzv hsv hbv rfl (by decide) _ i (gCells (o.map L.ofND) us') rfl (by have:=hJb.out.2.2.1;rwa [hol.out] at this) ⟨wr.heap.size+1,0,none⟩ 1 1 [.int .i64 1,.int .i64 0,.slice none 0 0] rfl rfl hca.out (by simp [Value.oneCell']) (by unfold maxLen;omega) (by omega) hsz7 ?_;intro v6 w6 ho6 hg6 _;obtain ⟨⟨g6,cp6,rfl⟩,n6,nf6,hJ8⟩:=hpush.out _ _ (by rw [hol.out];exact ho6) hg6;replace hJ8:Hid (OutL w3 ob b0 n ((nl.take (i+1)).map GF) _ _ _):=Lib.hid (by rw [hnx.out];exact hJ8);clear ho6 hg6))
     go_roundw
     case rel=>exact ⟨i+1,_,_,by omega,by go_num,hJ8⟩
     case measure=>simp [intOf];omega
    ·by_cases hm2:-lt∈t
     ·have e1:=hg2 rfl hm1 hm2
      subst e1
      have hnx:=Lib.hid hnx0
      have dm:decide (lt∈t) = false:=decide_eq_false hm1
      have dm2:decide (-lt∈t) = true:=decide_eq_true hm2
      replace hm1:=Lib.hid hm1
      replace hm2:=Lib.hid hm2
      clear hg0 hg1 hg2 hg3 hnx0
      have hxa:=(Ext.refl wr).alloc (.cells #[.int .i64 0,.int .i64 0,.slice none 0 0] 40)
      have hna:=heap_alloc_new wr (.cells #[.int .i64 0,.int .i64 0,.slice none 0 0] 40)
      obtain ⟨⟨x0,x1,x2⟩,-⟩:=bx3q hna
      have hJa:=hJ.out.next hxa.below
      have hxb:=(Ext.refl (wr.alloc (.cells #[.int .i64 0,.int .i64 0,.slice none 0 0] 40))).alloc (.cells #[.int .i64 0,.int .i64 0,.slice none 0 0] 40)
      have hnb:=heap_alloc_new (wr.alloc (.cells #[.int .i64 0,.int .i64 0,.slice none 0 0] 40)) (.cells #[.int .i64 0,.int .i64 0,.slice none 0 0] 40)
      rw [show ((wr.alloc (.cells #[.int .i64 0,.int .i64 0,.slice none 0 0] 40))).heap.size = wr.heap.size+1 from by simp] at hnb
      have hca:=Lib.hid (World.news_of_block (cs:=#[.int .i64 0,.int .i64 0,.slice none 0 0]) (t:=40) (fr:=(0,0)) hnb)
      have hJb:=hJa.next hxb.below
      obtain ⟨-,n1,-⟩:=hJa.cells
      obtain ⟨-,n2,-⟩:=hJb.cells
      have hpush:=Lib.hid fun v6 w6 ho hg=>hJb.push (y:=⟨0,0,[]⟩) (u:=.slice none 0 0) (v6:=v6) (w6:=w6) (SlI.nilC w3) ho hg
      have hsz7:b0≤((wr.alloc (.cells #[.int .i64 0,.int .i64 0,.slice none 0 0] 40)).alloc (.cells #[.int .i64 0,.int .i64 0,.slice none 0 0] 40)).heap.size:=hJb.2.2.2.2.2.2
      replace hJb:=Lib.hid hJb
      replace hJa:=Lib.hid hJa
      clear hxa hna hxb hnb
      go_wp2_with (first | (go_at_call 42;refine (qin.out _ hbx _).mono ?_;rintro e w' ⟨rfl,rfl⟩) | (at_builtin;refine wpList_append_own _ rfl _ _ 22 rfl b0 40 iv _ 3 40 Tryz.underlying22 hiv hzv hsv hbv rfl (by decide) _ i (gCells (o.map L.ofND) us') rfl (by have:=hJb.out.2.2.1;rwa [hol.out] at this) ⟨wr.heap.size+1,0,none⟩ 1 1 [.int .i64 0,.int .i64 0,.slice none 0 0] rfl rfl hca.out (by simp [Value.oneCell']) (by unfold maxLen;omega) (by omega) hsz7 ?_;intro v6 w6 ho6 hg6 _;obtain ⟨⟨g6,cp6,rfl⟩,n6,nf6,hJ8⟩:=hpush.out _ _ (by rw [hol.out];exact ho6) hg6;replace hJ8:Hid (OutL w3 ob b0 n ((nl.take (i+1)).map GF) _ _ _):=Lib.hid (by rw [hnx.out];exact hJ8);clear ho6 hg6))
      go_roundw
      case rel=>exact ⟨i+1,_,_,by omega,by go_num,hJ8⟩
      case measure=>simp [intOf];omega
     ·have e1:=hg3 rfl hm1 hm2
      subst e1
      have hnx:=Lib.hid hnx0
      have dm:decide (lt∈t) = false:=decide_eq_false hm1
      have dm2:decide (-lt∈t) = false:=decide_eq_false hm2
      replace hm1:=Lib.hid hm1
      replace hm2:=Lib.hid hm2
      clear hg0 hg1 hg2 hg3 hnx0
      have hxa:=(Ext.refl wr).alloc (.cells #[.int .i64 2,.int .i64 lt,.slice bb ip.length cc] 40)
      have hna:=heap_alloc_new wr (.cells #[.int .i64 2,.int .i64 lt,.slice bb ip.length cc] 40)
      obtain ⟨⟨x0,x1,x2⟩,-⟩:=bx3q hna
      have hJa:=hJ.out.next hxa.below
      have hxb:=(Ext.refl (wr.alloc (.cells #[.int .i64 2,.int .i64 lt,.slice bb ip.length cc] 40))).alloc (.cells #[.int .i64 2,.int .i64 lt,.slice bb ip.length cc] 40)
      have hnb:=heap_alloc_new (wr.alloc (.cells #[.int .i64 2,.int .i64 lt,.slice bb ip.length cc] 40)) (.cells #[.int .i64 2,.int .i64 lt,.slice bb ip.length cc] 40)
      rw [show ((wr.alloc (.cells #[.int .i64 2,.int .i64 lt,.slice bb ip.length cc] 40))).heap.size = wr.heap.size+1 from by simp] at hnb
      have hca:=Lib.hid (World.news_of_block (cs:=#[.int .i64 2,.int .i64 lt,.slice bb ip.length cc]) (t:=40) (fr:=(0,0)) hnb)
      have hJb:=hJa.next hxb.below
      obtain ⟨-,n1,-⟩:=hJa.cells
      obtain ⟨-,n2,-⟩:=hJb.cells
      have hpush:=Lib.hid fun v6 w6 ho hg=>hJb.push (y:=⟨2,lt,ip⟩) (u:=.slice bb ip.length cc) (v6:=v6) (w6:=w6) hsu.out ho hg
      have hsz7:b0≤((wr.alloc (.cells #[.int .i64 2,.int .i64 lt,.slice bb ip.length cc] 40)).alloc (.cells #[.int .i64 2,.int .i64 lt,.slice bb ip.length cc] 40)).heap.size:=hJb.2.2.2.2.2.2
      replace hJb:=Lib.hid hJb
      replace hJa:=Lib.hid hJa
      clear hxa hna hxb hnb
      go_wp2_with (first | (go_at_call 42;refine (qin.out _ hbx _).mono ?_;rintro e w' ⟨rfl,rfl⟩) | (at_builtin;refine wpList_append_own _ rfl _ _ 22 rfl b0 40 iv _ 3 40 Tryz.underlying22 hiv hzv hsv hbv rfl (by decide) _ i (gCells (o.map L.ofND) us') rfl (by have:=hJb.out.2.2.1;rwa [hol.out] at this) ⟨wr.heap.size+1,0,none⟩ 1 1 [.int .i64 2,.int .i64 lt,.slice bb ip.length cc] rfl rfl hca.out (by simp [Value.oneCell']) (by unfold maxLen;omega) (by omega) hsz7 ?_;intro v6 w6 ho6 hg6 _;obtain ⟨⟨g6,cp6,rfl⟩,n6,nf6,hJ8⟩:=hpush.out _ _ (by rw [hol.out];exact ho6) hg6;replace hJ8:Hid (OutL w3 ob b0 n ((nl.take (i+1)).map GF) _ _ _):=Lib.hid (by rw [hnx.out];exact hJ8);clear ho6 hg6))
      go_roundw
      case rel=>exact ⟨i+1,_,_,by omega,by go_num,hJ8⟩
      case measure=>simp [intOf];omega
   ·have dk:(kd == 2) = false:=beq_eq_false_iff_ne.2 hk
    have e1:=hg0 hk
    subst e1
    have hnx:=Lib.hid hnx0
    replace hk:=Lib.hid hk
    clear hg0 hg1 hg2 hg3 hnx0
    have hxa:=(Ext.refl wr).alloc (.cells #[.int .i64 kd,.int .i64 lt,.slice bb ip.length cc] 40)
    have hna:=heap_alloc_new wr (.cells #[.int .i64 kd,.int .i64 lt,.slice bb ip.length cc] 40)
    obtain ⟨⟨x0,x1,x2⟩,-⟩:=bx3q hna
    have hJa:=hJ.out.next hxa.below
    have hxb:=(Ext.refl (wr.alloc (.cells #[.int .i64 kd,.int .i64 lt,.slice bb ip.length cc] 40))).alloc (.cells #[.int .i64 kd,.int .i64 lt,.slice bb ip.length cc] 40)
    have hnb:=heap_alloc_new (wr.alloc (.cells #[.int .i64 kd,.int .i64 lt,.slice bb ip.length cc] 40)) (.cells #[.int .i64 kd,.int .i64 lt,.slice bb ip.length cc] 40)
    rw [show ((wr.alloc (.cells #[.int .i64 kd,.int .i64 lt,.slice bb ip.length cc] 40))).heap.size = wr.heap.size+1 from by simp] at hnb
    have hca:=Lib.hid (World.news_of_block (cs:=#[.int .i64 kd,.int .i64 lt,.slice bb ip.length cc]) (t:=40) (fr:=(0,0)) hnb)
    have hJb:=hJa.next hxb.below
    obtain ⟨-,n1,-⟩:=hJa.cells
    obtain ⟨-,n2,-⟩:=hJb.cells
    have hpush:=Lib.hid fun v6 w6 ho hg=>hJb.push (y:=⟨kd,lt,ip⟩) (u:=.slice bb ip.length cc) (v6:=v6) (w6:=w6) hsu.out ho hg
    have hsz7:b0≤((wr.alloc (.cells #[.int .i64 kd,.int .i64 lt,.slice bb ip.length cc] 40)).alloc (.cells #[.int .i64 kd,.int .i64 lt,.slice bb ip.length cc] 40)).heap.size:=hJb.2.2.2.2.2.2
    replace hJb:=Lib.hid hJb
    replace hJa:=Lib.hid hJa
    clear hxa hna hxb hnb
    go_wp2_with (first | fail | (at_builtin;refine wpList_append_own _ rfl _ _ 22 rfl b0 40 iv _ 3 40 Tryz.underlying22 hiv hzv hsv hbv rfl (by decide) _ i (gCells (o.map L.ofND) us') rfl (by have:=hJb.out.2.2.1;rwa [hol.out] at this) ⟨wr.heap.size+1,0,none⟩ 1 1 [.int .i64 kd,.int .i64 lt,.slice bb ip.length cc] rfl rfl hca.out (by simp [Value.oneCell']) (by unfold maxLen;omega) (by omega) hsz7 ?_;intro v6 w6 ho6 hg6 _;obtain ⟨⟨g6,cp6,rfl⟩,n6,nf6,hJ8⟩:=hpush.out _ _ (by rw [hol.out];exact ho6) hg6;replace hJ8:Hid (OutL w3 ob b0 n ((nl.take (i+1)).map GF) _ _ _):=Lib.hid (by rw [hnx.out];exact hJ8);clear ho6 hg6))
    go_roundw
    case rel=>exact ⟨i+1,_,_,by omega,by go_num,hJ8⟩
    case measure=>simp [intOf];omega
  ·obtain rfl:i = m:=by have:=hm.out;omega
   have di:decide ((i:Int) < (i:Int)) = false:=decide_eq_false (by omega)
   rw [hm.out,List.take_length] at ho
   obtain ⟨n0,n1,-⟩:=hJ.out.cells
   have hsc:=hJ.out.slC
   have hB3:=hJ.out.1
   subst ho
   have q4:=rreduce_any hsc hcG.out hlen.out hig.out
   obtain ⟨RL,hRL⟩:∃ RL,RL = L.reduceL (nl.map GF):=⟨_,rfl⟩
   rw [←hRL] at q4
   replace hRL:=Lib.hid hRL
   have hz4:=(hB3.block _ (Array.getElem?_eq_some_iff.1 hz3.out).1).trans hz3.out
   have hBw:=Lib.hid (hx03.out.below.trans (hB3.mono (by omega)))
   replace hz4:=Lib.hid hz4
   clear hsc hB3 hJ
   go_wp2_with fail
   refine q4.mono ?_
   rintro e w9 ⟨vL,us,rfl,ho9,hR9,hb9⟩
   have hzl:=(Array.getElem?_eq_some_iff.1 hz4.out).1
   have hz9:=(hb9.block _ hzl).trans hz4.out
   obtain ⟨bL,cL,rfl⟩:=own_shp ho9
   have hxR:=(Ext.refl w9).alloc (.cells #[.int .i64 n,.slice bL RL.length cL] 24)
   have hnR:=heap_alloc_new w9 (.cells #[.int .i64 n,.slice bL RL.length cL] 24)
   have u0:(w9.alloc (.cells #[.int .i64 n,.slice bL RL.length cL] 24)).cell? ⟨w9.heap.size,0,none⟩ = some (.int .i64 n):=by rw [World.cell?,hnR];rfl
   have u1:(w9.alloc (.cells #[.int .i64 n,.slice bL RL.length cL] 24)).cell? ⟨w9.heap.size,1,none⟩ = some (.slice bL RL.length cL):=by rw [World.cell?,hnR];rfl
   have hzA:=(hxR.below.block _ (Array.getElem?_eq_some_iff.1 hz9).1).trans hz9
   obtain ⟨t0,t1⟩:=box2_set hzA (.int .i64 n) (.slice bL RL.length cL)
   have hoA:=ownsRow_keep ho9 (fun g c h=>hxR.below.block g (Array.getElem?_eq_some_iff.1 h).1)
   have hRA:=hR9.keep (fun g c h=>hxR.below.block g (Array.getElem?_eq_some_iff.1 h).1)
   have hsl2:=nodes_slC (ownsRow_setCell_below (ownsRow_setCell_below hoA (a:=⟨w.heap.size+1,0,none⟩) hzl (.int .i64 n)) (a:=⟨w.heap.size+1,1,none⟩) hzl (.slice bL RL.length cL)) ((hRA.setLow (a:=⟨w.heap.size+1,0,none⟩) hzl (.int .i64 n)).setLow (a:=⟨w.heap.size+1,1,none⟩) hzl (.slice bL RL.length cL))
   have z0:(w9.alloc (.cells #[.int .i64 n,.slice bL RL.length cL] 24)).cell? ⟨w.heap.size+1,0,none⟩ = some (.int .i64 0):=by rw [World.cell?,hzA];rfl
   have z1:(w9.alloc (.cells #[.int .i64 n,.slice bL RL.length cL] 24)).cell? ⟨w.heap.size+1,1,none⟩ = some (.slice none 0 0):=by rw [World.cell?,hzA];rfl
   have y0:(w9.alloc (.cells #[.int .i64 n,.slice bL RL.length cL] 24)).frozen? ⟨w.heap.size+1,0,none⟩ = false:=by simp [World.frozen?,hzA]
   have y1:(w9.alloc (.cells #[.int .i64 n,.slice bL RL.length cL] 24)).frozen? ⟨w.heap.size+1,1,none⟩ = false:=by simp [World.frozen?,hzA]
   have hBA:=(hBw.out.trans (hb9.mono hBw.out.size)).trans (hxR.below.mono (Nat.le_trans hBw.out.size hb9.size))
   have hfn:=Lib.hid (And.intro hsl2 ((hBA.setCell (p:=⟨w.heap.size+1,0,none⟩) (Nat.le_succ _) (.int .i64 n)).setCell (p:=⟨w.heap.size+1,1,none⟩) (Nat.le_succ _) (.slice bL RL.length cL)))
   replace t0:=Lib.hid t0
   replace t1:=Lib.hid t1
   clear q4 hz9 ho9 hR9 hb9 hzl hxR hnR hzA hoA hRA hsl2 hBA n0 n1 pn
   go_wp2_with fail
   exact bodyPost_ret (v:=.tuple #[.agg #[.int .i64 n,.slice bL RL.length cL],.int .i64 0]) (by simp [results,Tryz.results14,go_sem,t0.out,t1.out]) rfl ⟨_,rfl,by rw [←hRL.out];exact hfn.out.1,hfn.out.2⟩
end Go.Proofs.YtckhohpbokojdaaGreatDoor
