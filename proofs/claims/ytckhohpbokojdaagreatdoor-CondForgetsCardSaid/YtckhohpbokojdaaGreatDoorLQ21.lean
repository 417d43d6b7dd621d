import Derived.Test.YtckhohpbokojdaaGreatDoorLQ20
import Derived.Test.YtckhohpbokojdaaGreatDoorLQ16
set_option linter.unusedSimpArgs false
set_option linter.unusedVariables false
namespace Go.Proofs.YtckhohpbokojdaaGreatDoor
open Go Go.RowKit Go.Shelf
set_option maxRecDepth 100000 in
set_option maxHeartbeats 4000000 in
theorem rforget_bad {n:Int} {C:List L.Gt} {s:VSet} {v:Value} {w:World} (hv:SlC w v C) (hc:L.netChk n C≠0) (hl:C.length≤9223372036854775807) (h2:∀ g∈C,g.inp.length≤9223372036854775807) :
  Calls Tryz.prog 18 #[.agg #[.int .i64 n,v],.agg #[.int .u64 (lo s),.int .u64 (hi s)]] w fun e w'=>e = .returned (.tuple #[.agg #[.int .i64 0,.slice none 0 0],.int .i64 1])∧Below w.heap.size w w':=by
 have q1:=fun (W:World) (hW:Ext w W)=>rvalid20_any (n:=n) (hv.ext hW.below) h2 hl
 rw [decide_eq_false hc] at q1
 obtain ⟨ba,cp,rfl,-⟩:=hv.shape
 clear hv hc h2
 generalize C.length = m at *
 have hx2:Ext w (((w.alloc (.cells #[.int .i64 n,.slice ba m cp] 24)).alloc (.cells #[.int .u64 (lo s),.int .u64 (hi s)] 37)).alloc (.cells #[.int .i64 0,.slice none 0 0] 24)):=(((Ext.refl w).alloc _).alloc _).alloc _
 obtain ⟨e0,e1,e2⟩:=alloc3h w (.cells #[.int .i64 n,.slice ba m cp] 24) (.cells #[.int .u64 (lo s),.int .u64 (hi s)] 37) (.cells #[.int .i64 0,.slice none 0 0] 24)
 have p0:(((w.alloc (.cells #[.int .i64 n,.slice ba m cp] 24)).alloc (.cells #[.int .u64 (lo s),.int .u64 (hi s)] 37)).alloc (.cells #[.int .i64 0,.slice none 0 0] 24)).cell? ⟨w.heap.size,0,none⟩ = some (.int .i64 n):=by rw [World.cell?,e0];rfl
 have p1:(((w.alloc (.cells #[.int .i64 n,.slice ba m cp] 24)).alloc (.cells #[.int .u64 (lo s),.int .u64 (hi s)] 37)).alloc (.cells #[.int .i64 0,.slice none 0 0] 24)).cell? ⟨w.heap.size,1,none⟩ = some (.slice ba m cp):=by rw [World.cell?,e0];rfl
 have q2:=q1 _ hx2
 replace e0:=Lib.hid e0
 replace e1:=Lib.hid e1
 replace hx2:=Lib.hid hx2
 clear q1
 go_enter Tryz.func18,Tryz.ntmps18
 go_wp2_with fail
 refine q2.mono ?_
 rintro e w3 ⟨rfl,hx3⟩
 have hz:=(hx3.below.block _ (Array.getElem?_eq_some_iff.1 e2).1).trans e2
 have z0:w3.cell? ⟨w.heap.size+1+1,0,none⟩ = some (.int .i64 0):=by rw [World.cell?,hz];rfl
 have z1:w3.cell? ⟨w.heap.size+1+1,1,none⟩ = some (.slice none 0 0):=by rw [World.cell?,hz];rfl
 have y0:w3.frozen? ⟨w.heap.size+1+1,0,none⟩ = false:=by simp [World.frozen?,hz]
 have y1:w3.frozen? ⟨w.heap.size+1+1,1,none⟩ = false:=by simp [World.frozen?,hz]
 obtain ⟨t0,t1⟩:=box2_set hz (.int .i64 0) (.slice none 0 0)
 have hfin:=Lib.hid (((hx2.out.trans hx3).below.setCell (p:=⟨w.heap.size+1+1,0,none⟩) (by show w.heap.size≤w.heap.size+1+1;omega) (.int .i64 0)).setCell (p:=⟨w.heap.size+1+1,1,none⟩) (by show w.heap.size≤w.heap.size+1+1;omega) (.slice none 0 0))
 replace t0:=Lib.hid t0
 replace t1:=Lib.hid t1
 clear q2 hz p0 p1 e2
 go_wp2_with fail
 exact bodyPost_ret (v:=.tuple #[.agg #[.int .i64 0,.slice none 0 0],.int .i64 1]) (by simp [results,Tryz.results18,go_sem,t0.out,t1.out]) rfl ⟨rfl,hfin.out⟩
set_option maxRecDepth 100000 in
set_option maxHeartbeats 4000000 in
theorem rforget_no {n:Int} {nl:List L.ND} {s:VSet} {v:Value} {w:World} (hv:SlC w v (nl.map L.ofND)) (hc:L.netChk n (nl.map L.ofND) = 0) (hl:nl.length≤65536) (h2:∀ y∈nl,y.inp.length≤100000) (hD:decF nl = false) :
  Calls Tryz.prog 18 #[.agg #[.int .i64 n,v],.agg #[.int .u64 (lo s),.int .u64 (hi s)]] w fun e w'=>e = .returned (.tuple #[.agg #[.int .i64 0,.slice none 0 0],.int .i64 210])∧Below w.heap.size w w':=by
 have q1:=fun (W:World) (hW:Ext w W)=>rvalid20_any (n:=n) (hv.ext hW.below) (fun g hg=>by
  obtain ⟨y,hy,rfl⟩:=List.mem_map.1 hg
  have:=h2 y hy
  have e:(L.ofND y).inp.length = y.inp.length:=castL_len y.inp
  omega) (by rw [List.length_map];omega)
 rw [decide_eq_true hc] at q1
 have qd:=fun (W:World) (hW:Ext w W)=>rdecomp21_any (n:=n) (hv.ext hW.below) hc hl h2
 rw [hD] at qd
 obtain ⟨ba,cp,rfl,-⟩:=slC_nd hv
 clear hv hc h2
 generalize nl.length = m at *
 have hx2:Ext w (((w.alloc (.cells #[.int .i64 n,.slice ba m cp] 24)).alloc (.cells #[.int .u64 (lo s),.int .u64 (hi s)] 37)).alloc (.cells #[.int .i64 0,.slice none 0 0] 24)):=(((Ext.refl w).alloc _).alloc _).alloc _
 obtain ⟨e0,e1,e2⟩:=alloc3h w (.cells #[.int .i64 n,.slice ba m cp] 24) (.cells #[.int .u64 (lo s),.int .u64 (hi s)] 37) (.cells #[.int .i64 0,.slice none 0 0] 24)
 have p0:(((w.alloc (.cells #[.int .i64 n,.slice ba m cp] 24)).alloc (.cells #[.int .u64 (lo s),.int .u64 (hi s)] 37)).alloc (.cells #[.int .i64 0,.slice none 0 0] 24)).cell? ⟨w.heap.size,0,none⟩ = some (.int .i64 n):=by rw [World.cell?,e0];rfl
 have p1:(((w.alloc (.cells #[.int .i64 n,.slice ba m cp] 24)).alloc (.cells #[.int .u64 (lo s),.int .u64 (hi s)] 37)).alloc (.cells #[.int .i64 0,.slice none 0 0] 24)).cell? ⟨w.heap.size,1,none⟩ = some (.slice ba m cp):=by rw [World.cell?,e0];rfl
 have q2:=q1 _ hx2
 replace e0:=Lib.hid e0
 replace e1:=Lib.hid e1
 replace e2:=Lib.hid e2
 replace hx2:=Lib.hid hx2
 replace qd:=Lib.hid qd
 clear q1
 go_enter Tryz.func18,Tryz.ntmps18
 go_wp2_with fail
 refine q2.mono ?_
 rintro e w4 ⟨rfl,hx4⟩
 have hx04:=hx2.out.trans hx4
 have q3:=qd.out _ hx04
 have p0':=hx4.cell p0
 have p1':=hx4.cell p1
 have e24:=(hx4.below.block _ (Array.getElem?_eq_some_iff.1 e2.out).1).trans e2.out
 replace e24:=Lib.hid e24
 replace hx04:=Lib.hid hx04
 clear q2 p0 p1 hx4 e2
 go_wp2_with fail
 refine q3.mono ?_
 rintro e w3 ⟨rfl,hb3⟩
 have hz:=(hb3.block _ (Array.getElem?_eq_some_iff.1 e24.out).1).trans e24.out
 have z0:w3.cell? ⟨w.heap.size+1+1,0,none⟩ = some (.int .i64 0):=by rw [World.cell?,hz];rfl
 have z1:w3.cell? ⟨w.heap.size+1+1,1,none⟩ = some (.slice none 0 0):=by rw [World.cell?,hz];rfl
 have y0:w3.frozen? ⟨w.heap.size+1+1,0,none⟩ = false:=by simp [World.frozen?,hz]
 have y1:w3.frozen? ⟨w.heap.size+1+1,1,none⟩ = false:=by simp [World.frozen?,hz]
 obtain ⟨t0,t1⟩:=box2_set hz (.int .i64 0) (.slice none 0 0)
 have hfin:=Lib.hid (((hx04.out.below.trans (hb3.mono hx04.out.size)).setCell (p:=⟨w.heap.size+1+1,0,none⟩) (by show w.heap.size≤w.heap.size+1+1;omega) (.int .i64 0)).setCell (p:=⟨w.heap.size+1+1,1,none⟩) (by show w.heap.size≤w.heap.size+1+1;omega) (.slice none 0 0))
 replace t0:=Lib.hid t0
 replace t1:=Lib.hid t1
 clear q3 hz p0' p1' e24 hb3
 go_wp2_with fail
 exact bodyPost_ret (v:=.tuple #[.agg #[.int .i64 0,.slice none 0 0],.int .i64 210]) (by simp [results,Tryz.results18,go_sem,t0.out,t1.out]) rfl ⟨rfl,hfin.out⟩
theorem forg_chk {n:Int} {nl:List L.ND} (hc:L.netChk n (nl.map L.ofND) = 0) (s:VSet):L.netChk n ((nl.map (L.forND s)).map L.ofND) = 0:=by
 obtain ⟨h1,h2,h3,h4⟩:=nok_of hc
 have hp:1≤nl.length:=List.length_pos_iff.2 h2
 exact L.nok_net (L.map_nok h1 (L.forND s) (L.forND_or s)) h3 (by rw [List.length_map];exact ⟨hp,h4⟩)
set_option maxRecDepth 100000 in
set_option maxHeartbeats 4000000 in
theorem rforget_ok {n:Int} {nl:List L.ND} {s:VSet} {v:Value} {w:World} (hv:SlC w v (nl.map L.ofND)) (hc:L.netChk n (nl.map L.ofND) = 0) (hl:nl.length≤2000) (h2:∀ y∈nl,y.inp.length≤400) (hD:decF nl = true) :
  Calls Tryz.prog 18 #[.agg #[.int .i64 n,v],.agg #[.int .u64 (lo s),.int .u64 (hi s)]] w fun e w'=>∃ vL,e = .returned (.tuple #[.agg #[.int .i64 n,vL],.int .i64 0])∧SlC w' vL ((L.reduceL (nl.map (L.forND s))).map L.ofND)∧Below w.heap.size w w':=by
 obtain ⟨hn,-⟩:=L.netChk_ok.1 hc
 have q1:=fun (W:World) (hW:Ext w W)=>rvalid20_any (n:=n) (hv.ext hW.below) (fun g hg=>by
  obtain ⟨y,hy,rfl⟩:=List.mem_map.1 hg
  have:=h2 y hy
  have e:(L.ofND y).inp.length = y.inp.length:=castL_len y.inp
  omega) (by rw [List.length_map];omega)
 rw [decide_eq_true hc] at q1
 have qd:=fun (W:World) (hW:Ext w W)=>rdecomp21_any (n:=n) (hv.ext hW.below) hc (by omega) (fun y hy=>by have:=h2 y hy;omega)
 rw [hD] at qd
 have hnok:L.NOK n nl:=by
  have:=(L.net_nok hc).1
  rwa [List.map_map,show (L.toND ∘ L.ofND) = id from funext L.toND_ofND,List.map_id] at this
 have hcG:=forg_chk hc s
 have hlitr:∀ y∈nl,-n≤y.lit∧y.lit≤n:=fun y hy=>by
  rcases hnok.form y hy with h | h | h <;> omega
 have hlen:(nl.map (L.forND s)).length≤2000:=by rw [List.length_map];exact hl
 have hig:∀ y∈nl.map (L.forND s),y.inp.length≤400:=fun y hy=>by
  obtain ⟨z,hz,rfl⟩:=List.mem_map.1 hy
  rcases L.forND_or s z with e | ⟨-,-,e⟩
  ·rw [e];exact h2 z hz
  ·rw [e];simp
 obtain ⟨ba,cp,rfl,hcell⟩:=slC_nd hv
 obtain ⟨GF,hGF⟩:∃ GF,GF = L.forND s:=⟨_,rfl⟩
 obtain ⟨iv,hiv,hzv,hsv,hbv⟩:=info_parts nd_info
 rw [←hGF] at hcG hlen hig ⊢
 have hG0:∀ y,y.kind≠2→GF y = y:=fun y h=>by rw [hGF];unfold L.forND;rw [if_neg (fun e=>h e.1)]
 have hG1:∀ y,y.kind = 2→hasS s (y.lit.natAbs:Int) = true→GF y = ⟨1,0,[]⟩:=fun y h h2=>by rw [hGF];unfold L.forND;rw [if_pos ⟨h,h2⟩]
 have hG2:∀ y,y.kind = 2→hasS s (y.lit.natAbs:Int) = false→GF y = y:=fun y h h2=>by rw [hGF];unfold L.forND;rw [if_neg (fun e=>by rw [h2] at e;cases e.2)]
 have qh:=fun (v:Int) V=>refHas_any s v V
 unfold encS at qh
 obtain ⟨m,hm⟩:∃ m,m = nl.length:=⟨_,rfl⟩
 (try simp only [←hm] at q1)
 (try simp only [←hm] at qd)
 (try simp only [←hm])
 have hx2:Ext w (((w.alloc (.cells #[.int .i64 n,.slice ba m cp] 24)).alloc (.cells #[.int .u64 (lo s),.int .u64 (hi s)] 37)).alloc (.cells #[.int .i64 0,.slice none 0 0] 24)):=(((Ext.refl w).alloc _).alloc _).alloc _
 obtain ⟨e0,e1,e2⟩:=alloc3h w (.cells #[.int .i64 n,.slice ba m cp] 24) (.cells #[.int .u64 (lo s),.int .u64 (hi s)] 37) (.cells #[.int .i64 0,.slice none 0 0] 24)
 have p0:(((w.alloc (.cells #[.int .i64 n,.slice ba m cp] 24)).alloc (.cells #[.int .u64 (lo s),.int .u64 (hi s)] 37)).alloc (.cells #[.int .i64 0,.slice none 0 0] 24)).cell? ⟨w.heap.size,0,none⟩ = some (.int .i64 n):=by rw [World.cell?,e0];rfl
 have p1:(((w.alloc (.cells #[.int .i64 n,.slice ba m cp] 24)).alloc (.cells #[.int .u64 (lo s),.int .u64 (hi s)] 37)).alloc (.cells #[.int .i64 0,.slice none 0 0] 24)).cell? ⟨w.heap.size,1,none⟩ = some (.slice ba m cp):=by rw [World.cell?,e0];rfl
 have q2:=q1 _ hx2
 replace hm:=Lib.hid hm
 replace e0:=Lib.hid e0
 replace e1:=Lib.hid e1
 replace e2:=Lib.hid e2
 replace hx2:=Lib.hid hx2
 replace qd:=Lib.hid qd
 replace qh:=Lib.hid qh
 replace hcell:=Lib.hid hcell
 replace hGF:=Lib.hid hGF
 replace hcG:=Lib.hid hcG
 replace hig:=Lib.hid hig
 replace hlitr:=Lib.hid hlitr
 replace hnok:=Lib.hid hnok
 replace h2:=Lib.hid h2
 replace hlen:=Lib.hid hlen
 replace hG0:=Lib.hid hG0
 replace hG1:=Lib.hid hG1
 replace hG2:=Lib.hid hG2
 clear q1 hc hv
 go_enter Tryz.func18,Tryz.ntmps18
 go_wp2_with fail
 refine q2.mono ?_
 rintro e w4 ⟨rfl,hx4⟩
 have hx04:=hx2.out.trans hx4
 have q3:=qd.out _ hx04
 have p0':=hx4.cell p0
 have p1':=hx4.cell p1
 have e04:=Lib.hid ((hx4.below.block _ (Array.getElem?_eq_some_iff.1 e0.out).1).trans e0.out)
 have e14:=Lib.hid ((hx4.below.block _ (Array.getElem?_eq_some_iff.1 e1.out).1).trans e1.out)
 have e24:=Lib.hid ((hx4.below.block _ (Array.getElem?_eq_some_iff.1 e2.out).1).trans e2.out)
 have hs4:w.heap.size+1+1+1≤w4.heap.size:=(Array.getElem?_eq_some_iff.1 e24.out).1
 replace hx04:=Lib.hid hx04
 clear q2 p0 p1 hx4 e0 e1 e2 hx2
 go_wp2_with fail
 refine q3.mono ?_
 rintro e w3 ⟨rfl,hb3⟩
 have e0:=Lib.hid ((hb3.block _ (Array.getElem?_eq_some_iff.1 e04.out).1).trans e04.out)
 have e1:=Lib.hid ((hb3.block _ (Array.getElem?_eq_some_iff.1 e14.out).1).trans e14.out)
 have e2:=Lib.hid ((hb3.block _ (Array.getElem?_eq_some_iff.1 e24.out).1).trans e24.out)
 have hB3:=Lib.hid (hx04.out.below.trans (hb3.mono hx04.out.size))
 have hs3:w.heap.size+1+1+1≤w3.heap.size:=Nat.le_trans hs4 hb3.size
 have hbxs:Hid (∀ V,Below w3.heap.size w3 V→(V.cell? ⟨w.heap.size,0,none⟩ = some (.int .i64 n)∧V.cell? ⟨w.heap.size,1,none⟩ = some (.slice ba m cp))∧V.cell? ⟨w.heap.size+1,0,none⟩ = some (.int .u64 (lo s))∧V.cell? ⟨w.heap.size+1,1,none⟩ = some (.int .u64 (hi s))):=Lib.hid fun V hV=>by
  have f0:=(hV.block _ (Array.getElem?_eq_some_iff.1 e0.out).1).trans e0.out
  have f1:=(hV.block _ (Array.getElem?_eq_some_iff.1 e1.out).1).trans e1.out
  exact ⟨⟨by rw [World.cell?,f0];rfl,by rw [World.cell?,f0];rfl⟩,by rw [World.cell?,f1];rfl,by rw [World.cell?,f1];rfl⟩
 obtain ⟨⟨g0,g1⟩,-,-⟩:=hbxs.out w3 (Below.refl _ _)
 have hxO:=(Ext.refl w3).alloc (.cells #[.int .i64 n,.slice none 0 0] 24)
 have hnO:=heap_alloc_new w3 (.cells #[.int .i64 n,.slice none 0 0] 24)
 have hJ0:Hid (OutL w3 w3.heap.size w3.heap.size n ((nl.take 0).map GF) (.slice none 0 0) [] (w3.alloc (.cells #[.int .i64 n,.slice none 0 0] 24))):=Lib.hid ⟨hxO.below,hnO,⟨rfl,.inl ⟨rfl,rfl⟩⟩,⟨rfl,fun i hi=>absurd hi (Nat.not_lt_zero _)⟩,Nat.le_refl _,Nat.le_refl _,hxO.below.size⟩
 clear q3 p0' p1' hxO hnO hb3 e04 e14 e24 hs4
 go_wp2_with fail
 obtain ⟨ob,hob⟩:∃ ob,ob = w3.heap.size:=⟨_,rfl⟩
 obtain ⟨b0,hb0⟩:∃ b0,b0 = w3.heap.size:=⟨_,rfl⟩
 have hJ1:Hid (OutL w3 ob b0 n ((nl.take 0).map GF) (.slice none 0 0) [] (w3.alloc (.cells #[.int .i64 n,.slice none 0 0] 24))):=by rw [hob,hb0];exact hJ0
 simp only [←hob]
 clear hJ0 g0 g1
 generalize (w3.alloc (.cells #[.int .i64 n,.slice none 0 0] 24)) = w5 at *
 replace hob:=Lib.hid hob
 replace hb0:=Lib.hid hb0
 go_loopw [7] (fun i wr=>∃ (k:Nat) (vO:Value) (us':List Value),k≤nl.length∧i = .int .i64 (k:Nat)∧Hid (OutL w3 ob b0 n ((nl.take k).map GF) vO us' wr)) (fun i _=>nl.length - (intOf i).toNat)
 case atStart=>exact ⟨0,_,_,Nat.zero_le _,rfl,hJ1⟩
 case round =>
  clear hJ1
  obtain ⟨i,vO,us',hile,rfl,hJ⟩:=hrel
  obtain ⟨⟨-,pn⟩,pz0,pz1⟩:=hbxs.out _ hJ.out.1
  have hol:Hid (((nl.take i).map GF).length = i):=Lib.hid (by rw [List.length_map,List.length_take];omega)
  obtain ⟨o,ho⟩:∃ o,o = (nl.take i).map GF:=⟨_,rfl⟩
  rw [←ho] at hol hJ
  obtain ⟨bO,cO,hvO⟩:=hJ.out.cells.2.2
  rw [hol.out] at hvO
  subst hvO
  by_cases hlt:i < nl.length
  ·have q0:(0:Int)≤(i:Int):=by omega
   have q1:(i:Int) < (m:Int):=by have:=hm.out;omega
   have di:decide ((i:Int) < (m:Int)) = true:=decide_eq_true q1
   obtain ⟨b,o',bb,cc,rfl,f0,f1,f2,fin⟩:=hcell.out i hlt
   have hxw:∀ V,Below w3.heap.size w3 V→Below w.heap.size w V:=fun V hV=>hB3.out.trans (hV.mono (by omega))
   have k0:=((hxw _ hJ.out.1).cell (World.block_lt_of_cell? w _ f0)).trans f0
   have k1:=((hxw _ hJ.out.1).cell (World.block_lt_of_cell? w _ f1)).trans f1
   have k2:=((hxw _ hJ.out.1).cell (World.block_lt_of_cell? w _ f2)).trans f2
   have hsu:=Lib.hid (fin.ext (hxw _ (Below.refl _ _)))
   have hnx0:(nl.take (i+1)).map GF = o++[GF nl[i]]:=by rw [List.take_succ_eq_append_getElem hlt,List.map_append,ho];rfl
   have hg0:=hG0.out nl[i]
   have hg1:=hG1.out nl[i]
   have hg2:=hG2.out nl[i]
   have hr1:=hlitr.out _ (List.getElem_mem hlt)
   generalize GF nl[i] = gy at *
   generalize nl[i] = y at *
   obtain ⟨kd,lt,ip⟩:=y
   dsimp only at *
   rename World=>wr
   replace hxw:=Lib.hid hxw
   replace ho:=Lib.hid ho
   have hbA:Below wr.heap.size wr (wr.alloc (.cells #[.int .i64 kd,.int .i64 lt,.slice bb ip.length cc] 40)):=(Below.refl _ _).alloc (Nat.le_refl _) _
   have hnA:=heap_alloc_new wr (.cells #[.int .i64 kd,.int .i64 lt,.slice bb ip.length cc] 40)
   clear f0 f1 f2 fin
   by_cases hk:kd = 2
   ·have dk:(kd == 2) = true:=by simpa using hk
    obtain ⟨kk,hkk⟩:∃ kk:Nat,kk = lt.natAbs:=⟨_,rfl⟩
    have wn1:IntKind.i64.wrap (-lt) = -lt:=IntWalk.i64_in _ (by omega)
    have hmx:max lt (-lt) = (kk:Int):=by omega
    rw [←hkk] at hg1 hg2
    obtain ⟨⟨x0,x1,x2⟩,-⟩:=bx3q hnA
    have q:=qh.out (kk:Int) (wr.alloc (.cells #[.int .i64 kd,.int .i64 lt,.slice bb ip.length cc] 40))
    obtain ⟨-,u0,u1⟩:=hbxs.out (wr.alloc (.cells #[.int .i64 kd,.int .i64 lt,.slice bb ip.length cc] 40)) (hJ.out.1.trans (hbA.mono hJ.out.1.size))
    replace hkk:=Lib.hid hkk
    replace hr1:=Lib.hid hr1
    replace hbA:=Lib.hid hbA
    replace hnA:=Lib.hid hnA
    cases hh:hasS s (kk:Int) with
    | true =>
      have e1':=hg1 hk hh
      subst e1'
      have hnx:=Lib.hid hnx0
      rw [hh] at q
      replace hh:=Lib.hid hh
      replace hk:=Lib.hid hk
      clear hg0 hg1 hg2 hnx0
      go_wp2_with fail
      refine q.mono ?_
      rintro e w6 ⟨rfl,hx6⟩
      have hn6:=(hx6.below.block _ (Array.getElem?_eq_some_iff.1 hnA.out).1).trans hnA.out
      have hb6:=hbA.out.trans (hx6.below.mono hbA.out.size)
      have fz:=(bx3q hn6).2
      have cz:=(bx3q hn6).1
      obtain ⟨fz0,fz1,fz2⟩:=fz
      obtain ⟨cz0,cz1,cz2⟩:=cz
      have hxn:=heap_set3 hn6 (.int .i64 1) (.int .i64 0) (.slice none 0 0)
      have hb7:Below wr.heap.size wr (((w6.setCell ⟨wr.heap.size,0,none⟩ (.int .i64 1)).setCell ⟨wr.heap.size,1,none⟩ (.int .i64 0)).setCell ⟨wr.heap.size,2,none⟩ (.slice none 0 0)):=((hb6.setCell (p:=⟨wr.heap.size,0,none⟩) (Nat.le_refl _) (.int .i64 1)).setCell (p:=⟨wr.heap.size,1,none⟩) (Nat.le_refl _) (.int .i64 0)).setCell (p:=⟨wr.heap.size,2,none⟩) (Nat.le_refl _) (.slice none 0 0)
      clear q x0 x1 x2 u0 u1 k0 k1 k2 pn pz0 pz1 hn6 hb6 hx6
      obtain ⟨⟨x0,x1,x2⟩,-⟩:=bx3q hxn
      have hJa:=hJ.out.next hb7
      have hxb:=(Ext.refl (((w6.setCell ⟨wr.heap.size,0,none⟩ (.int .i64 1)).setCell ⟨wr.heap.size,1,none⟩ (.int .i64 0)).setCell ⟨wr.heap.size,2,none⟩ (.slice none 0 0))).alloc (.cells #[.int .i64 1,.int .i64 0,.slice none 0 0] 40)
      have hnb:=heap_alloc_new (((w6.setCell ⟨wr.heap.size,0,none⟩ (.int .i64 1)).setCell ⟨wr.heap.size,1,none⟩ (.int .i64 0)).setCell ⟨wr.heap.size,2,none⟩ (.slice none 0 0)) (.cells #[.int .i64 1,.int .i64 0,.slice none 0 0] 40)
      rw [show ((((w6.setCell ⟨wr.heap.size,0,none⟩ (.int .i64 1)).setCell ⟨wr.heap.size,1,none⟩ (.int .i64 0)).setCell ⟨wr.heap.size,2,none⟩ (.slice none 0 0))).heap.size = w6.heap.size from by simp [World.setCell]] at hnb
      have hca:=Lib.hid (World.news_of_block (cs:=#[.int .i64 1,.int .i64 0,.slice none 0 0]) (t:=40) (fr:=(0,0)) hnb)
      have hJb:=hJa.next hxb.below
      obtain ⟨-,n1,-⟩:=hJa.cells
      obtain ⟨-,n2,-⟩:=hJb.cells
      have hpush:=Lib.hid fun v6 w6 ho hg=>hJb.push (y:=⟨1,0,[]⟩) (u:=.slice none 0 0) (v6:=v6) (w6:=w6) (SlI.nilC w3) ho hg
      have hsz7:b0≤((((w6.setCell ⟨wr.heap.size,0,none⟩ (.int .i64 1)).setCell ⟨wr.heap.size,1,none⟩ (.int .i64 0)).setCell ⟨wr.heap.size,2,none⟩ (.slice none 0 0)).alloc (.cells #[.int .i64 1,.int .i64 0,.slice none 0 0] 40)).heap.size:=hJb.2.2.2.2.2.2
      replace hJb:=Lib.hid hJb
      replace hJa:=Lib.hid hJa
      clear hxb hnb
      go_wp2_with (at_builtin;refine wpList_append_own _ rfl _ _ 22 rfl b0 40 iv _ 3 40 Tryz.underlying22 hiv hzv hsv hbv rfl (by decide) _ i (gCells (o.map L.ofND) us') rfl (by have:=hJb.out.2.2.1;rwa [hol.out] at this) ⟨w6.heap.size,0,none⟩ 1 1 [.int .i64 1,.int .i64 0,.slice none 0 0] rfl rfl hca.out (by simp [Value.oneCell']) (by unfold maxLen;omega) (by omega) hsz7 ?_;intro v6 w6 ho6 hg6 _;obtain ⟨⟨g6,cp6,rfl⟩,n6,nf6,hJ8⟩:=hpush.out _ _ (by rw [hol.out];exact ho6) hg6;replace hJ8:Hid (OutL w3 ob b0 n ((nl.take (i+1)).map GF) _ _ _):=Lib.hid (by rw [hnx.out];exact hJ8);clear ho6 hg6)
      go_roundw
      case rel=>exact ⟨i+1,_,_,by omega,by go_num,hJ8⟩
      case measure=>simp [intOf];omega
    | false =>
      have e1':=hg2 hk hh
      subst e1'
      have hnx:=Lib.hid hnx0
      rw [hh] at q
      replace hh:=Lib.hid hh
      replace hk:=Lib.hid hk
      clear hg0 hg1 hg2 hnx0
      go_wp2_with fail
      refine q.mono ?_
      rintro e w6 ⟨rfl,hx6⟩
      have hxn:=(hx6.below.block _ (Array.getElem?_eq_some_iff.1 hnA.out).1).trans hnA.out
      have hb7:=hbA.out.trans (hx6.below.mono hbA.out.size)
      clear q x0 x1 x2 u0 u1 k0 k1 k2 pn pz0 pz1 hx6
      obtain ⟨⟨x0,x1,x2⟩,-⟩:=bx3q hxn
      have hJa:=hJ.out.next hb7
      have hxb:=(Ext.refl w6).alloc (.cells #[.int .i64 kd,.int .i64 lt,.slice bb ip.length cc] 40)
      have hnb:=heap_alloc_new w6 (.cells #[.int .i64 kd,.int .i64 lt,.slice bb ip.length cc] 40)
      rw [show (w6).heap.size = w6.heap.size from by rfl] at hnb
      have hca:=Lib.hid (World.news_of_block (cs:=#[.int .i64 kd,.int .i64 lt,.slice bb ip.length cc]) (t:=40) (fr:=(0,0)) hnb)
      have hJb:=hJa.next hxb.below
      obtain ⟨-,n1,-⟩:=hJa.cells
      obtain ⟨-,n2,-⟩:=hJb.cells
      have hpush:=Lib.hid fun v6 w6 ho hg=>hJb.push (y:=⟨kd,lt,ip⟩) (u:=.slice bb ip.length cc) (v6:=v6) (w6:=w6) hsu.out ho hg
      have hsz7:b0≤(w6.alloc (.cells #[.int .i64 kd,.int .i64 lt,.slice bb ip.length cc] 40)).heap.size:=hJb.2.2.2.2.2.2
      replace hJb:=Lib.hid hJb
      replace hJa:=Lib.hid hJa
      clear hxb hnb
      go_wp2_with (at_builtin;refine wpList_append_own _ rfl _ _ 22 rfl b0 40 iv _ 3 40 Tryz.underlying22 hiv hzv hsv hbv rfl (by decide) _ i (gCells (o.map L.ofND) us') rfl (by have:=hJb.out.2.2.1;rwa [hol.out] at this) ⟨w6.heap.size,0,none⟩ 1 1 [.int .i64 kd,.int .i64 lt,.slice bb ip.length cc] rfl rfl hca.out (by simp [Value.oneCell']) (by unfold maxLen;omega) (by omega) hsz7 ?_;intro v6 w6 ho6 hg6 _;obtain ⟨⟨g6,cp6,rfl⟩,n6,nf6,hJ8⟩:=hpush.out _ _ (by rw [hol.out];exact ho6) hg6;replace hJ8:Hid (OutL w3 ob b0 n ((nl.take (i+1)).map GF) _ _ _):=Lib.hid (by rw [hnx.out];exact hJ8);clear ho6 hg6)
      go_roundw
      case rel=>exact ⟨i+1,_,_,by omega,by go_num,hJ8⟩
      case measure=>simp [intOf];omega
   ·have dk:(kd == 2) = false:=beq_eq_false_iff_ne.2 hk
    have e1':=hg0 hk
    subst e1'
    have hnx:=Lib.hid hnx0
    have hxn:=hnA
    have hb7:=hbA
    replace hk:=Lib.hid hk
    clear hg0 hg1 hg2 hnx0
    obtain ⟨⟨x0,x1,x2⟩,-⟩:=bx3q hxn
    have hJa:=hJ.out.next hb7
    have hxb:=(Ext.refl (wr.alloc (.cells #[.int .i64 kd,.int .i64 lt,.slice bb ip.length cc] 40))).alloc (.cells #[.int .i64 kd,.int .i64 lt,.slice bb ip.length cc] 40)
    have hnb:=heap_alloc_new (wr.alloc (.cells #[.int .i64 kd,.int .i64 lt,.slice bb ip.length cc] 40)) (.cells #[.int .i64 kd,.int .i64 lt,.slice bb ip.length cc] 40)
    rw [show ((wr.alloc (.cells #[.int .i64 kd,.int .i64 lt,.slice bb ip.length cc] 40))).heap.size = wr.heap.size+1 from by simp] at hnb
    have hca:=Lib.hid (World.news_of_block (cs:=#[.int .i64 kd,.int .i64 lt,.slice bb ip.length cc]) (t:=40) (fr:=(0,0)) hnb)
    have hJb:=hJa.next hxb.below
    obtain ⟨-,n1,-⟩:=hJa.cells
    obtain ⟨-,n2,-⟩:=hJb.cells
    have hpush:=Lib.hid fun v6 w6 ho hg=>hJb.push (y:=⟨kd,lt,ip⟩) (u:=.slice bb ip.length cc) (v6:=v6) (w6:=w6) hsu.out ho hg
    have hsz7:b0≤((wr.alloc (.cells #[.int .i64 kd,.int .i64 lt,.slice bb ip.length cc] 40)).alloc (.cells #[.int .i64 kd,.int .i64 lt,.slice bb ip.length cc] 40)).heap.size:=hJb.2.2.2.2.2.2
    replace hJb:=Lib.hid hJb
    replace hJa:=Lib.hid hJa
    clear hxb hnb
    go_wp2_with (at_builtin;refine wpList_append_own _ rfl _ _ 22 rfl b0 40 iv _ 3 40 Tryz.underlying22 hiv hzv hsv hbv rfl (by decide) _ i (gCells (o.map L.ofND) us') rfl (by have:=hJb.out.2.2.1;rwa [hol.out] at this) ⟨wr.heap.size+1,0,none⟩ 1 1 [.int .i64 kd,.int .i64 lt,.slice bb ip.length cc] rfl rfl hca.out (by simp [Value.oneCell']) (by unfold maxLen;omega) (by omega) hsz7 ?_;intro v6 w6 ho6 hg6 _;obtain ⟨⟨g6,cp6,rfl⟩,n6,nf6,hJ8⟩:=hpush.out _ _ (by rw [hol.out];exact ho6) hg6;replace hJ8:Hid (OutL w3 ob b0 n ((nl.take (i+1)).map GF) _ _ _):=Lib.hid (by rw [hnx.out];exact hJ8);clear ho6 hg6)
    go_roundw
    case rel=>exact ⟨i+1,_,_,by omega,by go_num,hJ8⟩
    case measure=>simp [intOf];omega
  ·obtain rfl:i = m:=by have:=hm.out;omega
   have di:decide ((i:Int) < (i:Int)) = false:=decide_eq_false (by omega)
   rw [hm.out,List.take_length] at ho
   obtain ⟨n0,n1,-⟩:=hJ.out.cells
   have hsc:=hJ.out.slC
   have hB9:=hJ.out.1
   subst ho
   have q4:=rreduce_any hsc hcG.out hlen.out hig.out
   obtain ⟨RL,hRL⟩:∃ RL,RL = L.reduceL (nl.map GF):=⟨_,rfl⟩
   rw [←hRL] at q4
   replace hRL:=Lib.hid hRL
   have hz4:=(hB9.block _ (Array.getElem?_eq_some_iff.1 e2.out).1).trans e2.out
   have hBw:=Lib.hid (hB3.out.trans (hB9.mono (by omega)))
   replace hz4:=Lib.hid hz4
   clear hsc hB9 hJ pz0 pz1
   go_wp2_with fail
   refine q4.mono ?_
   rintro e w9 ⟨vL,us,rfl,ho9,hR9,hb9⟩
   have hzl:=(Array.getElem?_eq_some_iff.1 hz4.out).1
   have hz9:=(hb9.block _ hzl).trans hz4.out
   obtain ⟨bL,cL,rfl⟩:=own_shp ho9
   have hxR:=(Ext.refl w9).alloc (.cells #[.int .i64 n,.slice bL RL.length cL] 24)
   have hnR:=heap_alloc_new w9 (.cells #[.int .i64 n,.slice bL RL.length cL] 24)
   have u0:(w9.alloc (.cells #[.int .i64 n,.slice bL RL.length cL] 24)).cell? ⟨w9.heap.size,0,none⟩ = some (.int .i64 n):=by rw [World.cell?,hnR];rfl
   have u1:(w9.alloc (.cells #[.int .i64 n,.slice bL RL.length cL] 24)).cell? ⟨w9.heap.size,1,none⟩ = some (.slice bL RL.length cL):=by rw [World.cell?,hnR];rfl
   have hzA:=(hxR.below.block _ (Array.getElem?_eq_some_iff.1 hz9).1).trans hz9
   obtain ⟨t0,t1⟩:=box2_set hzA (.int .i64 n) (.slice bL RL.length cL)
   have hoA:=ownsRow_keep ho9 (fun g c h=>hxR.below.block g (Array.getElem?_eq_some_iff.1 h).1)
   have hRA:=hR9.keep (fun g c h=>hxR.below.block g (Array.getElem?_eq_some_iff.1 h).1)
   have hsl2:=nodes_slC (ownsRow_setCell_below (ownsRow_setCell_below hoA (a:=⟨w.heap.size+1+1,0,none⟩) hzl (.int .i64 n)) (a:=⟨w.heap.size+1+1,1,none⟩) hzl (.slice bL RL.length cL)) ((hRA.setLow (a:=⟨w.heap.size+1+1,0,none⟩) hzl (.int .i64 n)).setLow (a:=⟨w.heap.size+1+1,1,none⟩) hzl (.slice bL RL.length cL))
   have z0:(w9.alloc (.cells #[.int .i64 n,.slice bL RL.length cL] 24)).cell? ⟨w.heap.size+1+1,0,none⟩ = some (.int .i64 0):=by rw [World.cell?,hzA];rfl
   have z1:(w9.alloc (.cells #[.int .i64 n,.slice bL RL.length cL] 24)).cell? ⟨w.heap.size+1+1,1,none⟩ = some (.slice none 0 0):=by rw [World.cell?,hzA];rfl
   have y0:(w9.alloc (.cells #[.int .i64 n,.slice bL RL.length cL] 24)).frozen? ⟨w.heap.size+1+1,0,none⟩ = false:=by simp [World.frozen?,hzA]
   have y1:(w9.alloc (.cells #[.int .i64 n,.slice bL RL.length cL] 24)).frozen? ⟨w.heap.size+1+1,1,none⟩ = false:=by simp [World.frozen?,hzA]
   have hBA:=(hBw.out.trans (hb9.mono hBw.out.size)).trans (hxR.below.mono (Nat.le_trans hBw.out.size hb9.size))
   have hfn:=Lib.hid (And.intro hsl2 ((hBA.setCell (p:=⟨w.heap.size+1+1,0,none⟩) (by show w.heap.size≤w.heap.size+1+1;omega) (.int .i64 n)).setCell (p:=⟨w.heap.size+1+1,1,none⟩) (by show w.heap.size≤w.heap.size+1+1;omega) (.slice bL RL.length cL)))
   replace t0:=Lib.hid t0
   replace t1:=Lib.hid t1
   clear q4 hz9 ho9 hR9 hb9 hzl hxR hnR hzA hoA hRA hsl2 hBA n0 n1 pn
   go_wp2_with fail
   exact bodyPost_ret (v:=.tuple #[.agg #[.int .i64 n,.slice bL RL.length cL],.int .i64 0]) (by simp [results,Tryz.results18,go_sem,t0.out,t1.out]) rfl ⟨_,rfl,by rw [←hRL.out];exact hfn.out.1,hfn.out.2⟩
end Go.Proofs.YtckhohpbokojdaaGreatDoor
