import Derived.Test.YtckhohpbokojdaaGreatDoorMN33
set_option linter.unusedSimpArgs false
set_option linter.unusedVariables false
namespace Go.Proofs.YtckhohpbokojdaaGreatDoor
open Go Go.RowKit Go.Shelf
def givK (l:List Int) (z:Int):Int:=if z∈l then 1 else if -z∈l then 0 else 2
theorem givK_cases (l:List Int) (z:Int):givK l z = 0∨givK l z = 1∨givK l z = 2:=by
 unfold givK
 split
 ·exact .inr (.inl rfl)
 ·split
  ·exact .inl rfl
  ·exact .inr (.inr rfl)
theorem rep_giv {l t:List Int} (h:∀ z,z∈l↔z∈t) (y:L.ND):repN (givK l) y = L.givND t y:=by
 unfold repN L.givND givK
 by_cases h1:y.kind = 2
 ·rw [if_pos h1,if_pos h1]
  by_cases h2:y.lit∈l
  ·have h3:=(h _).1 h2
   rw [if_pos h2,if_pos h3,if_neg (by decide)]
  ·have h3:y.lit∉t:=fun e=>h2 ((h _).2 e)
   rw [if_neg h2,if_neg h3]
   by_cases h4:-y.lit∈l
   ·have h5:=(h _).1 h4
    rw [if_pos h4,if_pos h5,if_neg (by decide)]
   ·have h5:-y.lit∉t:=fun e=>h4 ((h _).2 e)
    rw [if_neg h4,if_neg h5,if_pos rfl]
 ·rw [if_neg h1,if_neg h1]
set_option maxRecDepth 100000 in
set_option maxHeartbeats 1000000 in
theorem given1_any {l:List Int} {v:Value} {z:Int} {lb:Nat} {w:World} (hc:w.cell? ⟨lb,0,none⟩ = some v) (hs:SlI w v l) (hl:l.length≤9223372036854775807) (h0:-128≤z) (h1:z≤128):Calls Tryz.prog 38 #[.int .i64 z,.pointer (some ⟨lb,0,none⟩)] w fun e w'=>e = .returned (.int .i64 (givK l z))∧w = w':=by
 have q1:=containsI_any (x:=z) hs hl
 have q2:=containsI_any (x:=-z) hs hl
 obtain ⟨ba,cp,rfl,-⟩:=hs
 have hwr:IntKind.i64.wrap (-z) = -z:=IntWalk.i64_in _ (by omega)
 by_cases m1:z∈l
 ·have hk:Hid (givK l z = 1):=Lib.hid (by unfold givK;rw [if_pos m1])
  rw [decide_eq_true m1] at q1
  replace m1:=Lib.hid m1
  skip
  go_enter Tryz.func38,Tryz.ntmps38
  go_wp2_with fail
  refine q1.mono ?_
  rintro e w2 ⟨rfl,rfl⟩
  clear q1 q2
  go_wp2_with fail
  go_ret
  exact ⟨by rw [hk.out] <;> rfl,rfl⟩
 ·rw [decide_eq_false m1] at q1
  by_cases m2:-z∈l
  ·have hk:Hid (givK l z = 0):=Lib.hid (by unfold givK;rw [if_neg m1,if_pos m2])
   rw [decide_eq_true m2] at q2
   replace m1:=Lib.hid m1
   replace m2:=Lib.hid m2
   skip
   go_enter Tryz.func38,Tryz.ntmps38
   go_wp2_with fail
   refine q1.mono ?_
   rintro e w2 ⟨rfl,rfl⟩
   clear q1
   go_wp2_with fail
   refine q2.mono ?_
   rintro e w2 ⟨rfl,rfl⟩
   clear q2
   go_wp2_with fail
   go_ret
   exact ⟨by rw [hk.out] <;> rfl,rfl⟩
  ·have hk:Hid (givK l z = 2):=Lib.hid (by unfold givK;rw [if_neg m1,if_neg m2])
   rw [decide_eq_false m2] at q2
   replace m1:=Lib.hid m1
   replace m2:=Lib.hid m2
   skip
   go_enter Tryz.func38,Tryz.ntmps38
   go_wp2_with fail
   refine q1.mono ?_
   rintro e w2 ⟨rfl,rfl⟩
   clear q1
   go_wp2_with fail
   refine q2.mono ?_
   rintro e w2 ⟨rfl,rfl⟩
   clear q2
   go_wp2_with fail
   go_ret
   exact ⟨by rw [hk.out] <;> rfl,rfl⟩
set_option maxRecDepth 100000 in
set_option maxHeartbeats 4000000 in
theorem condgiven_bad {n:Int} {C:List L.Gt} {v tv:Value} {w:World} (hv:SlC w v C) (hc:L.netChk n C≠0) (hl:C.length≤9223372036854775807) (h2:∀ g∈C,g.inp.length≤9223372036854775807) :
  Calls Tryz.prog 13 #[.agg #[.int .i64 n,v],tv] w fun e w'=>e = .returned (.tuple #[.agg #[.int .i64 0,.slice none 0 0],.int .i64 1])∧Below w.heap.size w w':=by
 have hc1:L.netChk n C = 1:=(L.netChk_cases n C).resolve_left hc
 have hxx:∀ x y,Ext w ((w.alloc x).alloc y):=fun x y=>((Ext.refl w).alloc _).alloc _
 have q1:=fun (W:World) (hW:Ext w W)=>ncheck_any (n:=n) (hv.ext hW.below) h2 hl
 simp only [hc1] at q1
 obtain ⟨ba,cp,rfl,-⟩:=hv.shape
 generalize C.length = m at *
 have hx2:Ext w ((w.alloc (.cells #[.int .i64 n,.slice ba m cp] 24)).alloc (.cells #[.int .i64 0,.slice none 0 0] 24)):=hxx _ _
 obtain ⟨e0,e1⟩:=alloc2h w (.cells #[.int .i64 n,.slice ba m cp] 24) (.cells #[.int .i64 0,.slice none 0 0] 24)
 have p0:((w.alloc (.cells #[.int .i64 n,.slice ba m cp] 24)).alloc (.cells #[.int .i64 0,.slice none 0 0] 24)).cell? ⟨w.heap.size,0,none⟩ = some (.int .i64 n):=by rw [World.cell?,e0];rfl
 have p1:((w.alloc (.cells #[.int .i64 n,.slice ba m cp] 24)).alloc (.cells #[.int .i64 0,.slice none 0 0] 24)).cell? ⟨w.heap.size,1,none⟩ = some (.slice ba m cp):=by rw [World.cell?,e0];rfl
 replace q1:=q1 _ hx2
 replace hx2:=Lib.hid hx2
 replace e0:=Lib.hid e0
 replace e1:=Lib.hid e1
 clear hc hc1 hv hxx
 go_enter Tryz.func13,Tryz.ntmps13
 go_wp2_with fail
 refine q1.mono ?_
 rintro e w3 ⟨rfl,hx3⟩
 have hz:=(hx3.below.block _ (Array.getElem?_eq_some_iff.1 e1.out).1).trans e1.out
 have z0:w3.cell? ⟨w.heap.size+1,0,none⟩ = some (.int .i64 0):=by rw [World.cell?,hz];rfl
 have z1:w3.cell? ⟨w.heap.size+1,1,none⟩ = some (.slice none 0 0):=by rw [World.cell?,hz];rfl
 have y0:w3.frozen? ⟨w.heap.size+1,0,none⟩ = false:=by simp [World.frozen?,hz]
 have y1:w3.frozen? ⟨w.heap.size+1,1,none⟩ = false:=by simp [World.frozen?,hz]
 obtain ⟨t0,t1⟩:=box2_set hz (.int .i64 0) (.slice none 0 0)
 have hB:=Lib.hid (((hx2.out.trans hx3).below.setCell (Nat.le_succ _) (.int .i64 0) (p:=⟨w.heap.size+1,0,none⟩)).setCell (Nat.le_succ _) (.slice none 0 0) (p:=⟨w.heap.size+1,1,none⟩))
 replace t0:=Lib.hid t0
 replace t1:=Lib.hid t1
 clear q1 hz hx3 p0 p1
 go_wp2_with fail
 exact bodyPost_ret (v:=.tuple #[.agg #[.int .i64 0,.slice none 0 0],.int .i64 1]) (by simp [results,Tryz.results13,go_sem,t0.out,t1.out]) rfl ⟨rfl,hB.out⟩
set_option maxRecDepth 100000 in
set_option maxHeartbeats 8000000 in
theorem given_no {n:Int} {C:List L.Gt} {t:List Int} {v tv:Value} {w:World} (hv:SlC w v C) (hc:L.netChk n C = 0) (hl:C.length≤9223372036854775807) (h2:∀ g∈C,g.inp.length≤9223372036854775807) (ht:SlI w tv t) (htl:t.length≤1048576) (hno:¬ L.TermL n t) :
  Calls Tryz.prog 13 #[.agg #[.int .i64 n,v],tv] w fun e w'=>e = .returned (.tuple #[.agg #[.int .i64 0,.slice none 0 0],.int .i64 1])∧Below w.heap.size w w':=by
 obtain ⟨hn,-⟩:=L.netChk_ok.1 hc
 have hxx:∀ x y,Ext w ((w.alloc x).alloc y):=fun x y=>((Ext.refl w).alloc _).alloc _
 have q1:=fun (W:World) (hW:Ext w W)=>ncheck_any (n:=n) (hv.ext hW.below) h2 hl
 have q2:=fun (W:World) (hW:Ext w W)=>term_any (n:=n) hn (ht.ext hW.below) htl
 simp only [hc] at q1
 obtain ⟨ba,cp,rfl,-⟩:=hv.shape
 obtain ⟨tb,tc,rfl,-⟩:=ht
 generalize C.length = m at *
 generalize t.length = tm at *
 have hx2:Ext w ((w.alloc (.cells #[.int .i64 n,.slice ba m cp] 24)).alloc (.cells #[.int .i64 0,.slice none 0 0] 24)):=hxx _ _
 obtain ⟨e0,e1⟩:=alloc2h w (.cells #[.int .i64 n,.slice ba m cp] 24) (.cells #[.int .i64 0,.slice none 0 0] 24)
 have p0:((w.alloc (.cells #[.int .i64 n,.slice ba m cp] 24)).alloc (.cells #[.int .i64 0,.slice none 0 0] 24)).cell? ⟨w.heap.size,0,none⟩ = some (.int .i64 n):=by rw [World.cell?,e0];rfl
 have p1:((w.alloc (.cells #[.int .i64 n,.slice ba m cp] 24)).alloc (.cells #[.int .i64 0,.slice none 0 0] 24)).cell? ⟨w.heap.size,1,none⟩ = some (.slice ba m cp):=by rw [World.cell?,e0];rfl
 replace q1:=q1 _ hx2
 replace q2:=Lib.hid q2
 replace hx2:=Lib.hid hx2
 replace e0:=Lib.hid e0
 replace e1:=Lib.hid e1
 replace hno:=Lib.hid hno
 clear hc hv hxx
 go_enter Tryz.func13,Tryz.ntmps13
 go_wp2_with fail
 refine q1.mono ?_
 rintro e w3 ⟨rfl,hx3⟩
 have hx03:=hx2.out.trans hx3
 have hz3:=(hx3.below.block _ (Array.getElem?_eq_some_iff.1 e1.out).1).trans e1.out
 have p0':=hx3.cell p0
 have qt:=q2.out w3 hx03
 replace hx03:=Lib.hid hx03
 replace hz3:=Lib.hid hz3
 clear q1 q2 hx3 p0 p1
 go_wp2_with fail
 refine qt.mono ?_
 rintro e w4 ⟨v',l',b',rfl,hb1,hb2,hb4,vb,vn,vc,rfl⟩
 obtain rfl:b' = false:=by
  cases b' with
  | false=>rfl
  | true=>exact absurd (hb1.1 rfl) hno.out
 have hx5:=(Ext.refl w4).alloc (.cells #[.slice vb vn vc] 25)
 have hz:=(hx5.below.block _ (Nat.lt_of_lt_of_le (Array.getElem?_eq_some_iff.1 hz3.out).1 hb4.size)).trans ((hb4.block _ (Array.getElem?_eq_some_iff.1 hz3.out).1).trans hz3.out)
 have z0:(w4.alloc (.cells #[.slice vb vn vc] 25)).cell? ⟨w.heap.size+1,0,none⟩ = some (.int .i64 0):=by rw [World.cell?,hz];rfl
 have z1:(w4.alloc (.cells #[.slice vb vn vc] 25)).cell? ⟨w.heap.size+1,1,none⟩ = some (.slice none 0 0):=by rw [World.cell?,hz];rfl
 have y0:(w4.alloc (.cells #[.slice vb vn vc] 25)).frozen? ⟨w.heap.size+1,0,none⟩ = false:=by simp [World.frozen?,hz]
 have y1:(w4.alloc (.cells #[.slice vb vn vc] 25)).frozen? ⟨w.heap.size+1,1,none⟩ = false:=by simp [World.frozen?,hz]
 obtain ⟨t0,t1⟩:=box2_set hz (.int .i64 0) (.slice none 0 0)
 have hB:=Lib.hid (((hx03.out.below.trans ((hb4.trans (hx5.below.mono hb4.size)).mono hx03.out.size)).setCell (Nat.le_succ _) (.int .i64 0) (p:=⟨w.heap.size+1,0,none⟩)).setCell (Nat.le_succ _) (.slice none 0 0) (p:=⟨w.heap.size+1,1,none⟩))
 replace t0:=Lib.hid t0
 replace t1:=Lib.hid t1
 clear qt hz hx5 p0' hb1 hb2 hb4
 go_wp2_with fail
 exact bodyPost_ret (v:=.tuple #[.agg #[.int .i64 0,.slice none 0 0],.int .i64 1]) (by simp [results,Tryz.results13,go_sem,t0.out,t1.out]) rfl ⟨rfl,hB.out⟩
set_option maxRecDepth 100000 in
set_option maxHeartbeats 8000000 in
theorem given_ok {n:Int} {nl:List L.ND} {t:List Int} {v tv:Value} {w:World} (hv:SlC w v (nl.map L.ofND)) (hc:L.netChk n (nl.map L.ofND) = 0) (hl:nl.length≤2000) (h2:∀ y∈nl,y.inp.length≤100000) (ht:SlI w tv t) (htl:t.length≤1048576) (hT:L.TermL n t) (hP:PowTab w) (hgP:gPow < w.heap.size) :
  Calls Tryz.prog 13 #[.agg #[.int .i64 n,v],tv] w fun e w'=>∃ vL us,e = .returned (.tuple #[.agg #[.int .i64 n,vL],.int .i64 0])∧w'.ownsRow w.heap.size 40 3 vL (L.reduceL (nl.map (L.givND t))).length (gCells ((L.reduceL (nl.map (L.givND t))).map L.ofND) us)∧RowsOf w' w.heap.size us ((L.reduceL (nl.map (L.givND t))).map fun y=>castL y.inp)∧Below w.heap.size w w':=by
 obtain ⟨hn,-⟩:=L.netChk_ok.1 hc
 have hxx:∀ x y,Ext w ((w.alloc x).alloc y):=fun x y=>((Ext.refl w).alloc _).alloc _
 have q1:=fun (W:World) (hW:Ext w W)=>ncheck_any (n:=n) (hv.ext hW.below) (fun g hg=>by
  obtain ⟨y,hy,rfl⟩:=List.mem_map.1 hg
  have:=h2 y hy
  have e:(L.ofND y).inp.length = y.inp.length:=castL_len y.inp
  omega) (by rw [List.length_map];omega)
 have q2:=fun (W:World) (hW:Ext w W)=>term_any (n:=n) hn (ht.ext hW.below) htl
 simp only [hc] at q1
 have hK1:∀ (c:Array Value) (w:World),(callFunc 38 c).run Tryz.prog w = .ok (.enter 38 c) w:=fun c w=>by simp [go_sem,Tryz.func38]
 have hmf:∀ (fn:Fn) (first cap:Array Value) (w:World),(Instr.makeFunc fn first cap).run Tryz.prog w = .ok (.func fn first cap) w:=fun _ _ _ _=>rfl
 have q3:=fun (l':List Int) (lb:Nat) (v':Value) (W:World) (hW:Below w.heap.size w W) (hlb:W.heap[lb]? = some (.cells #[v'] 25 (0,0))) (hs:SlI W v' l') (hl':l'.length≤1048576)=>replaced_any (fm:=38) (q:=.pointer (some ⟨lb,0,none⟩)) (κ:=givK l') (w:=W) hK1 (givK_cases l') (fun z V h0 h1 hV=>by
  have f:=(hV.block _ (Array.getElem?_eq_some_iff.1 hlb).1).trans hlb
  refine (given1_any (v:=v') (by rw [World.cell?,f];rfl) (hs.ext hV) (by omega) h0 h1).mono ?_
  rintro e w' ⟨rfl,rfl⟩
  exact ⟨rfl,Below.refl _ _⟩) (hv.ext hW) hc hl h2 (hP.below hW) (Nat.lt_of_lt_of_le hgP hW.size)
 have hrep:∀ l':List Int,(∀ z,z∈l'↔z∈t)→nl.map (repN (givK l')) = nl.map (L.givND t):=fun l' h=>List.map_congr_left fun y _=>rep_giv h y
 obtain ⟨ba,cp,rfl,-⟩:=hv.shape
 obtain ⟨tb,tc,rfl,-⟩:=ht
 simp only [List.length_map] at q1 q3 ⊢
 obtain ⟨RL,hRL⟩:∃ RL,RL = L.reduceL (nl.map (L.givND t)):=⟨_,rfl⟩
 have hq3:∀ (l':List Int),(∀ z,z∈l'↔z∈t)→L.reduceL (nl.map (repN (givK l'))) = RL:=fun l' h=>by rw [hrep l' h,hRL]
 rw [←hRL]
 generalize nl.length = m at *
 generalize t.length = tm at *
 have hx2:Ext w ((w.alloc (.cells #[.int .i64 n,.slice ba m cp] 24)).alloc (.cells #[.int .i64 0,.slice none 0 0] 24)):=hxx _ _
 obtain ⟨e0,e1⟩:=alloc2h w (.cells #[.int .i64 n,.slice ba m cp] 24) (.cells #[.int .i64 0,.slice none 0 0] 24)
 have p0:((w.alloc (.cells #[.int .i64 n,.slice ba m cp] 24)).alloc (.cells #[.int .i64 0,.slice none 0 0] 24)).cell? ⟨w.heap.size,0,none⟩ = some (.int .i64 n):=by rw [World.cell?,e0];rfl
 have p1:((w.alloc (.cells #[.int .i64 n,.slice ba m cp] 24)).alloc (.cells #[.int .i64 0,.slice none 0 0] 24)).cell? ⟨w.heap.size,1,none⟩ = some (.slice ba m cp):=by rw [World.cell?,e0];rfl
 replace q1:=q1 _ hx2
 replace q2:=Lib.hid q2
 replace q3:=Lib.hid q3
 replace hq3:=Lib.hid hq3
 replace hRL:=Lib.hid hRL
 replace hx2:=Lib.hid hx2
 replace e0:=Lib.hid e0
 replace e1:=Lib.hid e1
 replace hT:=Lib.hid hT
 replace h2:=Lib.hid h2
 clear hc hxx hrep
 go_enter Tryz.func13,Tryz.ntmps13
 go_wp2_with fail
 refine q1.mono ?_
 rintro e w3 ⟨rfl,hx3⟩
 have hx03:=hx2.out.trans hx3
 have hz3:=(hx3.below.block _ (Array.getElem?_eq_some_iff.1 e1.out).1).trans e1.out
 have p0':=hx3.cell p0
 have p1':=hx3.cell p1
 have qt:=q2.out w3 hx03
 replace hx03:=Lib.hid hx03
 replace hz3:=Lib.hid hz3
 clear q1 q2 hx3 p0 p1
 go_wp2_with fail
 refine qt.mono ?_
 rintro e w4 ⟨v',l',b',rfl,hb1,hb2,hb4,vb,vn,vc,rfl⟩
 obtain rfl:b' = true:=hb1.2 hT.out
 obtain ⟨hs4,hl4,hm4⟩:=hb2 rfl
 have hx5:=(Ext.refl w4).alloc (.cells #[.slice vb vn vc] 25)
 have hn5:=heap_alloc_new w4 (.cells #[.slice vb vn vc] 25)
 have hz:=(hx5.below.block _ (Nat.lt_of_lt_of_le (Array.getElem?_eq_some_iff.1 hz3.out).1 hb4.size)).trans ((hb4.block _ (Array.getElem?_eq_some_iff.1 hz3.out).1).trans hz3.out)
 have p05:=hx5.cell ((hb4.cell (World.block_lt_of_cell? _ _ p0')).trans p0')
 have p15:=hx5.cell ((hb4.cell (World.block_lt_of_cell? _ _ p1')).trans p1')
 have hB5:Below w.heap.size w (w4.alloc (.cells #[.slice vb vn vc] 25)):=hx03.out.below.trans ((hb4.trans (hx5.below.mono hb4.size)).mono hx03.out.size)
 have qr:=q3.out l' w4.heap.size (.slice vb vn vc) _ hB5 hn5 (hs4.ext hx5.below) hl4
 rw [hq3.out l' hm4] at qr
 replace hz:=Lib.hid hz
 replace hB5:=Lib.hid hB5
 clear qt hx5 hn5 p0' p1' hb1 hb2 hb4 hs4 hm4 hl4 q3
 go_wp2_with fail
 refine qr.mono ?_
 rintro e w9 ⟨vL,us,rfl,ho9,hR9,hb9⟩
 have hzl:=(Array.getElem?_eq_some_iff.1 hz.out).1
 have hz9:=(hb9.block _ hzl).trans hz.out
 obtain ⟨bL,cL,rfl⟩:∃ b c,vL = .slice b RL.length c:=by
  obtain ⟨_,⟨rfl,e⟩ | ⟨g,cap,cur,rfl,_⟩⟩:=ho9
  ·rw [e];exact ⟨_,_,rfl⟩
  ·exact ⟨_,_,rfl⟩
 have z0:w9.cell? ⟨w.heap.size+1,0,none⟩ = some (.int .i64 0):=by rw [World.cell?,hz9];rfl
 have z1:w9.cell? ⟨w.heap.size+1,1,none⟩ = some (.slice none 0 0):=by rw [World.cell?,hz9];rfl
 have y0:w9.frozen? ⟨w.heap.size+1,0,none⟩ = false:=by simp [World.frozen?,hz9]
 have y1:w9.frozen? ⟨w.heap.size+1,1,none⟩ = false:=by simp [World.frozen?,hz9]
 obtain ⟨t0,t1⟩:=box2_set hz9 (.int .i64 n) (.slice bL RL.length cL)
 have hwl:=hB5.out.size
 have hB9:=hB5.out.trans (hb9.mono hwl)
 have hfn:=Lib.hid (And.intro (own_weak (ownsRow_setCell_below (ownsRow_setCell_below ho9 (a:=⟨w.heap.size+1,0,none⟩) hzl (.int .i64 n)) (a:=⟨w.heap.size+1,1,none⟩) hzl (.slice bL RL.length cL)) hwl) (And.intro (((hR9.setLow (a:=⟨w.heap.size+1,0,none⟩) hzl (.int .i64 n)).setLow (a:=⟨w.heap.size+1,1,none⟩) hzl (.slice bL RL.length cL)).weak hwl) ((hB9.setCell (Nat.le_succ _) (.int .i64 n) (p:=⟨w.heap.size+1,0,none⟩)).setCell (Nat.le_succ _) (.slice bL RL.length cL) (p:=⟨w.heap.size+1,1,none⟩))))
 replace t0:=Lib.hid t0
 replace t1:=Lib.hid t1
 clear qr hz9 ho9 hR9 hb9 hB9 p05 p15 hzl hwl hz hB5
 go_wp2_with fail
 exact bodyPost_ret (v:=.tuple #[.agg #[.int .i64 n,.slice bL RL.length cL],.int .i64 0]) (by simp [results,Tryz.results13,go_sem,t0.out,t1.out]) rfl ⟨_,us,rfl,hfn.out.1,hfn.out.2.1,hfn.out.2.2⟩
end Go.Proofs.YtckhohpbokojdaaGreatDoor
