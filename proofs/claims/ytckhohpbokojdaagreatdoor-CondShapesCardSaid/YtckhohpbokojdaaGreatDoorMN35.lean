import Derived.Test.YtckhohpbokojdaaGreatDoorMN34
set_option linter.unusedSimpArgs false
set_option linter.unusedVariables false
namespace Go.Proofs.YtckhohpbokojdaaGreatDoor
open Go Go.RowKit Go.Shelf
def forK (s:VSet) (z:Int):Int:=if hasS s (varF z) = true then 1 else 2
theorem forK_cases (s:VSet) (z:Int):forK s z = 0∨forK s z = 1∨forK s z = 2:=by
 unfold forK
 split
 ·exact .inr (.inl rfl)
 ·exact .inr (.inr rfl)
theorem rep_for {n:Int} {s:VSet} (hn:n≤128) {y:L.ND} (hy:y.kind = 2→-n≤y.lit∧y.lit≤n):repN (forK s) y = L.forND s y:=by
 unfold repN L.forND forK
 by_cases h1:y.kind = 2
 ·have:=hy h1
  rw [if_pos h1,varF_abs (by omega)]
  by_cases h2:hasS s (y.lit.natAbs:Int) = true
  ·rw [if_pos h2,if_neg (by decide),if_pos ⟨h1,h2⟩]
  ·rw [if_neg h2,if_pos rfl,if_neg (fun e=>h2 e.2)]
 ·rw [if_neg h1,if_neg (fun e=>h1 e.1)]
set_option maxRecDepth 100000 in
set_option maxHeartbeats 1000000 in
theorem forget1_any {s:VSet} {z:Int} {sb:Nat} {w:World} (hc:w.heap[sb]? = some (.cells #[.int .u64 (lo s),.int .u64 (hi s)] 37 (0,0))):Calls Tryz.prog 45 #[.int .i64 z,.pointer (some ⟨sb,0,none⟩)] w fun e w'=>e = .returned (.int .i64 (forK s z))∧Ext w w':=by
 have c:∀ V,Ext w V→V.cell? ⟨sb,0,none⟩ = some (.int .u64 (lo s))∧V.cell? ⟨sb,1,none⟩ = some (.int .u64 (hi s)):=fun V hV=>by
  have f:=(hV.below.block _ (Array.getElem?_eq_some_iff.1 hc).1).trans hc
  exact ⟨by rw [World.cell?,f];rfl,by rw [World.cell?,f];rfl⟩
 have qv:=fun V=>var_any z V
 have hr:-9223372036854775808≤varF z∧varF z≤9223372036854775807:=by unfold varF;repeat' split <;> omega
 have qh:=fun V=>has_any s (varF z) V hr.1 hr.2
 have hdef:forK s z = if hasS s (varF z) = true then 1 else 2:=rfl
 obtain ⟨B,hB⟩:∃ B,B = hasS s (varF z):=⟨_,rfl⟩
 rw [←hB] at hdef
 simp only [←hB] at qh
 generalize varF z = v at *
 replace c:=Lib.hid c
 replace hB:=Lib.hid hB
 replace qv:=Lib.hid qv
 replace qh:=Lib.hid qh
 replace hdef:=Lib.hid hdef
 clear hc hr
 cases B
 ·go_enter Tryz.func45,Tryz.ntmps45
  go_wp2_with fail
  (refine wp_region_below (by kernel_rfl) (by kernel_rfl) ?_
   repeat (refine wpQuiet_step (fun K hK=>?_)
           go_simp
           first
            | (refine hK _ ?_;clear hK K)
            | (replace hK:=Lib.hid hK
               apply Exists.intro
               refine ⟨fun wq hq=>?_,hK.out _ ?_⟩
               ·(obtain ⟨f1,f2⟩:=c.out wq hq)
                go_simp
                first
                 | done
                 | first | (refine (qv.out wq).mono ?_;rintro e w' ⟨rfl,rfl⟩;exact ⟨rfl,hq⟩) | (refine (qh.out wq).mono ?_;rintro e w' ⟨rfl,hb⟩;exact ⟨rfl,hq.trans hb⟩)
                 | rfl
                 | exact ⟨rfl,rfl⟩
               clear hK K))
   refine wpQuiet_nil ?_)
  intro w2 hw2
  replace hw2:=Lib.hid hw2
  go_wp2_with fail
  go_ret
  exact ⟨by rw [hdef.out] <;> rfl,hw2.out⟩
 ·go_enter Tryz.func45,Tryz.ntmps45
  go_wp2_with fail
  (refine wp_region_below (by kernel_rfl) (by kernel_rfl) ?_
   repeat (refine wpQuiet_step (fun K hK=>?_)
           go_simp
           first
            | (refine hK _ ?_;clear hK K)
            | (replace hK:=Lib.hid hK
               apply Exists.intro
               refine ⟨fun wq hq=>?_,hK.out _ ?_⟩
               ·(obtain ⟨f1,f2⟩:=c.out wq hq)
                go_simp
                first
                 | done
                 | first | (refine (qv.out wq).mono ?_;rintro e w' ⟨rfl,rfl⟩;exact ⟨rfl,hq⟩) | (refine (qh.out wq).mono ?_;rintro e w' ⟨rfl,hb⟩;exact ⟨rfl,hq.trans hb⟩)
                 | rfl
                 | exact ⟨rfl,rfl⟩
               clear hK K))
   refine wpQuiet_nil ?_)
  intro w2 hw2
  replace hw2:=Lib.hid hw2
  go_wp2_with fail
  go_ret
  exact ⟨by rw [hdef.out] <;> rfl,hw2.out⟩
set_option maxRecDepth 100000 in
set_option maxHeartbeats 8000000 in
theorem forget_ok {n:Int} {nl:List L.ND} {s:VSet} {v:Value} {w:World} (hv:SlC w v (nl.map L.ofND)) (hc:L.netChk n (nl.map L.ofND) = 0) (hl:nl.length≤2000) (h2:∀ y∈nl,y.inp.length≤100000) (hD:decF nl = true) (hP:PowTab w) (hgP:gPow < w.heap.size) :
  Calls Tryz.prog 17 #[.agg #[.int .i64 n,v],.agg #[.int .u64 (lo s),.int .u64 (hi s)]] w fun e w'=>∃ vL us,e = .returned (.tuple #[.agg #[.int .i64 n,vL],.int .i64 0])∧w'.ownsRow w.heap.size 40 3 vL (L.reduceL (nl.map (L.forND s))).length (gCells ((L.reduceL (nl.map (L.forND s))).map L.ofND) us)∧RowsOf w' w.heap.size us ((L.reduceL (nl.map (L.forND s))).map fun y=>castL y.inp)∧Below w.heap.size w w':=by
 have hnok:L.NOK n nl:=by
  have:=(L.net_nok hc).1
  rwa [List.map_map,show (L.toND ∘ L.ofND) = id from funext L.toND_ofND,List.map_id] at this
 obtain ⟨hn,-⟩:=L.netChk_ok.1 hc
 have hrep:nl.map (repN (forK s)) = nl.map (L.forND s):=List.map_congr_left fun y hy=>rep_for hn.2 fun hk=>by
  rcases hnok.form y hy with e | e | e
  ·omega
  ·exact e.2.1.2
  ·omega
 have hxx:∀ x y z,Ext w (((w.alloc x).alloc y).alloc z):=fun x y z=>(((Ext.refl w).alloc _).alloc _).alloc _
 have q1:=fun (W:World) (hW:Ext w W)=>ncheck_any (n:=n) (hv.ext hW.below) (fun g hg=>by
  obtain ⟨y,hy,rfl⟩:=List.mem_map.1 hg
  have:=h2 y hy
  have e:(L.ofND y).inp.length = y.inp.length:=castL_len y.inp
  omega) (by rw [List.length_map];omega)
 have q2:=fun (W:World) (hW:Ext w W)=>decomp_ok (n:=n) (hv.ext hW.below) hc (by omega) h2
 simp only [hc,hD] at q1 q2
 have hK1:∀ (c:Array Value) (w:World),(callFunc 45 c).run Tryz.prog w = .ok (.enter 45 c) w:=fun c w=>by simp [go_sem,Tryz.func45]
 have hmf:∀ (fn:Fn) (first cap:Array Value) (w:World),(Instr.makeFunc fn first cap).run Tryz.prog w = .ok (.func fn first cap) w:=fun _ _ _ _=>rfl
 have q3:=fun (sb:Nat) (W:World) (hW:Below w.heap.size w W) (hsb:W.heap[sb]? = some (.cells #[.int .u64 (lo s),.int .u64 (hi s)] 37 (0,0)))=>replaced_any (fm:=45) (q:=.pointer (some ⟨sb,0,none⟩)) (κ:=forK s) (w:=W) hK1 (forK_cases s) (fun z V h0 h1 hV=>by
  have f:=(hV.block _ (Array.getElem?_eq_some_iff.1 hsb).1).trans hsb
  refine (forget1_any f).mono ?_
  rintro e w' ⟨rfl,h⟩
  exact ⟨rfl,h.below⟩) (hv.ext hW) hc hl h2 (hP.below hW) (Nat.lt_of_lt_of_le hgP hW.size)
 obtain ⟨ba,cp,rfl,-⟩:=hv.shape
 simp only [List.length_map,hrep] at q1 q2 q3 ⊢
 obtain ⟨RL,hRL⟩:∃ RL,RL = L.reduceL (nl.map (L.forND s)):=⟨_,rfl⟩
 simp only [←hRL] at q3 ⊢
 generalize nl.length = m at *
 have hx2:Ext w (((w.alloc (.cells #[.int .i64 n,.slice ba m cp] 24)).alloc (.cells #[.int .u64 (lo s),.int .u64 (hi s)] 37)).alloc (.cells #[.int .i64 0,.slice none 0 0] 24)):=hxx _ _ _
 obtain ⟨e0,e2,e1⟩:=alloc3h w (.cells #[.int .i64 n,.slice ba m cp] 24) (.cells #[.int .u64 (lo s),.int .u64 (hi s)] 37) (.cells #[.int .i64 0,.slice none 0 0] 24)
 have p0:(((w.alloc (.cells #[.int .i64 n,.slice ba m cp] 24)).alloc (.cells #[.int .u64 (lo s),.int .u64 (hi s)] 37)).alloc (.cells #[.int .i64 0,.slice none 0 0] 24)).cell? ⟨w.heap.size,0,none⟩ = some (.int .i64 n):=by rw [World.cell?,e0];rfl
 have p1:(((w.alloc (.cells #[.int .i64 n,.slice ba m cp] 24)).alloc (.cells #[.int .u64 (lo s),.int .u64 (hi s)] 37)).alloc (.cells #[.int .i64 0,.slice none 0 0] 24)).cell? ⟨w.heap.size,1,none⟩ = some (.slice ba m cp):=by rw [World.cell?,e0];rfl
 replace q1:=q1 _ hx2
 replace q2:=Lib.hid q2
 replace q3:=Lib.hid q3
 replace hRL:=Lib.hid hRL
 replace hx2:=Lib.hid hx2
 replace e0:=Lib.hid e0
 replace e1:=Lib.hid e1
 replace e2:=Lib.hid e2
 replace h2:=Lib.hid h2
 replace hnok:=Lib.hid hnok
 clear hc hxx hrep hD
 go_enter Tryz.func17,Tryz.ntmps17
 go_wp2_with fail
 refine q1.mono ?_
 rintro e w3 ⟨rfl,hx3⟩
 have hx03:=hx2.out.trans hx3
 have hz3:=(hx3.below.block _ (Array.getElem?_eq_some_iff.1 e1.out).1).trans e1.out
 have hs3:=(hx3.below.block _ (Array.getElem?_eq_some_iff.1 e2.out).1).trans e2.out
 have p0':=hx3.cell p0
 have p1':=hx3.cell p1
 have qt:=q2.out w3 hx03
 replace hx03:=Lib.hid hx03
 replace hz3:=Lib.hid hz3
 replace hs3:=Lib.hid hs3
 clear q1 q2 hx3 p0 p1
 go_wp2_with fail
 refine qt.mono ?_
 rintro e w4 ⟨rfl,hb4⟩
 have hz:=(hb4.block _ (Array.getElem?_eq_some_iff.1 hz3.out).1).trans hz3.out
 have hs4:=(hb4.block _ (Array.getElem?_eq_some_iff.1 hs3.out).1).trans hs3.out
 have p04:=(hb4.cell (World.block_lt_of_cell? _ _ p0')).trans p0'
 have p14:=(hb4.cell (World.block_lt_of_cell? _ _ p1')).trans p1'
 have hB5:Below w.heap.size w w4:=hx03.out.below.trans (hb4.mono hx03.out.size)
 have qr:=q3.out _ _ hB5 hs4
 replace hz:=Lib.hid hz
 replace hB5:=Lib.hid hB5
 replace hs4:=Lib.hid hs4
 clear qt p0' p1' hb4 q3
 go_wp2_with fail
 refine qr.mono ?_
 rintro e w9 ⟨vL,us,rfl,ho9,hR9,hb9⟩
 have hzl:=(Array.getElem?_eq_some_iff.1 hz.out).1
 have hz9:=(hb9.block _ hzl).trans hz.out
 obtain ⟨bL,cL,rfl⟩:∃ b c,vL = .slice b RL.length c:=by
  obtain ⟨_,⟨rfl,e⟩ | ⟨g,cap,cur,rfl,_⟩⟩:=ho9
  ·rw [e];exact ⟨_,_,rfl⟩
  ·exact ⟨_,_,rfl⟩
 have z0:w9.cell? ⟨w.heap.size+1+1,0,none⟩ = some (.int .i64 0):=by rw [World.cell?,hz9];rfl
 have z1:w9.cell? ⟨w.heap.size+1+1,1,none⟩ = some (.slice none 0 0):=by rw [World.cell?,hz9];rfl
 have y0:w9.frozen? ⟨w.heap.size+1+1,0,none⟩ = false:=by simp [World.frozen?,hz9]
 have y1:w9.frozen? ⟨w.heap.size+1+1,1,none⟩ = false:=by simp [World.frozen?,hz9]
 obtain ⟨t0,t1⟩:=box2_set hz9 (.int .i64 n) (.slice bL RL.length cL)
 have hwl:=hB5.out.size
 have hB9:=hB5.out.trans (hb9.mono hwl)
 have hfn:=Lib.hid (And.intro (own_weak (ownsRow_setCell_below (ownsRow_setCell_below ho9 (a:=⟨w.heap.size+1+1,0,none⟩) hzl (.int .i64 n)) (a:=⟨w.heap.size+1+1,1,none⟩) hzl (.slice bL RL.length cL)) hwl) (And.intro (((hR9.setLow (a:=⟨w.heap.size+1+1,0,none⟩) hzl (.int .i64 n)).setLow (a:=⟨w.heap.size+1+1,1,none⟩) hzl (.slice bL RL.length cL)).weak hwl) ((hB9.setCell (by show _≤w.heap.size+1+1;omega) (.int .i64 n) (p:=⟨w.heap.size+1+1,0,none⟩)).setCell (by show _≤w.heap.size+1+1;omega) (.slice bL RL.length cL) (p:=⟨w.heap.size+1+1,1,none⟩))))
 replace t0:=Lib.hid t0
 replace t1:=Lib.hid t1
 clear qr hz9 ho9 hR9 hb9 hB9 p04 p14 hzl hwl hz hB5
 go_wp2_with fail
 exact bodyPost_ret (v:=.tuple #[.agg #[.int .i64 n,.slice bL RL.length cL],.int .i64 0]) (by simp [results,Tryz.results17,go_sem,t0.out,t1.out]) rfl ⟨_,us,rfl,hfn.out.1,hfn.out.2.1,hfn.out.2.2⟩
end Go.Proofs.YtckhohpbokojdaaGreatDoor
