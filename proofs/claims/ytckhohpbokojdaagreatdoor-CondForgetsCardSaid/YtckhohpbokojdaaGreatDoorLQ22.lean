import Derived.Test.YtckhohpbokojdaaGreatDoorLQ21
set_option linter.unusedSimpArgs false
set_option linter.unusedVariables false
namespace Go.Proofs.YtckhohpbokojdaaGreatDoor
open Go Go.RowKit Go.Shelf
theorem forget_err {n:Int} {C:List L.Gt} {s:VSet} {v:Value} {w:World} (hv:SlC w v C) (hl:C.length≤80) (h2:∀ g∈C,g.inp.length≤20) (hc:L.netChk n C≠0) :
  Calls Tryz.prog 17 #[.agg #[.int .i64 n,v],.agg #[.int .u64 (lo s),.int .u64 (hi s)]] w fun e w'=>e = .returned (.tuple #[.agg #[.int .i64 0,.slice none 0 0],.int .i64 1])∧Below w.heap.size w w' :=
 forget_bad hv hc (by omega) (fun g hg=>by have:=h2 g hg;omega)
def BothF (n:Int) (C:List L.Gt) (s:VSet) (nA eA:Int) (R:List L.Gt):Prop :=
 (R.length≤1000000∧∀ g∈R,g.inp.length≤1048576) ∧
 (∀ (W:World) (v:Value),SlC W v C→PowTab W→gPow < W.heap.size→Calls Tryz.prog 17 #[.agg #[.int .i64 n,v],.agg #[.int .u64 (lo s),.int .u64 (hi s)]] W fun e w'=>∃ vA us,e = .returned (.tuple #[.agg #[.int .i64 nA,vA],.int .i64 eA])∧w'.ownsRow W.heap.size 40 3 vA R.length (gCells R us)∧RowsOf w' W.heap.size us (R.map (·.inp))∧Below W.heap.size W w') ∧
 ∀ (W:World) (v:Value),SlC W v C→Calls Tryz.prog 18 #[.agg #[.int .i64 n,v],.agg #[.int .u64 (lo s),.int .u64 (hi s)]] W fun e w'=>∃ vA,e = .returned (.tuple #[.agg #[.int .i64 nA,vA],.int .i64 eA])∧SlC w' vA R∧Below W.heap.size W w'
theorem both_forget {n:Int} {C:List L.Gt} {s:VSet} (hl:C.length≤80) (h2:∀ g∈C,g.inp.length≤20):∃ nA eA R,BothF n C s nA eA R:=by
 by_cases hc:L.netChk n C = 0
 ·obtain ⟨nl,rfl,hnlC,hnli⟩:=nodes_of hc
  have hnl20:∀ y∈nl,y.inp.length≤20:=fun y hy=>by
   obtain ⟨g,hg,e⟩:=hnli y hy
   have:=h2 g hg
   omega
  cases hD:decF nl with
  | true =>
    obtain ⟨hnok,hne,hn,hl6⟩:=nok_of hc
    obtain ⟨r1,r2,r3,r4,r5⟩:=red_facts hn (L.map_nok hnok _ (L.forND_or s)) (map_ne hne) (by rw [List.length_map];omega)
    rw [List.length_map] at r4
    simp only [List.length_map] at r5
    refine ⟨n,0,(L.reduceL (nl.map (L.forND s))).map L.ofND,⟨by rw [List.length_map];omega,fun g hg=>?_⟩,fun W v hv hP hgP=>?_,fun W v hv=>?_⟩
    ·obtain ⟨y,hy,rfl⟩:=List.mem_map.1 hg
     have:=r5 y hy
     have e:(L.ofND y).inp.length = y.inp.length:=castL_len y.inp
     omega
    ·refine (forget_ok hv hc (by omega) (fun y hy=>by have:=hnl20 y hy;omega) hD hP hgP).mono ?_
     rintro e w' ⟨vL,us,rfl,ho,hR,hb⟩
     exact ⟨vL,us,rfl,by rw [List.length_map];exact ho,by rw [List.map_map];exact hR,hb⟩
    ·exact rforget_ok hv hc (by omega) (fun y hy=>by have:=hnl20 y hy;omega) hD
  | false =>
    refine ⟨0,210,[],⟨by simp,fun g hg=>by cases hg⟩,fun W v hv hP hgP=>?_,fun W v hv=>?_⟩
    ·refine (forget_no hv hc (by omega) (fun y hy=>by have:=hnl20 y hy;omega) hD).mono ?_
     rintro e w' ⟨rfl,hb⟩
     exact ⟨_,[],rfl,⟨rfl,.inl ⟨rfl,rfl⟩⟩,RowsOf.nil _ _,hb⟩
    ·refine (rforget_no hv hc (by omega) (fun y hy=>by have:=hnl20 y hy;omega) hD).mono ?_
     rintro e w' ⟨rfl,hb⟩
     exact ⟨_,rfl,slC_nil _,hb⟩
 ·refine ⟨0,1,[],⟨by simp,fun g hg=>by cases hg⟩,fun W v hv hP hgP=>?_,fun W v hv=>?_⟩
  ·refine (forget_err hv hl h2 hc).mono ?_
   rintro e w' ⟨rfl,hb⟩
   exact ⟨_,[],rfl,⟨rfl,.inl ⟨rfl,rfl⟩⟩,RowsOf.nil _ _,hb⟩
  ·refine (rforget_bad hv hc (by omega) (fun g hg=>by have:=h2 g hg;omega)).mono ?_
   rintro e w' ⟨rfl,hb⟩
   exact ⟨_,rfl,slC_nil _,hb⟩
def WrK (b:Nat) (w V:World):Prop:=Below b w V∧(∀ (g:Nat) (c:Array Value) (t:TypeId),t≠3→w.heap[g]? = some (.cells c t (0,0))→V.heap[g]? = some (.cells c t (0,0)))∧∀ (g:Nat) (c:Array Value),w.heap[g]? = some (.cells c 3 (0,0))→∃ c',V.heap[g]? = some (.cells c' 3 (0,0))∧c'.size = c.size
theorem WrK.refl (b:Nat) (w:World):WrK b w w:=⟨Below.refl _ _,fun _ _ _ _ h=>h,fun _ c h=>⟨c,h,rfl⟩⟩
theorem WrK.set {b g k:Nat} {w V:World} {c:Array Value} {x:Value} (h:WrK b w V) (hg:b≤g) (hc:V.heap[g]? = some (.cells c 3 (0,0))):WrK b w (V.setCell ⟨g,k,none⟩ x):=by
 obtain ⟨h1,h2,h3⟩:=h
 refine ⟨h1.setCell (p:=⟨g,k,none⟩) hg _,fun g' c' t ht e=>(Below.heap_setCell _ _ _ _ (ne_type (h2 g' c' t ht e) hc ht)).trans (h2 g' c' t ht e),fun g' c' e=>?_⟩
 obtain ⟨c'',e1,e2⟩:=h3 g' c' e
 by_cases hgg:g' = g
 ·subst hgg
  rw [hc] at e1
  simp only [Option.some.injEq,Obj.cells.injEq,and_true] at e1
  exact ⟨_,heap_set hc k x,by rw [Array.size_setIfInBounds,e1];exact e2⟩
 ·exact ⟨c'',(Below.heap_setCell _ _ _ _ hgg).trans e1,e2⟩
theorem row_at {w:World} {base:Nat} {vL:Value} {us:List Value} {C:List L.Gt} (ho:w.ownsRow base 40 3 vL C.length (gCells C us)) (h:RowsOf w base us (C.map (·.inp))) {i:Nat} (hi:i < C.length) :
  ∃ g cp cur u,vL = .slice (some ⟨g,0,none⟩) C.length cp∧w.heap[g]? = some (.cells cur 40 (0,0))∧cur[i * 3+2]? = some u∧w.ownsRow base 3 1 u C[i].inp.length (C[i].inp.map encZ):=by
 have hlen:us.length = C.length:=by have:=h.1;rwa [List.length_map] at this
 obtain ⟨_,⟨rfl,e⟩ | ⟨g,cap,cur,rfl,hgb,hgh,hn,hm,hcs,ht⟩⟩:=ho
 ·omega
 ·obtain ⟨h1,h2,h3⟩:=gCells_get hlen i hi (by omega)
  refine ⟨g,cap,cur,us[i],rfl,hgh,?_,h.2 i us[i] C[i].inp (List.getElem?_eq_getElem (by omega)) (by rw [List.getElem?_map,List.getElem?_eq_getElem hi];rfl)⟩
  have hil:=(List.getElem?_eq_some_iff.1 h3).1
  rw [gCells_len hlen] at hil
  rw [←ht,List.getElem?_take_of_lt (by omega)] at h3
  rw [←Array.getElem?_toList];exact h3
theorem own_cell_at {b:Nat} {w V:World} {u:Value} {l:List Int} (hk:WrK b w V) (ho:w.ownsRow b 3 1 u l.length (l.map encZ)) {k:Nat} (hkl:k < l.length):∃ g cp c z,u = .slice (some ⟨g,0,none⟩) l.length cp∧b≤g∧V.heap[g]? = some (.cells c 3 (0,0))∧V.cell? ⟨g,k,none⟩ = some z∧V.frozen? ⟨g,k,none⟩ = false:=by
 obtain ⟨he,⟨rfl,e⟩ | ⟨g,cap,cur,rfl,hgb,hgh,hn,hm,hcs,ht⟩⟩:=ho
 ·omega
 ·obtain ⟨c',h1,h2⟩:=hk.2.2 g cur hgh
  have hkc:k < c'.size:=by
   have h3:k < ((l.map encZ)).length:=by rw [List.length_map];exact hkl
   rw [←ht,List.length_take] at h3
   have:cur.toList.length = cur.size:=Array.length_toList
   omega
  exact ⟨g,cap,c',c'[k],rfl,hgb,h1,by rw [World.cell?,h1];simp [hkc],by simp [World.frozen?,h1]⟩
set_option maxRecDepth 100000 in
set_option maxHeartbeats 8000000 in
theorem condforgets_any {n:Int} {C:List L.Gt} {s:VSet} {v:Value} (w:World) (hP:PowTab w) (hv:SlC w v C) (hl:C.length≤9223372036854775807) :
  Calls Tryz.prog 4 #[.agg #[.int .i64 n,v],.agg #[.int .u64 (lo s),.int .u64 (hi s)]] w fun e w'=>e = .returned (.bool true)∧Below w.heap.size w w':=by
 have hgP:=hP.lt
 have hw:∀ W,Below w.heap.size w W→Calls Tryz.prog 11 #[] W fun e w''=>e = .returned (.bool true)∧Below W.heap.size W w'':=fun W hx=>works35_any W (hP.below hx) (Nat.lt_of_lt_of_le hgP hx.size)
 have ql:=fun (W:World) (hW:Ext w W)=>light35_any (n:=n) (hv.ext hW.below) hl
 have hvq:=hv
 obtain ⟨ba,cp,rfl,-⟩:=hv.shape
 have hx2:Ext w ((w.alloc (.cells #[.int .i64 n,.slice ba C.length cp] 24)).alloc (.cells #[.int .u64 (lo s),.int .u64 (hi s)] 37)):=((Ext.refl w).alloc _).alloc _
 obtain ⟨e0,e1⟩:=alloc2h w (.cells #[.int .i64 n,.slice ba C.length cp] 24) (.cells #[.int .u64 (lo s),.int .u64 (hi s)] 37)
 obtain ⟨w2,hw2⟩:∃ x,x = ((w.alloc (.cells #[.int .i64 n,.slice ba C.length cp] 24)).alloc (.cells #[.int .u64 (lo s),.int .u64 (hi s)] 37)):=⟨_,rfl⟩
 rw [←hw2] at hx2 e0 e1
 have hbx:∀ V,Below w2.heap.size w2 V→(V.cell? ⟨w.heap.size,0,none⟩ = some (.int .i64 n)∧V.cell? ⟨w.heap.size,1,none⟩ = some (.slice ba C.length cp))∧V.cell? ⟨w.heap.size+1,0,none⟩ = some (.int .u64 (lo s))∧V.cell? ⟨w.heap.size+1,1,none⟩ = some (.int .u64 (hi s)):=fun V hV=>by
  have f0:=(hV.block _ (Array.getElem?_eq_some_iff.1 e0).1).trans e0
  have f1:=(hV.block _ (Array.getElem?_eq_some_iff.1 e1).1).trans e1
  exact ⟨⟨by rw [World.cell?,f0];rfl,by rw [World.cell?,f0];rfl⟩,by rw [World.cell?,f1];rfl,by rw [World.cell?,f1];rfl⟩
 obtain ⟨⟨p0,p1⟩,p2,p3⟩:=hbx w2 (Below.refl _ _)
 have q1:=ql w2 hx2
 replace hw:=Lib.hid hw
 replace hvq:=Lib.hid hvq
 replace hbx:=Lib.hid hbx
 replace hx2:=Lib.hid hx2
 replace e0:=Lib.hid e0
 replace e1:=Lib.hid e1
 replace hP:=Lib.hid hP
 clear hv ql
 rw [hw2] at p0 p1 p2 p3
 cases hL:lightN C with
 | false =>
   rw [hL] at q1
   go_enter Tryz.func4,Tryz.ntmps4
   go_wp2_with fail
   rw [←hw2]
   replace hw2:=Lib.hid hw2
   refine q1.mono ?_
   rintro e w3 ⟨rfl,hx3⟩
   have hb3:=(hx2.out.trans hx3).below
   have q:=hw.out _ hb3
   replace hb3:=Lib.hid hb3
   clear q1 p0 p1 p2 p3 hx3
   go_wp2_with fail
   refine q.mono ?_
   rintro e w4 ⟨rfl,hb4⟩
   clear q
   go_wp2_with fail
   go_ret
   exact ⟨rfl,hb3.out.trans (hb4.mono hb3.out.size)⟩
 | true =>
   rw [hL] at q1
   obtain ⟨hC80,hC20⟩:=light_parts hL
   obtain ⟨nA,eA,R,hR,hG,hRG⟩:=both_forget (n:=n) (s:=s) hC80 hC20
   replace hC20:=Lib.hid hC20
   have hRl:=hR.1
   have heA:(eA != eA) = false:=by simp
   have qc:=fun (W:World) (hW:Below w.heap.size w W)=>copied35_any (n:=n) (hvq.out.ext hW) (by omega) (fun g hg=>by have:=hC20.out g hg;omega)
   replace hG:=Lib.hid hG
   replace hRG:=Lib.hid hRG
   replace hR:=Lib.hid hR
   replace qc:=Lib.hid qc
   go_enter Tryz.func4,Tryz.ntmps4
   go_wp2_with fail
   rw [←hw2]
   replace hw2:=Lib.hid hw2
   refine q1.mono ?_
   rintro e w3 ⟨rfl,hx3⟩
   have hb3:=(hx2.out.trans hx3).below
   have qc3:=qc.out w3 hb3
   obtain ⟨⟨p0',p1'⟩,-,-⟩:=hbx.out w3 hx3.below
   replace hb3:=Lib.hid hb3
   replace hx3:=Lib.hid hx3.below
   clear q1 p0 p1 p2 p3 qc
   go_wp2_with fail
   refine qc3.mono ?_
   rintro e w4 ⟨vI,rfl,hsI,hb4⟩
   clear qc3 p0' p1'
   obtain ⟨bI,cI,rfl,-⟩:=hsI.shape
   have hB4:=hb3.out.trans (hb4.mono hb3.out.size)
   have hX4:=hx3.out.trans (hb4.mono hx3.out.size)
   have hx5:=(Ext.refl w4).alloc (.cells #[.int .i64 n,.slice bI C.length cI] 24)
   have hn5:=heap_alloc_new w4 (.cells #[.int .i64 n,.slice bI C.length cI] 24)
   have hB6:=Lib.hid (hB4.trans (hx5.below.mono hB4.size))
   have hX6:=Lib.hid (hX4.trans (hx5.below.mono hX4.size))
   have hsI6:=Lib.hid (hsI.ext hx5.below)
   obtain ⟨-,s0,s1⟩:=hbx.out _ hX6.out
   have t0:(w4.alloc (.cells #[.int .i64 n,.slice bI C.length cI] 24)).cell? ⟨w4.heap.size,0,none⟩ = some (.int .i64 n):=by rw [World.cell?,hn5];rfl
   have t1:(w4.alloc (.cells #[.int .i64 n,.slice bI C.length cI] 24)).cell? ⟨w4.heap.size,1,none⟩ = some (.slice bI C.length cI):=by rw [World.cell?,hn5];rfl
   replace hn5:=Lib.hid hn5
   clear hx3 hb3 hb4 hsI hB4 hX4 hx5
   go_wp2_with fail
   obtain ⟨w6,hw6⟩:∃ x,x = w4.alloc (.cells #[.int .i64 n,.slice bI C.length cI] 24):=⟨_,rfl⟩
   obtain ⟨g5,hg5⟩:∃ x,x = w4.heap.size:=⟨_,rfl⟩
   rw [←hw6] at hB6 hX6 hsI6 hn5 ⊢
   rw [←hg5] at hn5 ⊢
   clear hw6 hg5 s0 s1 t0 t1
   have qg:=hG.out w6 _ hsI6.out (hP.out.below hB6.out) (Nat.lt_of_lt_of_le hgP hB6.out.size)
   refine qg.mono ?_
   rintro e w7 ⟨vA,us,rfl,hoA,hRA,hb7⟩
   clear qg
   obtain ⟨bA,cA,rfl⟩:=own_shp hoA
   have hx7:=(Ext.refl w7).alloc (.cells #[.int .i64 nA,.slice bA R.length cA] 24)
   have hn7:=heap_alloc_new w7 (.cells #[.int .i64 nA,.slice bA R.length cA] 24)
   have hb67:=hb7.trans (hx7.below.mono hb7.size)
   have hB8:=Lib.hid (hB6.out.trans (hb67.mono hB6.out.size))
   have hX8:=Lib.hid (hX6.out.trans (hb67.mono hX6.out.size))
   have hoA8:=Lib.hid (ownsRow_keep hoA (fun g c h=>hx7.below.block g (Array.getElem?_eq_some_iff.1 h).1))
   have hRA8:=Lib.hid (hRA.keep (fun g c h=>hx7.below.block g (Array.getElem?_eq_some_iff.1 h).1))
   obtain ⟨⟨p0,p1⟩,p2,p3⟩:=hbx.out _ hX8.out
   replace hn7:=Lib.hid hn7
   replace hb67:=Lib.hid hb67
   clear hoA hRA hb7 hx7
   go_wp2_with fail
   obtain ⟨w8,hw8⟩:∃ x,x = w7.alloc (.cells #[.int .i64 nA,.slice bA R.length cA] 24):=⟨_,rfl⟩
   obtain ⟨g7,hg7⟩:∃ x,x = w7.heap.size:=⟨_,rfl⟩
   rw [←hw8] at hB8 hX8 hoA8 hRA8 hn7 hb67 ⊢
   rw [←hg7] at hn7 ⊢
   clear p0 p1 p2 p3 hw8 hg7
   have qr:=hRG.out w8 _ (hvq.out.ext hB8.out)
   refine qr.mono ?_
   rintro e w9 ⟨vB,rfl,hsB,hb9⟩
   clear qr
   obtain ⟨bB,cB,rfl,-⟩:=hsB.shape
   have hx9:=(Ext.refl w9).alloc (.cells #[.int .i64 nA,.slice bB R.length cB] 24)
   have hn9:=heap_alloc_new w9 (.cells #[.int .i64 nA,.slice bB R.length cB] 24)
   have hb89:=hb9.trans (hx9.below.mono hb9.size)
   have hB10:=Lib.hid (hB8.out.trans (hb89.mono hB8.out.size))
   have hX10:=Lib.hid (hX8.out.trans (hb89.mono hX8.out.size))
   have hb610:=Lib.hid (hb67.out.trans (hb89.mono hb67.out.size))
   have hoA10:=ownsRow_keep hoA8.out (fun g c h=>hb89.block g (Array.getElem?_eq_some_iff.1 h).1)
   have hRA10:=hRA8.out.keep (fun g c h=>hb89.block g (Array.getElem?_eq_some_iff.1 h).1)
   have hsB10:=hsB.ext hx9.below
   have hn710:=(hb89.block _ (Array.getElem?_eq_some_iff.1 hn7.out).1).trans hn7.out
   have qs:=same20_any (n:=nA) (gnodes_slC hoA10 hRA10) hsB10 (by have:=hR.out.1;omega) hR.out.2
   have x0:(w9.alloc (.cells #[.int .i64 nA,.slice bB R.length cB] 24)).cell? ⟨g7,0,none⟩ = some (.int .i64 nA):=by rw [World.cell?,hn710];rfl
   have x1:(w9.alloc (.cells #[.int .i64 nA,.slice bB R.length cB] 24)).cell? ⟨g7,1,none⟩ = some (.slice bA R.length cA):=by rw [World.cell?,hn710];rfl
   have x2:(w9.alloc (.cells #[.int .i64 nA,.slice bB R.length cB] 24)).cell? ⟨w9.heap.size,0,none⟩ = some (.int .i64 nA):=by rw [World.cell?,hn9];rfl
   have x3:(w9.alloc (.cells #[.int .i64 nA,.slice bB R.length cB] 24)).cell? ⟨w9.heap.size,1,none⟩ = some (.slice bB R.length cB):=by rw [World.cell?,hn9];rfl
   replace hoA10:=Lib.hid hoA10
   replace hRA10:=Lib.hid hRA10
   replace hn710:=Lib.hid hn710
   clear hsB hb9 hx9 hb89 hsB10 hn9 hoA8 hRA8 hX8 hB8 hn7 hb67
   go_wp2_with fail
   refine qs.mono ?_
   rintro e w11 ⟨rfl,hx11⟩
   clear qs x0 x1 x2 x3
   have hB11:=Lib.hid (hB10.out.trans (hx11.below.mono hB10.out.size))
   have hX11:=Lib.hid (hX10.out.trans (hx11.below.mono hX10.out.size))
   have hb611:=Lib.hid (hb610.out.trans (hx11.below.mono hb610.out.size))
   have hoA11:=Lib.hid (ownsRow_keep hoA10.out (fun g c h=>hx11.below.block g (Array.getElem?_eq_some_iff.1 h).1))
   have hRA11:=Lib.hid (hRA10.out.keep (fun g c h=>hx11.below.block g (Array.getElem?_eq_some_iff.1 h).1))
   have hn711:=Lib.hid ((hx11.below.block _ (Array.getElem?_eq_some_iff.1 hn710.out).1).trans hn710.out)
   have x1:w11.cell? ⟨g7,1,none⟩ = some (.slice bA R.length cA):=by rw [World.cell?,hn711.out];rfl
   clear hB10 hX10 hb610 hoA10 hRA10 hn710 hx11
   go_wp2_with fail
   clear x1
   have hbx7:Hid (∀ V,WrK w6.heap.size w11 V→V.cell? ⟨g7,1,none⟩ = some (.slice bA R.length cA)):=Lib.hid fun V hV=>by
    rw [World.cell?,hV.2.1 g7 _ _ (by decide) hn711.out];rfl
   go_loopw [42] (fun i wr=>∃ k:Nat,k≤R.length∧i = .int .i64 (k:Nat)∧Hid (WrK w6.heap.size w11 wr)) (fun i _=>R.length - (intOf i).toNat)
   case atStart=>exact ⟨0,Nat.zero_le _,rfl,Lib.hid (WrK.refl _ _)⟩
   case round =>
    obtain ⟨i,hile,rfl,hI⟩:=hrel
    by_cases hlt:i < R.length
    ·have q0:(0:Int)≤(i:Int):=by omega
     have q1:(i:Int) < (R.length:Int):=by omega
     have dk:decide ((i:Int) < (R.length:Int)) = true:=decide_eq_true q1
     obtain ⟨gA,cpA,curA,u,eA1,hgA,hcu,hou⟩:=row_at hoA11.out hRA11.out hlt
     simp only [Value.slice.injEq] at eA1
     obtain ⟨rfl,-,rfl⟩:=eA1
     have hil:=hR.out.2 _ (List.getElem_mem hlt)
     generalize R[i].inp = ip at *
     obtain ⟨bu,cu,rfl⟩:=own_shp hou
     have hcell:Hid (∀ V,WrK w6.heap.size w11 V→V.cell? ⟨gA,i * 3+2,none⟩ = some (.slice bu ip.length cu)):=Lib.hid fun V hV=>by
      rw [World.cell?,hV.2.1 gA _ _ (by decide) hgA];exact hcu
     have y1:=hbx7.out _ hI.out
     have y2:=hcell.out _ hI.out
     replace hgA:=Lib.hid hgA
     replace hcu:=Lib.hid hcu
     replace hou:=Lib.hid hou
     go_wp2_with fail
     clear y1 y2
     go_loopw [52] (fun j wr=>∃ k:Nat,k≤ip.length∧j = .int .i64 (k:Nat)∧Hid (WrK w6.heap.size w11 wr)) (fun j _=>ip.length - (intOf j).toNat)
     case atStart=>exact ⟨0,Nat.zero_le _,rfl,hI⟩
     case round =>
      clear hI
      obtain ⟨j,hjle,rfl,hI⟩:=hrel
      by_cases hjl:j < ip.length
      ·have p0:(0:Int)≤(j:Int):=by omega
       have p1:(j:Int) < (ip.length:Int):=by omega
       have dj:decide ((j:Int) < (ip.length:Int)) = true:=decide_eq_true p1
       obtain ⟨gu,cpu,cur,z,eu,hgu,hcur,hz,hfz⟩:=own_cell_at hI.out hou.out hjl
       simp only [Value.slice.injEq] at eu
       obtain ⟨rfl,-,rfl⟩:=eu
       have y1:=hbx7.out _ hI.out
       have y2:=hcell.out _ hI.out
       have hnx:=Lib.hid (hI.out.set (k:=j) (x:=.int .i64 (-1)) hgu hcur)
       replace hcur:=Lib.hid hcur
       replace hgu:=Lib.hid hgu
       go_wp2_with fail
       go_roundw
       case rel=>exact ⟨j+1,by omega,by go_num,hnx⟩
       case measure=>simp [intOf];omega
      ·obtain rfl:j = ip.length:=by omega
       have dj:decide ((ip.length:Int) < (ip.length:Int)) = false:=decide_eq_false (by omega)
       go_wp2_with fail
       go_roundw
       case rel=>exact ⟨i+1,by omega,by go_num,hI⟩
       case measure=>simp [intOf];omega
    ·obtain rfl:i = R.length:=by omega
     have dk:decide ((R.length:Int) < (R.length:Int)) = false:=decide_eq_false (by omega)
     have hbV:=hb611.out.trans hI.out.1
     have hBV:=Lib.hid (hB6.out.trans (hbV.mono hB6.out.size))
     have hXV:=hX6.out.trans (hbV.mono hX6.out.size)
     have hn5V:=(hbV.block _ (Array.getElem?_eq_some_iff.1 hn5.out).1).trans hn5.out
     have qs2:=same20_any (n:=n) (hsI6.out.ext hbV) (hvq.out.ext hBV.out) (by omega) (fun g hg=>by have:=hC20.out g hg;omega)
     obtain ⟨⟨p0,p1⟩,-,-⟩:=hbx.out _ hXV
     have x0:wr.cell? ⟨g5,0,none⟩ = some (.int .i64 n):=by rw [World.cell?,hn5V];rfl
     have x1:wr.cell? ⟨g5,1,none⟩ = some (.slice bI C.length cI):=by rw [World.cell?,hn5V];rfl
     clear hbV hXV hn5V
     go_wp2_with fail
     refine qs2.mono ?_
     rintro e w12 ⟨rfl,hx12⟩
     clear qs2 x0 x1 p0 p1
     have hB12:=hBV.out.trans (hx12.below.mono hBV.out.size)
     have q:=hw.out _ hB12
     replace hB12:=Lib.hid hB12
     clear hx12 hBV
     go_wp2_with fail
     refine q.mono ?_
     rintro e w14 ⟨rfl,hb14⟩
     clear q
     go_wp2_with fail
     go_ret
     exact ⟨rfl,hB12.out.trans (hb14.mono hB12.out.size)⟩
theorem condforgets_card {n:Int} {C:List L.Gt} {x0 x1:Int} {u:Value} (w:World) (hP:PowTab w) (hv:SlC w u C∧C.length≤9223372036854775807∧(-9223372036854775808≤n∧n≤9223372036854775807)) (hz:(0≤x0∧x0≤18446744073709551615)∧(0≤x1∧x1≤18446744073709551615)) :
  Calls Tryz.prog 4 #[.agg #[.int .i64 n,u],.agg #[.int .u64 x0,.int .u64 x1]] w fun e w'=>e = .returned (.bool true)∧Below w.heap.size w w':=by
 obtain ⟨a,rfl,rfl⟩:=vset_of hz.1 hz.2
 exact condforgets_any w hP hv.1 hv.2.1
end Go.Proofs.YtckhohpbokojdaaGreatDoor
