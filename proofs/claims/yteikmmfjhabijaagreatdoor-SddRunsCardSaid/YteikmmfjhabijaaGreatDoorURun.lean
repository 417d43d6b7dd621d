import Derived.Test.YteikmmfjhabijaaGreatDoorURunG
import Derived.Test.YteikmmfjhabijaaGreatDoorURunK
import Derived.Test.YteikmmfjhabijaaGreatDoorULitbad
set_option linter.unusedSimpArgs false
set_option linter.unusedVariables false
namespace Go.Proofs.YteikmmfjhabijaaGreatDoor
open Go Go.RowKit Go.Shelf
theorem RunAt.shape {wa w:World} {bx:List (Nat × Array Value)} {t:List VN} {l:List Int} {sb k:Nat} {s:St} {va vf:Value} {rs:List Res} (h:RunAt wa bx t l sb k s va vf rs w):∃ ga n ca gf n' cf,va = .slice (some ⟨ga,0,none⟩) n ca∧vf = .slice (some ⟨gf,0,none⟩) n' cf:=by
 obtain ⟨_,_,_,e,_⟩:=h.two
 obtain ⟨ga,ca,e1,_⟩:=own_at h.g.oa (by rw [e];simp)
 obtain ⟨gf,cf,e2,_⟩:=own_at h.g.of (by rw [e];simp)
 exact ⟨_,_,_,_,_,_,e1,e2⟩
set_option maxRecDepth 100000 in
set_option maxHeartbeats 8000000 in
theorem do_any {wa w:World} {bx:List (Nat × Array Value)} {t:List VN} {l:List Int} {sb k k' b o cap:Nat} {s:St} {va vf:Value} {rs:List Res} {kd A Bz:Int} (h:RunAt wa bx t l sb k s va vf rs w) (ht:TreeAt wa b o t) (htl:t.length≤11) (hlv:varsR t = some l) (hl6:l.length≤6)
  (hsb:L.SortedBel t (t.length - 1) l) (hvo:∀ v∈l,VarOf t v) (hk:k'+127≤k) (hrs:rs.length≤1000) (hkd:0≤kd∧kd≤255) (hA:-9223372036854775808≤A∧A≤9223372036854775807) (hBz:-9223372036854775808≤Bz∧Bz≤9223372036854775807) :
  Calls Tryz.prog 18 #[runV sb va vf,.slice (some ⟨b,o,none⟩) t.length cap,.agg #[.int .u8 kd,.int .i64 A,.int .i64 Bz]] w fun e w'=>∃ va' vf' s' rs',e = .returned (runV sb va' vf')∧RunAt wa bx t l sb k' s' va' vf' rs' w'∧rs'.length≤rs.length+2:=by
 obtain ⟨r0,r1,rest,hrs0,hr0,hr1⟩:=h.two
 have t0:0 < t.length:=(check_ok (show checkF t = 0 by have:=h.g.room.inv.tree;rw [h.g.tree] at this;exact this)).1
 have hl0:0 < l.length:=by
  have hc:checkF t = 0:=by have:=h.g.room.inv.tree;rw [h.g.tree] at this;exact this
  rw [hsb.len hc (by omega)];exact L.nv_pos hc _ (by omega)
 obtain ⟨m,hm⟩:∃ m,m = rs.length:=⟨_,rfl⟩
 have hm2:2≤m:=by rw [hm,hrs0];simp
 have hmk:m≤1000:=by rw [hm];exact hrs
 have oa:=h.g.oa
 have of:=h.g.of
 rw [List.length_map,←hm] at oa of
 obtain ⟨ga,ca,rfl,hga⟩:=own_at oa (by omega)
 obtain ⟨gf,cf,rfl,hgf⟩:=own_at of (by omega)
 generalize hx:w.heap.size = x at *
 have hNx:wa.heap.size≤x:=by rw [←hx];exact h.g.sz
 -- the boxes
 obtain ⟨w3,hw3⟩:∃ w3,w3 = ((w.alloc (.cells #[.pointer (some ⟨sb,0,none⟩),.slice (some ⟨ga,0,none⟩) m ca,.slice (some ⟨gf,0,none⟩) m cf,.bool false] 35)).alloc (.cells #[.int .u8 kd,.int .i64 A,.int .i64 Bz] 39)).alloc (.cells #[.pointer none,.slice none 0 0,.slice none 0 0,.bool false] 35):=⟨_,rfl⟩
 obtain ⟨hb3,hbr,hbo,hbz,hx3⟩:=three_allocs w _ _ _ _ _ _ hx hw3
 replace hbr:=Lib.hid hbr
 replace hbo:=Lib.hid hbo
 replace hbz:=Lib.hid hbz
 have h3:=Lib.hid (h.g.below hb3)
 have hbel3:Hid (Below wa.heap.size wa w3):=Lib.hid (h.bel.trans (hb3.mono h.g.sz))
 have q1:=refVars_any w3 b o cap l (by exact fun j u hj=>(hbel3.out.cell (World.block_lt_of_cell? wa _ (ht j u hj))).trans (ht j u hj)) t0 (by omega) hlv
 have hnb:Hid (∀ p∈bx,p.1 < x):=Lib.hid fun p hp=>by rw [←hx];exact (Array.getElem?_eq_some_iff.1 (h.g.hb p hp)).1
 have hok:=Lib.hid h.ok
 have hinv:=Lib.hid h.g.room.inv
 have htree:=Lib.hid h.g.tree
 replace hrs0:=Lib.hid hrs0
 replace hm:=Lib.hid hm
 replace hsb:=Lib.hid hsb
 replace hlv:=Lib.hid hlv
 replace hvo:=Lib.hid hvo
 replace ht:=Lib.hid ht
 replace hx:=Lib.hid hx
 clear oa of h hb3 hgf hga
 unfold runV
 replace hw3:=Lib.hid hw3
 obtain ⟨i0,hi0,hz0,hz1,hz2⟩:=info_parts int_info
 obtain ⟨j0,hj0,hzj0,hzj1,hzj2⟩:=info_parts tbs_info
 go_enter Tryz.func18,Tryz.ntmps18
 go_wp2_with fail
 rw [←hw3.out]
 simp only [hx.out]
 clear hw3
 refine q1.mono ?_
 rintro e w4 ⟨vl,rfl,ho4,hb4⟩
 clear q1
 have h4:=Lib.hid (h3.out.below hb4)
 have hbel4:=Lib.hid (hbel3.out.trans (hb4.mono h3.out.sz))
 have hbr4:=(hb4.block x (by omega)).trans hbr.out
 have hbo4:=(hb4.block (x+1) (by omega)).trans hbo.out
 have hbz4:=(hb4.block (x+1+1) (by omega)).trans hbz.out
 have F1:∀ w',Ext w4 w'→w'.cell? ⟨x,1,none⟩ = some (.slice (some ⟨ga,0,none⟩) m ca)∧w'.cell? ⟨x+1,1,none⟩ = some (.int .i64 A)∧w'.cell? ⟨x+1,2,none⟩ = some (.int .i64 Bz) :=
  fun w' hw'=>⟨hw'.cell (box4 hbr4).2.1,hw'.cell (box3 hbo4).2.1,hw'.cell (box3 hbo4).2.2⟩
 have qm:=Lib.hid fun (z:Int) w'=>mod_any z m (by omega) (by rw [hm.out];omega) w'
 have hai:=modF_lt A (n:=m) (by omega)
 have hbi:=modF_lt Bz (n:=m) (by omega)
 replace F1:=Lib.hid F1
 replace hbr4:=Lib.hid hbr4
 replace hbo4:=Lib.hid hbo4
 replace hbz4:=Lib.hid hbz4
 have hx4:x+3≤w4.heap.size:=by have:=hb4.size;omega
 replace ho4:=Lib.hid ho4
 clear h3 hbel3 hbr hbo hbz hb4 hx3
 go_wp2_with fail
 (refine wp_region_below (by kernel_rfl) (by kernel_rfl) ?_
  repeat (refine wpQuiet_step (fun K hK=>?_)
          go_simp
          first
           | (refine hK _ ?_;clear hK K)
           | (replace hK:=Lib.hid hK
              apply Exists.intro
              refine ⟨fun wq hq=>?_,hK.out _ ?_⟩
              ·(obtain ⟨f1,f2,f3⟩:=F1.out wq hq)
               go_simp
               first
                | done
                | rfl
                | exact ⟨rfl,rfl⟩
                | (refine (qm.out _ _).mono ?_;rintro e w' ⟨rfl,rfl⟩;exact ⟨rfl,hq⟩)
              clear hK K))
  refine wpQuiet_nil ?_)
 intro w5 hw5
 clear F1 qm
 generalize modF A m = ai at *
 generalize modF Bz m = bi at *
 have h5:=Lib.hid (h4.out.below hw5.below)
 have hbel5:=Lib.hid (hbel4.out.trans (hw5.below.mono h4.out.sz))
 have hbr5:=Lib.hid ((hw5.below.block x (by omega)).trans hbr4.out)
 have hbo5:=(hw5.below.block (x+1) (by omega)).trans hbo4.out
 have hbz5:=Lib.hid ((hw5.below.block (x+1+1) (by omega)).trans hbz4.out)
 have ho5:=Lib.hid (own_lift ho4.out hw5.below)
 have hx5:x+3≤w5.heap.size:=by have:=hw5.size;omega
 obtain ⟨k0,k1,k2⟩:=box3 hbo5
 replace hbo5:=Lib.hid hbo5
 clear h4 hbel4 hbr4 hbo4 hbz4 ho4 hw5 hx4
 have hkind:kd.tmod 6 = 0∨kd.tmod 6 = 1∨kd.tmod 6 = 2∨kd.tmod 6 = 3∨kd.tmod 6 = 4∨kd.tmod 6 = 5:=by
  rw [Int.tmod_eq_emod_of_nonneg hkd.1];omega
 rcases hkind with hkk | hkk | hkk | hkk | hkk | hkk
 ·obtain ⟨B,hB,hR,hmut⟩:=h5.out.sp
  obtain ⟨c0,c1,c2,c3⟩:=box4 hbr5.out
  by_cases hvar:VarOf t (A.natAbs:Int)
  ·have hvr:=hvar.range
   have hlmem:(A.natAbs:Int)∈l:=(hsb.out.mem _).2 (by
    obtain ⟨u,y,h1,h2,h3⟩:=hvar
    exact ⟨u,y,h1,h2,h3,L.Und.root (by have:=hinv.out.tree;rwa [htree.out] at this) t.length u (List.getElem?_eq_some_iff.1 h1).1 (by omega)⟩)
   obtain ⟨j,hj,hjz⟩:=List.getElem_of_mem hlmem
   have hnd:(A.natAbs:Int)∉l.take j:=fun hmem=>by
    obtain ⟨i,hi,hiz⟩:=List.mem_take_iff_getElem.1 hmem
    have:=(List.pairwise_iff_getElem.1 hsb.out.sorted) i j (by omega) hj (by omega)
    omega
   obtain ⟨z,hz⟩:∃ z:Int,z = A:=⟨_,rfl⟩
   obtain ⟨vj,hvj⟩:∃ vj:Int,vj = (A.natAbs:Int):=⟨_,rfl⟩
   have hzn:(z.natAbs:Int) = vj:=by rw [hz,hvj]
   have qn:=lit_v (l:=z) ((h5.out.less (m:=k') (by omega)).ssAt hR) (by rw [hz];exact hvar)
   have hzz:z≠0:=by omega
   have hzr:-128≤z∧z≤128:=by omega
   have htab:IsTab l (litφ z) (litTab l.length j (decide (0 < z))):=IsTab.lit hj (by rw [hjz,hz])
   have hlj:l[j] = vj:=by rw [hjz,hvj]
   rw [←hvj] at hnd
   rw [hB] at qn
   replace htab:=Lib.hid htab
   replace hlj:=Lib.hid hlj
   replace hzn:=Lib.hid hzn
   replace hnd:=Lib.hid hnd
   replace hB:=Lib.hid hB
   replace hR:=Lib.hid hR
   replace hmut:=Lib.hid hmut
   clear hvar hvr hlmem hjz hvj
   subst hz
   go_wp2_with fail
   refine qn.mono ?_
   rintro e w6 ⟨r6,s6,rfl,hS6,hT6,hv6⟩
   have hbr6:=RunG.box hbr5.out (by decide) (by decide) hR.out hS6
   have hbz6:=RunG.box hbz5.out (by decide) (by decide) hR.out hS6
   have hbo6:=RunG.box hbo5.out (by decide) (by decide) hR.out hS6
   obtain ⟨h6,hbe6⟩:=(h5.out.less (m:=k') (by omega)).next hB.out hR.out hmut.out hS6
   have hbel6:=Lib.hid (hbel5.out.trans hbe6)
   have ho6:=own_calm ho5.out fun g cs hg=>(RunG.box hg (by decide) (by decide) hR.out hS6).trans hg.symm
   have qt:=tlit_ok (z:=z) (owns_slI ho6) hl6 hj (by rw [hlj.out,hzn.out]) (by rw [hzn.out];exact hnd.out) hzz hzr
   obtain ⟨k0,k1,k2⟩:=box3 hbo6
   replace h6:=Lib.hid h6
   replace hT6:=Lib.hid hT6
   replace hv6:=Lib.hid hv6
   replace hbr6:=Lib.hid hbr6
   replace hbz6:=Lib.hid hbz6
   replace hbo6:=Lib.hid hbo6
   clear hbe6 hS6 qn c0 c1 c2 c3 ho6 ho5 hx5
   go_wp2_with fail
   refine qt.mono ?_
   rintro e w7 ⟨vt,rfl,hr7⟩
   obtain ⟨g7,c7,ln7,e7,htab7,b7⟩:=hr7.outs
   cases e7
   have h7:=Lib.hid ((h6.out.below b7).tabs (ts':=(rs.map fun r=>(r.v,r.f))++[(.slice (some ⟨g7,0,none⟩) ln7 c7,litTab l.length j (decide (0 < z)))]) (fun p hp=>(List.mem_append.1 hp).elim ((h6.out.below b7).tab p) (fun hp=>by
    obtain rfl:p = (.slice (some ⟨g7,0,none⟩) ln7 c7,litTab l.length j (decide (0 < z))):=by simpa using hp
    exact htab7)))
   have hbel7:=Lib.hid (hbel6.out.trans (b7.mono h6.out.sz))
   have hbr7:=Lib.hid ((b7.block x (Array.getElem?_eq_some_iff.1 hbr6.out).1).trans hbr6.out)
   have hbz7:=Lib.hid ((b7.block (x+1+1) (Array.getElem?_eq_some_iff.1 hbz6.out).1).trans hbz6.out)
   have hx7:x+3≤w7.heap.size:=(Array.getElem?_eq_some_iff.1 hbz7.out).1
   have hta7:=htab
   generalize hf7:litTab l.length j (decide (0 < z)) = f7 at *
   generalize hφ7:litφ z = φ7 at *
   clear hf7 hφ7 htab7 htab
   clear hr7 qt h6 hbel6 hbr6 hbz6 b7 h5 hbel5 hbr5 hbz5 hbo5 hbo6 hR hmut hB k0 k1 k2
   have h7a:=h7.out.below ((Below.refl w7.heap.size w7).alloc (Nat.le_refl _) (.cells #[.int .i64 (r6:Nat)] 3))
   have hoA:=own_cast h7a.oa (show _ = m by rw [List.length_map,←hm.out]) rfl
   have hbr7a:=(Below.heap_alloc w7 (.cells #[.int .i64 (r6:Nat)] 3) x (by omega)).trans hbr7.out
   have hbz7a:=(Below.heap_alloc w7 (.cells #[.int .i64 (r6:Nat)] 3) (x+1+1) (by omega)).trans hbz7.out
   obtain ⟨c0,c1,c2,c3⟩:=box4 hbr7.out
   replace h7a:=Lib.hid h7a
   replace hbr7a:=Lib.hid hbr7a
   replace hbz7a:=Lib.hid hbz7a
   go_wp2_with (at_builtin;first
    | (refine wpList_append_own _ rfl _ _ 32 rfl wa.heap.size 3 i0 (.int .i64 0) 1 8 Tryz.underlying32 hi0 hz0 hz1 hz2 rfl (by decide) _ _ _ rfl hoA ⟨w7.heap.size,0,none⟩ 1 1 [.int .i64 (r6:Nat)] rfl rfl (cell_one_at _ _ _ _ rfl) (by simp [Value.oneCell']) (by unfold maxLen;omega) (by omega) (by simp;omega) ?_
       intro v8 w8 ho8 hg8 _
       obtain ⟨g8,p8,rfl,hg8N⟩:=own_at ho8 (by omega)
       have hbr8:=box_grew hoA hg8 hbr7a.out (by decide)
       have hbz8:=box_grew hoA hg8 hbz7a.out (by decide)
       obtain ⟨y0,y1,y2,y3⟩:=box4 hbr8
       have hz8:w8.frozen? ⟨x,1,none⟩ = false:=by simp [World.frozen?,hbr8]
       have h8:=h7a.out.growA (by rw [List.length_map,←hm.out];omega) hg8 (own_cast ho8 (by rw [List.length_append,List.length_map,←hm.out];rfl) rfl)
       have hb8:Below wa.heap.size wa w8:=Below.grown (hbel7.out.alloc h7.out.sz _) hg8 (by simp;omega) (fun k e=>own_ge hoA e)
       have h9:=Lib.hid (h8.turn (w':=w8.setCell ⟨x,1,none⟩ (.slice (some ⟨g8,0,none⟩) (m+1) p8)) hbr8 hNx (fun p hp=>by have:=hnb.out p hp;omega) (by decide) (by decide) (by decide) (by decide) (by decide) (by decide) (by decide) (by simp) (fun k hk _=>heap_set_ne _ _ hk))
       have hbr9:(w8.setCell ⟨x,1,none⟩ (.slice (some ⟨g8,0,none⟩) (m+1) p8)).heap[x]? = some (.cells #[.pointer (some ⟨sb,0,none⟩),.slice (some ⟨g8,0,none⟩) (m+1) p8,.slice (some ⟨gf,0,none⟩) m cf,.bool false] 35 (0,0)):=heap_set hbr8 1 _
       have hbz9:(w8.setCell ⟨x,1,none⟩ (.slice (some ⟨g8,0,none⟩) (m+1) p8)).heap[x+1+1]? = some (.cells #[.pointer none,.slice none 0 0,.slice none 0 0,.bool false] 35 (0,0)):=(heap_set_ne _ _ (by omega)).trans hbz8
       have hbel9:Hid (Below wa.heap.size wa (w8.setCell ⟨x,1,none⟩ (.slice (some ⟨g8,0,none⟩) (m+1) p8))):=Lib.hid (hb8.setCell hNx _)
       have hx9:x+3≤w8.heap.size:=(Array.getElem?_eq_some_iff.1 hbz8).1
       have hoF:=(own_cast h9.out.of (show _ = m by rw [List.length_map,←hm.out]) rfl).alloc (.cells #[.slice (some ⟨g7,0,none⟩) ln7 c7] 43)
       have hbr9a:=Lib.hid ((Below.heap_alloc _ (.cells #[.slice (some ⟨g7,0,none⟩) ln7 c7] 43) x (by simp;omega)).trans hbr9)
       have hbz9a:=Lib.hid ((Below.heap_alloc _ (.cells #[.slice (some ⟨g7,0,none⟩) ln7 c7] 43) (x+1+1) (by simp;omega)).trans hbz9)
       clear hbr8 hbz8 ho8 hg8 h8 hb8)
    | (refine wpList_append_own _ rfl _ _ 33 rfl wa.heap.size 43 j0 (.slice none 0 0) 1 24 Tryz.underlying33 hj0 hzj0 hzj1 hzj2 rfl (by decide) _ _ _ rfl hoF ⟨w8.heap.size,0,none⟩ 1 1 [.slice (some ⟨g7,0,none⟩) ln7 c7] (by rfl) rfl (cell_one_at _ _ _ _ (by simp)) (by simp [Value.oneCell']) (by unfold maxLen;omega) (by omega) (by simp;omega) ?_
       intro v10 w10 ho10 hg10 _
       obtain ⟨g10,p10,rfl,hg10N⟩:=own_at ho10 (by omega)
       have hbr10:=box_grew hoF hg10 hbr9a.out (by decide)
       have hbz10:=box_grew hoF hg10 hbz9a.out (by decide)
       obtain ⟨z0,z1,z2,z3⟩:=box4 hbr10
       obtain ⟨u0,u1,u2,u3⟩:=box4 hbz10
       have fz:w10.frozen? ⟨x,2,none⟩ = false:=by simp [World.frozen?,hbr10]
       have f0:w10.frozen? ⟨x+1+1,0,none⟩ = false:=by simp [World.frozen?,hbz10]
       have f1:w10.frozen? ⟨x+1+1,1,none⟩ = false:=by simp [World.frozen?,hbz10]
       have f2:w10.frozen? ⟨x+1+1,2,none⟩ = false:=by simp [World.frozen?,hbz10]
       have f3:w10.frozen? ⟨x+1+1,3,none⟩ = false:=by simp [World.frozen?,hbz10]
       replace hbr10:=Lib.hid hbr10
       replace hbz10:=Lib.hid hbz10))
   have h10:=(h9.out.below ((Below.refl _ _).alloc (Nat.le_refl _) (.cells #[.slice (some ⟨g7,0,none⟩) ln7 c7] 43))).growF (by rw [List.length_map,←hm.out];omega) hg10 (own_cast ho10 (by rw [List.length_append,List.length_map,←hm.out];rfl) rfl)
   have hb10:Below wa.heap.size wa w10:=Below.grown (hbel9.out.alloc h9.out.sz _) hg10 (by simp;omega) (fun k e=>own_ge hoF e)
   obtain ⟨h11,hb11,e0,e1,e2,e3⟩:=run_closeAt 2 h10 hbr10.out hbz10.out (by omega) hNx (by omega) (fun p hp=>by have:=hnb.out p hp;omega) (fun p hp=>by have:=hnb.out p hp;omega) (.slice (some ⟨g10,0,none⟩) (m+1) p10) (.pointer (some ⟨sb,0,none⟩)) (.slice (some ⟨g8,0,none⟩) (m+1) p8) (.slice (some ⟨g10,0,none⟩) (m+1) p10) (.bool false) rfl
   refine bodyPost_ret (v:=.agg #[.pointer (some ⟨sb,0,none⟩),.slice (some ⟨g8,0,none⟩) (m+1) p8,.slice (some ⟨g10,0,none⟩) (m+1) p10,.bool false]) (by simp [results,Tryz.results18,go_sem,e0,e1,e2,e3]) rfl ⟨_,_,s6,rs++[⟨r6,φ7,.slice (some ⟨g7,0,none⟩) ln7 c7,f7⟩],rfl,⟨?_,hb11 _ hb10,?_,?_⟩,by simp⟩
   ·have:=h11
    simp only [List.map_append,List.map_cons,List.map_nil]
    exact this
   ·intro r hr
    rcases List.mem_append.1 hr with hr | hr
    ·exact ⟨(hok.out r hr).1.step hinv.out hT6.out,(hok.out r hr).2⟩
    ·rw [List.mem_singleton.1 hr]
     exact ⟨hv6.out,hta7.out⟩
   ·exact ⟨r0,r1,rest++[_],by rw [hrs0.out];rfl,hr0,hr1⟩
  ·have qn:=litbad_v (l:=A) ((h5.out.less (m:=k') (by omega)).ssAt hR) hvar
   rw [hB] at qn
   replace hvar:=Lib.hid hvar
   clear hB hR hmut
   go_wp2_with fail
   refine qn.mono ?_
   rintro e w6 ⟨rfl,hb6⟩
   have h6:=(h5.out.less (m:=k') (by omega)).below hb6
   have hbr6:=(hb6.block x (by omega)).trans hbr5.out
   have hbz6:=(hb6.block (x+1+1) (by omega)).trans hbz5.out
   have hbo6:=(hb6.block (x+1) (by omega)).trans hbo5.out
   have hbel6:=hbel5.out.trans (hb6.mono h5.out.sz)
   have qt:=tlit_no (z:=A) (owns_slI (own_lift ho5.out hb6)) hl6 (fun v hv=>by
    have hw:=hvo.out v hv
    refine ⟨hw.range,fun e=>hvar.out ?_,fun e=>hvar.out ?_⟩
    ·have:=hw.range
     rwa [show ((A.natAbs:Nat):Int) = v by omega]
    ·have:=hw.range
     rwa [show ((A.natAbs:Nat):Int) = v by omega]) hA
   obtain ⟨k0,k1,k2⟩:=box3 hbo6
   replace h6:=Lib.hid h6
   replace hbel6:=Lib.hid hbel6
   replace hbo6:=Lib.hid hbo6
   obtain ⟨c0,c1,c2,c3⟩:=box4 hbr6
   obtain ⟨u0,u1,u2,u3⟩:=box4 hbz6
   have fz:w6.frozen? ⟨x,3,none⟩ = false:=by simp [World.frozen?,hbr6]
   have f0:w6.frozen? ⟨x+1+1,0,none⟩ = false:=by simp [World.frozen?,hbz6]
   have f1:w6.frozen? ⟨x+1+1,1,none⟩ = false:=by simp [World.frozen?,hbz6]
   have f2:w6.frozen? ⟨x+1+1,2,none⟩ = false:=by simp [World.frozen?,hbz6]
   have f3:w6.frozen? ⟨x+1+1,3,none⟩ = false:=by simp [World.frozen?,hbz6]
   replace hbr6:=Lib.hid hbr6
   replace hbz6:=Lib.hid hbz6
   clear qn hb6 h5 hbel5 hbr5 hbz5 hbo5 ho5
   go_wp2_with fail
   refine qt.mono ?_
   rintro e w7 ⟨rfl,rfl⟩
   clear qt
   go_wp2_with fail
   obtain ⟨h11,hb11,e0,e1,e2,e3⟩:=run_closeAt 3 h6.out hbr6.out hbz6.out (by omega) hNx (by omega) (fun p hp=>by have:=hnb.out p hp;omega) (fun p hp=>by have:=hnb.out p hp;omega) (.bool false) (.pointer (some ⟨sb,0,none⟩)) (.slice (some ⟨ga,0,none⟩) m ca) (.slice (some ⟨gf,0,none⟩) m cf) (.bool false) rfl
   refine bodyPost_ret (v:=.agg #[.pointer (some ⟨sb,0,none⟩),.slice (some ⟨ga,0,none⟩) m ca,.slice (some ⟨gf,0,none⟩) m cf,.bool false]) (by simp [results,Tryz.results18,go_sem,e0,e1,e2,e3]) rfl ⟨_,_,s,rs,rfl,⟨h11,hb11 _ hbel6.out,hok.out,⟨r0,r1,rest,hrs0.out,hr0,hr1⟩⟩,by omega⟩
 ·have hd:=(Below.refl w5.heap.size w5).drew
  have h5d:=Lib.hid (h5.out.below hd)
  have hbr5d:Hid (w5.drew.heap[x]? = _):=hbr5
  have hbz5d:Hid (w5.drew.heap[x+1+1]? = _):=hbz5
  have hbel5d:=Lib.hid (hbel5.out.trans (hd.mono h5.out.sz))
  clear hd
  obtain ⟨B,hB,hR,hmut⟩:=h5d.out.sp
  obtain ⟨ra,hra⟩:∃ ra,rs[ai]? = some ra:=⟨_,List.getElem?_eq_getElem (by rw [←hm.out];exact hai)⟩
  obtain ⟨hva,hta⟩:=hok.out ra (List.mem_of_getElem? hra)
  have qn:=not_v (k':=k') (h5d.out.ssAt hR) (by omega) hva
  rw [hB] at qn
  obtain ⟨c0,c1,c2,c3⟩:=box4 hbr5.out
  have ca5:w5.cell? ⟨ga,ai,none⟩ = some (.int .i64 (ra.n:Nat)):=own_cellAt (own_cast h5.out.oa (by rw [List.length_map,←hm.out]) rfl) (by rw [List.getElem?_map,hra];rfl)
  replace hB:=Lib.hid hB
  replace hR:=Lib.hid hR
  replace hmut:=Lib.hid hmut
  replace hra:=Lib.hid hra
  replace hva:=Lib.hid hva
  replace hta:=Lib.hid hta
  go_wp2_with fail
  (refine wp_region_held_drew (S:=(fun W=>W.cell? ⟨x,0,none⟩ = some (.pointer (some ⟨sb,0,none⟩))∧W.cell? ⟨x,1,none⟩ = some (.slice (some ⟨ga,0,none⟩) m ca)∧W.cell? ⟨ga,ai,none⟩ = some (.int .i64 (ra.n:Nat)))) (by kernel_rfl) ?_ (fun hHeld=>?_))
  ·exact ⟨c0,c1,ca5⟩
  (refine takeL (i:=0) (v:=?_) rfl (by kernel_rfl) (by kernel_rfl) (by kernel_rfl) (fun _ _ _ h=>h) (Or.inl ⟨by rfl,?_⟩) (by assumption) ?_)
  rotate_left
  ·(intro w hSw;(try dsimp only at hSw);go_simp;first | done | with_reducible rfl)
  (try simp only [Act.put,List.setIfInBounds_toArray,List.set_cons_zero,List.set_cons_succ])
  (refine takeL (i:=1) (v:=?_) rfl (by kernel_rfl) (by kernel_rfl) (by kernel_rfl) (fun _ _ _ h=>h) (Or.inl ⟨by rfl,?_⟩) (by assumption) ?_)
  rotate_left
  ·(intro w hSw;(try dsimp only at hSw);go_simp;first | done | with_reducible rfl)
  (try simp only [Act.put,List.setIfInBounds_toArray,List.set_cons_zero,List.set_cons_succ])
  (refine takeL (i:=2) (v:=?_) rfl (by kernel_rfl) (by kernel_rfl) (by kernel_rfl) (fun _ _ _ h=>h) (Or.inl ⟨by rfl,?_⟩) (by assumption) ?_)
  rotate_left
  ·(intro w hSw;(try dsimp only at hSw);go_simp;first | done | with_reducible rfl)
  (try simp only [Act.put,List.setIfInBounds_toArray,List.set_cons_zero,List.set_cons_succ])
  (refine takeL (i:=3) (v:=?_) rfl (by kernel_rfl) (by kernel_rfl) (by kernel_rfl) (fun _ _ _ h=>h) (Or.inl ⟨by rfl,?_⟩) (by assumption) ?_)
  rotate_left
  ·(intro w hSw;(try dsimp only at hSw);go_simp;first | done | with_reducible rfl)
  (try simp only [Act.put,List.setIfInBounds_toArray,List.set_cons_zero,List.set_cons_succ])
  (refine takeL (i:=4) (v:=?_) rfl (by kernel_rfl) (by kernel_rfl) (by kernel_rfl) (fun _ _ _ h=>h) (Or.inl ⟨by rfl,?_⟩) (by assumption) ?_)
  rotate_left
  ·(intro w hSw;(try dsimp only at hSw);go_simp;first | done | with_reducible rfl)
  (try simp only [Act.put,List.setIfInBounds_toArray,List.set_cons_zero,List.set_cons_succ])
  (refine takeL (i:=5) (v:=?_) rfl (by kernel_rfl) (by kernel_rfl) (by kernel_rfl) (fun _ _ _ h=>h) (Or.inl ⟨by rfl,?_⟩) (by assumption) ?_)
  rotate_left
  ·(intro w hSw;(try dsimp only at hSw);go_simp;first | done | with_reducible rfl)
  (try simp only [Act.put,List.setIfInBounds_toArray,List.set_cons_zero,List.set_cons_succ])
  (refine takeL (i:=6) (v:=?_) rfl (by kernel_rfl) (by kernel_rfl) (by kernel_rfl) (fun _ _ _ h=>h) (Or.inl ⟨by rfl,?_⟩) (by assumption) ?_)
  rotate_left
  ·(intro w hSw;(try dsimp only at hSw);go_simp;first | done | with_reducible rfl)
  (try simp only [Act.put,List.setIfInBounds_toArray,List.set_cons_zero,List.set_cons_succ])
  (refine wpAnyH_ready (rs:=[7]) (by kernel_rfl) (by simp) ?_)
  (refine consL rfl (fun K hK=>?_))
  ((rw [if_pos (by rfl)]);go_simp;(go_at_call 28);refine qn.mono ?_;rintro e w6 ⟨r6,s6,rfl,hS6,hT6,hv6⟩;have hbr6:=RunG.box hbr5d.out (by decide) (by decide) hR.out hS6;have hbz6:=RunG.box hbz5d.out (by decide) (by decide) hR.out hS6;obtain ⟨h6,hbe6⟩:=h5d.out.next hB.out hR.out hmut.out hS6;have ca6:w6.cell? ⟨ga,ai,none⟩ = some (.int .i64 (ra.n:Nat)):=own_cellAt (own_cast h6.oa (by rw [List.length_map,←hm.out]) rfl) (by rw [List.getElem?_map,hra.out];rfl);obtain ⟨y0,y1,y2,y3⟩:=box4 hbr6;refine hK.out _ _ ⟨y0,y1,ca6⟩ (fun hHeld=>?_))
  (clear hK K)
  (try simp only [Act.put,List.setIfInBounds_toArray,List.set_cons_zero,List.set_cons_succ])
  (refine takeL (i:=8) (v:=?_) rfl (by kernel_rfl) (by kernel_rfl) (by kernel_rfl) (fun _ _ _ h=>h) (Or.inl ⟨by rfl,?_⟩) (by assumption) ?_)
  rotate_left
  ·(intro w hSw;(try dsimp only at hSw);go_simp;first | done | with_reducible rfl)
  (try simp only [Act.put,List.setIfInBounds_toArray,List.set_cons_zero,List.set_cons_succ])
  (refine takeL (i:=9) (v:=?_) rfl (by kernel_rfl) (by kernel_rfl) (by kernel_rfl) (fun _ _ _ h=>h) (Or.inl ⟨by rfl,?_⟩) (by assumption) ?_)
  rotate_left
  ·(intro w hSw;(try dsimp only at hSw);go_simp;first | done | with_reducible rfl)
  (try simp only [Act.put,List.setIfInBounds_toArray,List.set_cons_zero,List.set_cons_succ])
  (refine takeL (i:=10) (v:=?_) rfl (by kernel_rfl) (by kernel_rfl) (by kernel_rfl) (fun _ _ _ h=>h) (Or.inl ⟨by rfl,?_⟩) (by assumption) ?_)
  rotate_left
  ·(intro w hSw;(try dsimp only at hSw);go_simp;first | done | with_reducible rfl)
  (try simp only [Act.put,List.setIfInBounds_toArray,List.set_cons_zero,List.set_cons_succ])
  (refine takeL (i:=11) (v:=?_) rfl (by kernel_rfl) (by kernel_rfl) (by kernel_rfl) (fun _ _ _ h=>h) (Or.inl ⟨by rfl,?_⟩) (by assumption) ?_)
  rotate_left
  ·(intro w hSw;(try dsimp only at hSw);go_simp;first | done | with_reducible rfl)
  (try simp only [Act.put,List.setIfInBounds_toArray,List.set_cons_zero,List.set_cons_succ])
  (refine takeL (i:=12) (v:=?_) rfl (by kernel_rfl) (by kernel_rfl) (by kernel_rfl) (fun _ _ _ h=>h) (Or.inl ⟨by rfl,?_⟩) (by assumption) ?_)
  rotate_left
  ·(intro w hSw;(try dsimp only at hSw);go_simp;first | done | with_reducible rfl)
  (try simp only [Act.put,List.setIfInBounds_toArray,List.set_cons_zero,List.set_cons_succ])
  (refine wpAnyH_done (by kernel_rfl) ?_ _)
  have cf6:w6.cell? ⟨gf,ai,none⟩ = some ra.v:=own_cellAt (own_cast h6.of (by rw [List.length_map,←hm.out]) rfl) (by rw [List.getElem?_map,hra.out];rfl)
  have hbel6:=Lib.hid (hbel5d.out.trans hbe6)
  have qt:=tnot_any (h6.tab (ra.v,ra.f) (List.mem_map.2 ⟨ra,List.mem_of_getElem? hra.out,rfl⟩)).slB (by rw [hta.out.len];exact Nat.le_trans (pow_le64 hl6) (by decide))
  replace h6:=Lib.hid h6
  replace hT6:=Lib.hid hT6
  replace hv6:=Lib.hid hv6
  replace hbr6:=Lib.hid hbr6
  replace hbz6:=Lib.hid hbz6
  clear hbe6 hS6 hHeld qn c0 c1 c2 c3 ca5 ca6 k0 k1 k2
  go_wp2_with fail
  refine qt.mono ?_
  rintro e w7 hr7
  obtain ⟨g7,c7,ln7,rfl,htab7,b7⟩:=hr7.outs
  have h7:=Lib.hid ((h6.out.below b7).tabs (ts':=(rs.map fun r=>(r.v,r.f))++[(.slice (some ⟨g7,0,none⟩) ln7 c7,ra.f.map fun b=>!b)]) (fun p hp=>(List.mem_append.1 hp).elim ((h6.out.below b7).tab p) (fun hp=>by
   obtain rfl:p = (.slice (some ⟨g7,0,none⟩) ln7 c7,ra.f.map fun b=>!b):=by simpa using hp
   exact htab7)))
  have hbel7:=Lib.hid (hbel6.out.trans (b7.mono h6.out.sz))
  have hbr7:=Lib.hid ((b7.block x (Array.getElem?_eq_some_iff.1 hbr6.out).1).trans hbr6.out)
  have hbz7:=Lib.hid ((b7.block (x+1+1) (Array.getElem?_eq_some_iff.1 hbz6.out).1).trans hbz6.out)
  have hx7:x+3≤w7.heap.size:=(Array.getElem?_eq_some_iff.1 hbz7.out).1
  have hta7:=Lib.hid hta.out.not
  generalize hf7:(ra.f.map fun b=>!b) = f7 at *
  generalize hφ7:(fun x=>!ra.φ x) = φ7 at *
  clear hf7 hφ7 htab7
  clear cf6 hr7 qt h6 hbel6 hbr6 hbz6 b7 h5d hbr5d hbz5d hbel5d h5 hbel5 hbr5 hbz5 hbo5 ho5 hx5 hR hmut hB
  have h7a:=h7.out.below ((Below.refl w7.heap.size w7).alloc (Nat.le_refl _) (.cells #[.int .i64 (r6:Nat)] 3))
  have hoA:=own_cast h7a.oa (show _ = m by rw [List.length_map,←hm.out]) rfl
  have hbr7a:=(Below.heap_alloc w7 (.cells #[.int .i64 (r6:Nat)] 3) x (by omega)).trans hbr7.out
  have hbz7a:=(Below.heap_alloc w7 (.cells #[.int .i64 (r6:Nat)] 3) (x+1+1) (by omega)).trans hbz7.out
  obtain ⟨c0,c1,c2,c3⟩:=box4 hbr7.out
  replace h7a:=Lib.hid h7a
  replace hbr7a:=Lib.hid hbr7a
  replace hbz7a:=Lib.hid hbz7a
  go_wp2_with (at_builtin;first
   | (refine wpList_append_own _ rfl _ _ 32 rfl wa.heap.size 3 i0 (.int .i64 0) 1 8 Tryz.underlying32 hi0 hz0 hz1 hz2 rfl (by decide) _ _ _ rfl hoA ⟨w7.heap.size,0,none⟩ 1 1 [.int .i64 (r6:Nat)] rfl rfl (cell_one_at _ _ _ _ rfl) (by simp [Value.oneCell']) (by unfold maxLen;omega) (by omega) (by simp;omega) ?_
      intro v8 w8 ho8 hg8 _
      obtain ⟨g8,p8,rfl,hg8N⟩:=own_at ho8 (by omega)
      have hbr8:=box_grew hoA hg8 hbr7a.out (by decide)
      have hbz8:=box_grew hoA hg8 hbz7a.out (by decide)
      obtain ⟨y0,y1,y2,y3⟩:=box4 hbr8
      have hz8:w8.frozen? ⟨x,1,none⟩ = false:=by simp [World.frozen?,hbr8]
      have h8:=h7a.out.growA (by rw [List.length_map,←hm.out];omega) hg8 (own_cast ho8 (by rw [List.length_append,List.length_map,←hm.out];rfl) rfl)
      have hb8:Below wa.heap.size wa w8:=Below.grown (hbel7.out.alloc h7.out.sz _) hg8 (by simp;omega) (fun k e=>own_ge hoA e)
      have h9:=Lib.hid (h8.turn (w':=w8.setCell ⟨x,1,none⟩ (.slice (some ⟨g8,0,none⟩) (m+1) p8)) hbr8 hNx (fun p hp=>by have:=hnb.out p hp;omega) (by decide) (by decide) (by decide) (by decide) (by decide) (by decide) (by decide) (by simp) (fun k hk _=>heap_set_ne _ _ hk))
      have hbr9:(w8.setCell ⟨x,1,none⟩ (.slice (some ⟨g8,0,none⟩) (m+1) p8)).heap[x]? = some (.cells #[.pointer (some ⟨sb,0,none⟩),.slice (some ⟨g8,0,none⟩) (m+1) p8,.slice (some ⟨gf,0,none⟩) m cf,.bool false] 35 (0,0)):=heap_set hbr8 1 _
      have hbz9:(w8.setCell ⟨x,1,none⟩ (.slice (some ⟨g8,0,none⟩) (m+1) p8)).heap[x+1+1]? = some (.cells #[.pointer none,.slice none 0 0,.slice none 0 0,.bool false] 35 (0,0)):=(heap_set_ne _ _ (by omega)).trans hbz8
      have hbel9:Hid (Below wa.heap.size wa (w8.setCell ⟨x,1,none⟩ (.slice (some ⟨g8,0,none⟩) (m+1) p8))):=Lib.hid (hb8.setCell hNx _)
      have hx9:x+3≤w8.heap.size:=(Array.getElem?_eq_some_iff.1 hbz8).1
      have hoF:=(own_cast h9.out.of (show _ = m by rw [List.length_map,←hm.out]) rfl).alloc (.cells #[.slice (some ⟨g7,0,none⟩) ln7 c7] 43)
      have hbr9a:=Lib.hid ((Below.heap_alloc _ (.cells #[.slice (some ⟨g7,0,none⟩) ln7 c7] 43) x (by simp;omega)).trans hbr9)
      have hbz9a:=Lib.hid ((Below.heap_alloc _ (.cells #[.slice (some ⟨g7,0,none⟩) ln7 c7] 43) (x+1+1) (by simp;omega)).trans hbz9)
      clear hbr8 hbz8 ho8 hg8 h8 hb8)
   | (refine wpList_append_own _ rfl _ _ 33 rfl wa.heap.size 43 j0 (.slice none 0 0) 1 24 Tryz.underlying33 hj0 hzj0 hzj1 hzj2 rfl (by decide) _ _ _ rfl hoF ⟨w8.heap.size,0,none⟩ 1 1 [.slice (some ⟨g7,0,none⟩) ln7 c7] (by rfl) rfl (cell_one_at _ _ _ _ (by simp)) (by simp [Value.oneCell']) (by unfold maxLen;omega) (by omega) (by simp;omega) ?_
      intro v10 w10 ho10 hg10 _
      obtain ⟨g10,p10,rfl,hg10N⟩:=own_at ho10 (by omega)
      have hbr10:=box_grew hoF hg10 hbr9a.out (by decide)
      have hbz10:=box_grew hoF hg10 hbz9a.out (by decide)
      obtain ⟨z0,z1,z2,z3⟩:=box4 hbr10
      obtain ⟨u0,u1,u2,u3⟩:=box4 hbz10
      have fz:w10.frozen? ⟨x,2,none⟩ = false:=by simp [World.frozen?,hbr10]
      have f0:w10.frozen? ⟨x+1+1,0,none⟩ = false:=by simp [World.frozen?,hbz10]
      have f1:w10.frozen? ⟨x+1+1,1,none⟩ = false:=by simp [World.frozen?,hbz10]
      have f2:w10.frozen? ⟨x+1+1,2,none⟩ = false:=by simp [World.frozen?,hbz10]
      have f3:w10.frozen? ⟨x+1+1,3,none⟩ = false:=by simp [World.frozen?,hbz10]
      replace hbr10:=Lib.hid hbr10
      replace hbz10:=Lib.hid hbz10))
  have h10:=(h9.out.below ((Below.refl _ _).alloc (Nat.le_refl _) (.cells #[.slice (some ⟨g7,0,none⟩) ln7 c7] 43))).growF (by rw [List.length_map,←hm.out];omega) hg10 (own_cast ho10 (by rw [List.length_append,List.length_map,←hm.out];rfl) rfl)
  have hb10:Below wa.heap.size wa w10:=Below.grown (hbel9.out.alloc h9.out.sz _) hg10 (by simp;omega) (fun k e=>own_ge hoF e)
  obtain ⟨h11,hb11,e0,e1,e2,e3⟩:=run_closeAt 2 h10 hbr10.out hbz10.out (by omega) hNx (by omega) (fun p hp=>by have:=hnb.out p hp;omega) (fun p hp=>by have:=hnb.out p hp;omega) (.slice (some ⟨g10,0,none⟩) (m+1) p10) (.pointer (some ⟨sb,0,none⟩)) (.slice (some ⟨g8,0,none⟩) (m+1) p8) (.slice (some ⟨g10,0,none⟩) (m+1) p10) (.bool false) rfl
  refine bodyPost_ret (v:=.agg #[.pointer (some ⟨sb,0,none⟩),.slice (some ⟨g8,0,none⟩) (m+1) p8,.slice (some ⟨g10,0,none⟩) (m+1) p10,.bool false]) (by simp [results,Tryz.results18,go_sem,e0,e1,e2,e3]) rfl ⟨_,_,s6,rs++[⟨r6,φ7,.slice (some ⟨g7,0,none⟩) ln7 c7,f7⟩],rfl,⟨?_,hb11 _ hb10,?_,?_⟩,by simp⟩
  ·have:=h11
   simp only [List.map_append,List.map_cons,List.map_nil]
   exact this
  ·intro r hr
   rcases List.mem_append.1 hr with hr | hr
   ·exact ⟨(hok.out r hr).1.step hinv.out hT6.out,(hok.out r hr).2⟩
   ·rw [List.mem_singleton.1 hr]
    exact ⟨hv6.out,hta7.out⟩
  ·exact ⟨r0,r1,rest++[_],by rw [hrs0.out];rfl,hr0,hr1⟩
 ·have hd:=(Below.refl w5.heap.size w5).drew
  have h5d:=Lib.hid (h5.out.below hd)
  have hbr5d:Hid (w5.drew.heap[x]? = _):=hbr5
  have hbz5d:Hid (w5.drew.heap[x+1+1]? = _):=hbz5
  have hbel5d:=Lib.hid (hbel5.out.trans (hd.mono h5.out.sz))
  clear hd
  obtain ⟨B,hB,hR,hmut⟩:=h5d.out.sp
  obtain ⟨ra,hra⟩:∃ ra,rs[ai]? = some ra:=⟨_,List.getElem?_eq_getElem (by rw [←hm.out];exact hai)⟩
  obtain ⟨rb,hrb⟩:∃ rb,rs[bi]? = some rb:=⟨_,List.getElem?_eq_getElem (by rw [←hm.out];exact hbi)⟩
  obtain ⟨hva,hta⟩:=hok.out ra (List.mem_of_getElem? hra)
  obtain ⟨hvb,htb⟩:=hok.out rb (List.mem_of_getElem? hrb)
  have qn:=and_v (k':=k') (h5d.out.ssAt hR) (by omega) hva hvb
  rw [hB] at qn
  obtain ⟨c0,c1,c2,c3⟩:=box4 hbr5.out
  have ca5:w5.cell? ⟨ga,ai,none⟩ = some (.int .i64 (ra.n:Nat)):=own_cellAt (own_cast h5.out.oa (by rw [List.length_map,←hm.out]) rfl) (by rw [List.getElem?_map,hra];rfl)
  have cb5:w5.cell? ⟨ga,bi,none⟩ = some (.int .i64 (rb.n:Nat)):=own_cellAt (own_cast h5.out.oa (by rw [List.length_map,←hm.out]) rfl) (by rw [List.getElem?_map,hrb];rfl)
  replace hB:=Lib.hid hB
  replace hR:=Lib.hid hR
  replace hmut:=Lib.hid hmut
  replace hra:=Lib.hid hra
  replace hva:=Lib.hid hva
  replace hta:=Lib.hid hta
  replace hrb:=Lib.hid hrb
  replace hvb:=Lib.hid hvb
  replace htb:=Lib.hid htb
  go_wp2_with fail
  (refine wp_region_held_drew (S:=(fun W=>W.cell? ⟨x,0,none⟩ = some (.pointer (some ⟨sb,0,none⟩))∧W.cell? ⟨x,1,none⟩ = some (.slice (some ⟨ga,0,none⟩) m ca)∧W.cell? ⟨ga,ai,none⟩ = some (.int .i64 (ra.n:Nat))∧W.cell? ⟨ga,bi,none⟩ = some (.int .i64 (rb.n:Nat)))) (by kernel_rfl) ?_ (fun hHeld=>?_))
  ·exact ⟨c0,c1,ca5,cb5⟩
  (refine takeL (i:=0) (v:=?_) rfl (by kernel_rfl) (by kernel_rfl) (by kernel_rfl) (fun _ _ _ h=>h) (Or.inl ⟨by rfl,?_⟩) (by assumption) ?_)
  rotate_left
  ·(intro w hSw;(try dsimp only at hSw);go_simp;first | done | with_reducible rfl)
  (try simp only [Act.put,List.setIfInBounds_toArray,List.set_cons_zero,List.set_cons_succ])
  (refine takeL (i:=1) (v:=?_) rfl (by kernel_rfl) (by kernel_rfl) (by kernel_rfl) (fun _ _ _ h=>h) (Or.inl ⟨by rfl,?_⟩) (by assumption) ?_)
  rotate_left
  ·(intro w hSw;(try dsimp only at hSw);go_simp;first | done | with_reducible rfl)
  (try simp only [Act.put,List.setIfInBounds_toArray,List.set_cons_zero,List.set_cons_succ])
  (refine takeL (i:=2) (v:=?_) rfl (by kernel_rfl) (by kernel_rfl) (by kernel_rfl) (fun _ _ _ h=>h) (Or.inl ⟨by rfl,?_⟩) (by assumption) ?_)
  rotate_left
  ·(intro w hSw;(try dsimp only at hSw);go_simp;first | done | with_reducible rfl)
  (try simp only [Act.put,List.setIfInBounds_toArray,List.set_cons_zero,List.set_cons_succ])
  (refine takeL (i:=3) (v:=?_) rfl (by kernel_rfl) (by kernel_rfl) (by kernel_rfl) (fun _ _ _ h=>h) (Or.inl ⟨by rfl,?_⟩) (by assumption) ?_)
  rotate_left
  ·(intro w hSw;(try dsimp only at hSw);go_simp;first | done | with_reducible rfl)
  (try simp only [Act.put,List.setIfInBounds_toArray,List.set_cons_zero,List.set_cons_succ])
  (refine takeL (i:=4) (v:=?_) rfl (by kernel_rfl) (by kernel_rfl) (by kernel_rfl) (fun _ _ _ h=>h) (Or.inl ⟨by rfl,?_⟩) (by assumption) ?_)
  rotate_left
  ·(intro w hSw;(try dsimp only at hSw);go_simp;first | done | with_reducible rfl)
  (try simp only [Act.put,List.setIfInBounds_toArray,List.set_cons_zero,List.set_cons_succ])
  (refine takeL (i:=5) (v:=?_) rfl (by kernel_rfl) (by kernel_rfl) (by kernel_rfl) (fun _ _ _ h=>h) (Or.inl ⟨by rfl,?_⟩) (by assumption) ?_)
  rotate_left
  ·(intro w hSw;(try dsimp only at hSw);go_simp;first | done | with_reducible rfl)
  (try simp only [Act.put,List.setIfInBounds_toArray,List.set_cons_zero,List.set_cons_succ])
  (refine takeL (i:=6) (v:=?_) rfl (by kernel_rfl) (by kernel_rfl) (by kernel_rfl) (fun _ _ _ h=>h) (Or.inl ⟨by rfl,?_⟩) (by assumption) ?_)
  rotate_left
  ·(intro w hSw;(try dsimp only at hSw);go_simp;first | done | with_reducible rfl)
  (try simp only [Act.put,List.setIfInBounds_toArray,List.set_cons_zero,List.set_cons_succ])
  (refine takeL (i:=7) (v:=?_) rfl (by kernel_rfl) (by kernel_rfl) (by kernel_rfl) (fun _ _ _ h=>h) (Or.inl ⟨by rfl,?_⟩) (by assumption) ?_)
  rotate_left
  ·(intro w hSw;(try dsimp only at hSw);go_simp;first | done | with_reducible rfl)
  (try simp only [Act.put,List.setIfInBounds_toArray,List.set_cons_zero,List.set_cons_succ])
  (refine takeL (i:=8) (v:=?_) rfl (by kernel_rfl) (by kernel_rfl) (by kernel_rfl) (fun _ _ _ h=>h) (Or.inl ⟨by rfl,?_⟩) (by assumption) ?_)
  rotate_left
  ·(intro w hSw;(try dsimp only at hSw);go_simp;first | done | with_reducible rfl)
  (try simp only [Act.put,List.setIfInBounds_toArray,List.set_cons_zero,List.set_cons_succ])
  (refine takeL (i:=9) (v:=?_) rfl (by kernel_rfl) (by kernel_rfl) (by kernel_rfl) (fun _ _ _ h=>h) (Or.inl ⟨by rfl,?_⟩) (by assumption) ?_)
  rotate_left
  ·(intro w hSw;(try dsimp only at hSw);go_simp;first | done | with_reducible rfl)
  (try simp only [Act.put,List.setIfInBounds_toArray,List.set_cons_zero,List.set_cons_succ])
  (refine takeL (i:=10) (v:=?_) rfl (by kernel_rfl) (by kernel_rfl) (by kernel_rfl) (fun _ _ _ h=>h) (Or.inl ⟨by rfl,?_⟩) (by assumption) ?_)
  rotate_left
  ·(intro w hSw;(try dsimp only at hSw);go_simp;first | done | with_reducible rfl)
  (try simp only [Act.put,List.setIfInBounds_toArray,List.set_cons_zero,List.set_cons_succ])
  (refine takeL (i:=11) (v:=?_) rfl (by kernel_rfl) (by kernel_rfl) (by kernel_rfl) (fun _ _ _ h=>h) (Or.inl ⟨by rfl,?_⟩) (by assumption) ?_)
  rotate_left
  ·(intro w hSw;(try dsimp only at hSw);go_simp;first | done | with_reducible rfl)
  (try simp only [Act.put,List.setIfInBounds_toArray,List.set_cons_zero,List.set_cons_succ])
  (refine wpAnyH_ready (rs:=[12]) (by kernel_rfl) (by simp) ?_)
  (refine consL rfl (fun K hK=>?_))
  ((rw [if_pos (by rfl)]);go_simp;(go_at_call 25);refine qn.mono ?_;rintro e w6 ⟨r6,s6,rfl,hS6,hT6,hv6⟩;have hbr6:=RunG.box hbr5d.out (by decide) (by decide) hR.out hS6;have hbz6:=RunG.box hbz5d.out (by decide) (by decide) hR.out hS6;obtain ⟨h6,hbe6⟩:=h5d.out.next hB.out hR.out hmut.out hS6;have ca6:w6.cell? ⟨ga,ai,none⟩ = some (.int .i64 (ra.n:Nat)):=own_cellAt (own_cast h6.oa (by rw [List.length_map,←hm.out]) rfl) (by rw [List.getElem?_map,hra.out];rfl);have cb6:w6.cell? ⟨ga,bi,none⟩ = some (.int .i64 (rb.n:Nat)):=own_cellAt (own_cast h6.oa (by rw [List.length_map,←hm.out]) rfl) (by rw [List.getElem?_map,hrb.out];rfl);obtain ⟨y0,y1,y2,y3⟩:=box4 hbr6;refine hK.out _ _ ⟨y0,y1,ca6,cb6⟩ (fun hHeld=>?_))
  (clear hK K)
  (try simp only [Act.put,List.setIfInBounds_toArray,List.set_cons_zero,List.set_cons_succ])
  (refine takeL (i:=13) (v:=?_) rfl (by kernel_rfl) (by kernel_rfl) (by kernel_rfl) (fun _ _ _ h=>h) (Or.inl ⟨by rfl,?_⟩) (by assumption) ?_)
  rotate_left
  ·(intro w hSw;(try dsimp only at hSw);go_simp;first | done | with_reducible rfl)
  (try simp only [Act.put,List.setIfInBounds_toArray,List.set_cons_zero,List.set_cons_succ])
  (refine takeL (i:=14) (v:=?_) rfl (by kernel_rfl) (by kernel_rfl) (by kernel_rfl) (fun _ _ _ h=>h) (Or.inl ⟨by rfl,?_⟩) (by assumption) ?_)
  rotate_left
  ·(intro w hSw;(try dsimp only at hSw);go_simp;first | done | with_reducible rfl)
  (try simp only [Act.put,List.setIfInBounds_toArray,List.set_cons_zero,List.set_cons_succ])
  (refine takeL (i:=15) (v:=?_) rfl (by kernel_rfl) (by kernel_rfl) (by kernel_rfl) (fun _ _ _ h=>h) (Or.inl ⟨by rfl,?_⟩) (by assumption) ?_)
  rotate_left
  ·(intro w hSw;(try dsimp only at hSw);go_simp;first | done | with_reducible rfl)
  (try simp only [Act.put,List.setIfInBounds_toArray,List.set_cons_zero,List.set_cons_succ])
  (refine takeL (i:=16) (v:=?_) rfl (by kernel_rfl) (by kernel_rfl) (by kernel_rfl) (fun _ _ _ h=>h) (Or.inl ⟨by rfl,?_⟩) (by assumption) ?_)
  rotate_left
  ·(intro w hSw;(try dsimp only at hSw);go_simp;first | done | with_reducible rfl)
  (try simp only [Act.put,List.setIfInBounds_toArray,List.set_cons_zero,List.set_cons_succ])
  (refine takeL (i:=17) (v:=?_) rfl (by kernel_rfl) (by kernel_rfl) (by kernel_rfl) (fun _ _ _ h=>h) (Or.inl ⟨by rfl,?_⟩) (by assumption) ?_)
  rotate_left
  ·(intro w hSw;(try dsimp only at hSw);go_simp;first | done | with_reducible rfl)
  (try simp only [Act.put,List.setIfInBounds_toArray,List.set_cons_zero,List.set_cons_succ])
  (refine wpAnyH_done (by kernel_rfl) ?_ _)
  have cf6:w6.cell? ⟨gf,ai,none⟩ = some ra.v:=own_cellAt (own_cast h6.of (by rw [List.length_map,←hm.out]) rfl) (by rw [List.getElem?_map,hra.out];rfl)
  have cg6:w6.cell? ⟨gf,bi,none⟩ = some rb.v:=own_cellAt (own_cast h6.of (by rw [List.length_map,←hm.out]) rfl) (by rw [List.getElem?_map,hrb.out];rfl)
  have hbel6:=Lib.hid (hbel5d.out.trans hbe6)
  have hd:=(Below.refl w6.heap.size w6).drew
  have h6d:=Lib.hid (h6.below hd)
  have hbr6d:Hid (w6.drew.heap[x]? = _):=Lib.hid hbr6
  have hbz6d:Hid (w6.drew.heap[x+1+1]? = _):=Lib.hid hbz6
  have hbel6d:=Lib.hid (hbel6.out.trans (hd.mono h6.sz))
  have hF:=Lib.hid (And.intro h6d.out.of hbr6d.out)
  have qt:=tand_any (h6d.out.tab (ra.v,ra.f) (List.mem_map.2 ⟨ra,List.mem_of_getElem? hra.out,rfl⟩)).slB (h6d.out.tab (rb.v,rb.f) (List.mem_map.2 ⟨rb,List.mem_of_getElem? hrb.out,rfl⟩)).slB (by rw [hta.out.len,htb.out.len]) (by rw [hta.out.len];exact Nat.le_trans (pow_le64 hl6) (by decide))
  replace hT6:=Lib.hid hT6
  replace hv6:=Lib.hid hv6
  clear hbe6 hS6 hHeld qn c0 c1 c2 c3 ca5 ca6 cb5 cb6 k0 k1 k2 hd h6 hbr6 hbz6 hbel6
  go_wp2_with fail
  (refine wp_region_held_drew (S:=(fun W=>W.cell? ⟨x,2,none⟩ = some (.slice (some ⟨gf,0,none⟩) m cf)∧W.cell? ⟨gf,ai,none⟩ = some ra.v∧W.cell? ⟨gf,bi,none⟩ = some rb.v)) (by kernel_rfl) ?_ (fun hHeld=>?_))
  ·exact ⟨y2,cf6,cg6⟩
  (refine takeL (i:=0) (v:=?_) rfl (by kernel_rfl) (by kernel_rfl) (by kernel_rfl) (fun _ _ _ h=>h) (Or.inl ⟨by rfl,?_⟩) (by assumption) ?_)
  rotate_left
  ·(intro w hSw;(try dsimp only at hSw);go_simp;first | done | with_reducible rfl)
  (try simp only [Act.put,List.setIfInBounds_toArray,List.set_cons_zero,List.set_cons_succ])
  (refine takeL (i:=1) (v:=?_) rfl (by kernel_rfl) (by kernel_rfl) (by kernel_rfl) (fun _ _ _ h=>h) (Or.inl ⟨by rfl,?_⟩) (by assumption) ?_)
  rotate_left
  ·(intro w hSw;(try dsimp only at hSw);go_simp;first | done | with_reducible rfl)
  (try simp only [Act.put,List.setIfInBounds_toArray,List.set_cons_zero,List.set_cons_succ])
  (refine takeL (i:=2) (v:=?_) rfl (by kernel_rfl) (by kernel_rfl) (by kernel_rfl) (fun _ _ _ h=>h) (Or.inl ⟨by rfl,?_⟩) (by assumption) ?_)
  rotate_left
  ·(intro w hSw;(try dsimp only at hSw);go_simp;first | done | with_reducible rfl)
  (try simp only [Act.put,List.setIfInBounds_toArray,List.set_cons_zero,List.set_cons_succ])
  (refine takeL (i:=3) (v:=?_) rfl (by kernel_rfl) (by kernel_rfl) (by kernel_rfl) (fun _ _ _ h=>h) (Or.inl ⟨by rfl,?_⟩) (by assumption) ?_)
  rotate_left
  ·(intro w hSw;(try dsimp only at hSw);go_simp;first | done | with_reducible rfl)
  (try simp only [Act.put,List.setIfInBounds_toArray,List.set_cons_zero,List.set_cons_succ])
  (refine takeL (i:=4) (v:=?_) rfl (by kernel_rfl) (by kernel_rfl) (by kernel_rfl) (fun _ _ _ h=>h) (Or.inl ⟨by rfl,?_⟩) (by assumption) ?_)
  rotate_left
  ·(intro w hSw;(try dsimp only at hSw);go_simp;first | done | with_reducible rfl)
  (try simp only [Act.put,List.setIfInBounds_toArray,List.set_cons_zero,List.set_cons_succ])
  (refine takeL (i:=5) (v:=?_) rfl (by kernel_rfl) (by kernel_rfl) (by kernel_rfl) (fun _ _ _ h=>h) (Or.inl ⟨by rfl,?_⟩) (by assumption) ?_)
  rotate_left
  ·(intro w hSw;(try dsimp only at hSw);go_simp;first | done | with_reducible rfl)
  (try simp only [Act.put,List.setIfInBounds_toArray,List.set_cons_zero,List.set_cons_succ])
  (refine takeL (i:=6) (v:=?_) rfl (by kernel_rfl) (by kernel_rfl) (by kernel_rfl) (fun _ _ _ h=>h) (Or.inl ⟨by rfl,?_⟩) (by assumption) ?_)
  rotate_left
  ·(intro w hSw;(try dsimp only at hSw);go_simp;first | done | with_reducible rfl)
  (try simp only [Act.put,List.setIfInBounds_toArray,List.set_cons_zero,List.set_cons_succ])
  (refine takeL (i:=7) (v:=?_) rfl (by kernel_rfl) (by kernel_rfl) (by kernel_rfl) (fun _ _ _ h=>h) (Or.inl ⟨by rfl,?_⟩) (by assumption) ?_)
  rotate_left
  ·(intro w hSw;(try dsimp only at hSw);go_simp;first | done | with_reducible rfl)
  (try simp only [Act.put,List.setIfInBounds_toArray,List.set_cons_zero,List.set_cons_succ])
  (refine takeL (i:=8) (v:=?_) rfl (by kernel_rfl) (by kernel_rfl) (by kernel_rfl) (fun _ _ _ h=>h) (Or.inl ⟨by rfl,?_⟩) (by assumption) ?_)
  rotate_left
  ·(intro w hSw;(try dsimp only at hSw);go_simp;first | done | with_reducible rfl)
  (try simp only [Act.put,List.setIfInBounds_toArray,List.set_cons_zero,List.set_cons_succ])
  (refine takeL (i:=9) (v:=?_) rfl (by kernel_rfl) (by kernel_rfl) (by kernel_rfl) (fun _ _ _ h=>h) (Or.inl ⟨by rfl,?_⟩) (by assumption) ?_)
  rotate_left
  ·(intro w hSw;(try dsimp only at hSw);go_simp;first | done | with_reducible rfl)
  (try simp only [Act.put,List.setIfInBounds_toArray,List.set_cons_zero,List.set_cons_succ])
  (refine wpAnyH_ready (rs:=[10]) (by kernel_rfl) (by simp) ?_)
  (refine consL rfl (fun K hK=>?_))
  ((rw [if_pos (by rfl)]);go_simp;(go_at_call 54);refine qt.mono ?_;rintro e w7 hr7;obtain ⟨g7,c7,ln7,rfl,htab7,b7⟩:=hr7.outs;refine hK.out _ _ ⟨(b7.cell (World.block_lt_of_cell? w6.drew _ y2)).trans y2,(b7.cell (World.block_lt_of_cell? w6.drew _ cf6)).trans cf6,(b7.cell (World.block_lt_of_cell? w6.drew _ cg6)).trans cg6⟩ (fun hHeld=>?_))
  (clear hK K)
  (try simp only [Act.put,List.setIfInBounds_toArray,List.set_cons_zero,List.set_cons_succ])
  (refine takeL (i:=11) (v:=?_) rfl (by kernel_rfl) (by kernel_rfl) (by kernel_rfl) (fun _ _ _ h=>h) (Or.inl ⟨by rfl,?_⟩) (by assumption) ?_)
  rotate_left
  ·(intro w hSw;(try dsimp only at hSw);go_simp;first | done | with_reducible rfl)
  (try simp only [Act.put,List.setIfInBounds_toArray,List.set_cons_zero,List.set_cons_succ])
  (refine wpAnyH_done (by kernel_rfl) ?_ _)
  have h7:=Lib.hid ((h6d.out.below b7).tabs (ts':=(rs.map fun r=>(r.v,r.f))++[(.slice (some ⟨g7,0,none⟩) ln7 c7,List.zipWith (fun a b=>a && b) ra.f rb.f)]) (fun p hp=>(List.mem_append.1 hp).elim ((h6d.out.below b7).tab p) (fun hp=>by
   obtain rfl:p = (.slice (some ⟨g7,0,none⟩) ln7 c7,List.zipWith (fun a b=>a && b) ra.f rb.f):=by simpa using hp
   exact htab7)))
  have hbel7:=Lib.hid (hbel6d.out.trans (b7.mono h6d.out.sz))
  have hbr7:=Lib.hid ((b7.block x (Array.getElem?_eq_some_iff.1 hbr6d.out).1).trans hbr6d.out)
  have hbz7:=Lib.hid ((b7.block (x+1+1) (Array.getElem?_eq_some_iff.1 hbz6d.out).1).trans hbz6d.out)
  have hx7:x+3≤w7.heap.size:=(Array.getElem?_eq_some_iff.1 hbz7.out).1
  have hta7:=Lib.hid (hta.out.and htb.out)
  generalize hf7:(List.zipWith (fun a b=>a && b) ra.f rb.f) = f7 at *
  generalize hφ7:(fun x=>ra.φ x && rb.φ x) = φ7 at *
  clear hf7 hφ7 htab7
  clear cf6 cg6 hr7 qt h6d hbel6d hbr6d hbz6d b7 h5d hbr5d hbz5d hbel5d h5 hbel5 hbr5 hbz5 hbo5 ho5 hx5 hR hmut hB hF hHeld y0 y1 y2 y3
  have h7a:=h7.out.below ((Below.refl w7.heap.size w7).alloc (Nat.le_refl _) (.cells #[.int .i64 (r6:Nat)] 3))
  have hoA:=own_cast h7a.oa (show _ = m by rw [List.length_map,←hm.out]) rfl
  have hbr7a:=(Below.heap_alloc w7 (.cells #[.int .i64 (r6:Nat)] 3) x (by omega)).trans hbr7.out
  have hbz7a:=(Below.heap_alloc w7 (.cells #[.int .i64 (r6:Nat)] 3) (x+1+1) (by omega)).trans hbz7.out
  obtain ⟨c0,c1,c2,c3⟩:=box4 hbr7.out
  replace h7a:=Lib.hid h7a
  replace hbr7a:=Lib.hid hbr7a
  replace hbz7a:=Lib.hid hbz7a
  go_wp2_with (at_builtin;first
   | (refine wpList_append_own _ rfl _ _ 32 rfl wa.heap.size 3 i0 (.int .i64 0) 1 8 Tryz.underlying32 hi0 hz0 hz1 hz2 rfl (by decide) _ _ _ rfl hoA ⟨w7.heap.size,0,none⟩ 1 1 [.int .i64 (r6:Nat)] rfl rfl (cell_one_at _ _ _ _ rfl) (by simp [Value.oneCell']) (by unfold maxLen;omega) (by omega) (by simp;omega) ?_
      intro v8 w8 ho8 hg8 _
      obtain ⟨g8,p8,rfl,hg8N⟩:=own_at ho8 (by omega)
      have hbr8:=box_grew hoA hg8 hbr7a.out (by decide)
      have hbz8:=box_grew hoA hg8 hbz7a.out (by decide)
      obtain ⟨y0,y1,y2,y3⟩:=box4 hbr8
      have hz8:w8.frozen? ⟨x,1,none⟩ = false:=by simp [World.frozen?,hbr8]
      have h8:=h7a.out.growA (by rw [List.length_map,←hm.out];omega) hg8 (own_cast ho8 (by rw [List.length_append,List.length_map,←hm.out];rfl) rfl)
      have hb8:Below wa.heap.size wa w8:=Below.grown (hbel7.out.alloc h7.out.sz _) hg8 (by simp;omega) (fun k e=>own_ge hoA e)
      have h9:=Lib.hid (h8.turn (w':=w8.setCell ⟨x,1,none⟩ (.slice (some ⟨g8,0,none⟩) (m+1) p8)) hbr8 hNx (fun p hp=>by have:=hnb.out p hp;omega) (by decide) (by decide) (by decide) (by decide) (by decide) (by decide) (by decide) (by simp) (fun k hk _=>heap_set_ne _ _ hk))
      have hbr9:(w8.setCell ⟨x,1,none⟩ (.slice (some ⟨g8,0,none⟩) (m+1) p8)).heap[x]? = some (.cells #[.pointer (some ⟨sb,0,none⟩),.slice (some ⟨g8,0,none⟩) (m+1) p8,.slice (some ⟨gf,0,none⟩) m cf,.bool false] 35 (0,0)):=heap_set hbr8 1 _
      have hbz9:(w8.setCell ⟨x,1,none⟩ (.slice (some ⟨g8,0,none⟩) (m+1) p8)).heap[x+1+1]? = some (.cells #[.pointer none,.slice none 0 0,.slice none 0 0,.bool false] 35 (0,0)):=(heap_set_ne _ _ (by omega)).trans hbz8
      have hbel9:Hid (Below wa.heap.size wa (w8.setCell ⟨x,1,none⟩ (.slice (some ⟨g8,0,none⟩) (m+1) p8))):=Lib.hid (hb8.setCell hNx _)
      have hx9:x+3≤w8.heap.size:=(Array.getElem?_eq_some_iff.1 hbz8).1
      have hoF:=(own_cast h9.out.of (show _ = m by rw [List.length_map,←hm.out]) rfl).alloc (.cells #[.slice (some ⟨g7,0,none⟩) ln7 c7] 43)
      have hbr9a:=Lib.hid ((Below.heap_alloc _ (.cells #[.slice (some ⟨g7,0,none⟩) ln7 c7] 43) x (by simp;omega)).trans hbr9)
      have hbz9a:=Lib.hid ((Below.heap_alloc _ (.cells #[.slice (some ⟨g7,0,none⟩) ln7 c7] 43) (x+1+1) (by simp;omega)).trans hbz9)
      clear hbr8 hbz8 ho8 hg8 h8 hb8)
   | (refine wpList_append_own _ rfl _ _ 33 rfl wa.heap.size 43 j0 (.slice none 0 0) 1 24 Tryz.underlying33 hj0 hzj0 hzj1 hzj2 rfl (by decide) _ _ _ rfl hoF ⟨w8.heap.size,0,none⟩ 1 1 [.slice (some ⟨g7,0,none⟩) ln7 c7] (by rfl) rfl (cell_one_at _ _ _ _ (by simp)) (by simp [Value.oneCell']) (by unfold maxLen;omega) (by omega) (by simp;omega) ?_
      intro v10 w10 ho10 hg10 _
      obtain ⟨g10,p10,rfl,hg10N⟩:=own_at ho10 (by omega)
      have hbr10:=box_grew hoF hg10 hbr9a.out (by decide)
      have hbz10:=box_grew hoF hg10 hbz9a.out (by decide)
      obtain ⟨z0,z1,z2,z3⟩:=box4 hbr10
      obtain ⟨u0,u1,u2,u3⟩:=box4 hbz10
      have fz:w10.frozen? ⟨x,2,none⟩ = false:=by simp [World.frozen?,hbr10]
      have f0:w10.frozen? ⟨x+1+1,0,none⟩ = false:=by simp [World.frozen?,hbz10]
      have f1:w10.frozen? ⟨x+1+1,1,none⟩ = false:=by simp [World.frozen?,hbz10]
      have f2:w10.frozen? ⟨x+1+1,2,none⟩ = false:=by simp [World.frozen?,hbz10]
      have f3:w10.frozen? ⟨x+1+1,3,none⟩ = false:=by simp [World.frozen?,hbz10]
      replace hbr10:=Lib.hid hbr10
      replace hbz10:=Lib.hid hbz10))
  have h10:=(h9.out.below ((Below.refl _ _).alloc (Nat.le_refl _) (.cells #[.slice (some ⟨g7,0,none⟩) ln7 c7] 43))).growF (by rw [List.length_map,←hm.out];omega) hg10 (own_cast ho10 (by rw [List.length_append,List.length_map,←hm.out];rfl) rfl)
  have hb10:Below wa.heap.size wa w10:=Below.grown (hbel9.out.alloc h9.out.sz _) hg10 (by simp;omega) (fun k e=>own_ge hoF e)
  obtain ⟨h11,hb11,e0,e1,e2,e3⟩:=run_closeAt 2 h10 hbr10.out hbz10.out (by omega) hNx (by omega) (fun p hp=>by have:=hnb.out p hp;omega) (fun p hp=>by have:=hnb.out p hp;omega) (.slice (some ⟨g10,0,none⟩) (m+1) p10) (.pointer (some ⟨sb,0,none⟩)) (.slice (some ⟨g8,0,none⟩) (m+1) p8) (.slice (some ⟨g10,0,none⟩) (m+1) p10) (.bool false) rfl
  refine bodyPost_ret (v:=.agg #[.pointer (some ⟨sb,0,none⟩),.slice (some ⟨g8,0,none⟩) (m+1) p8,.slice (some ⟨g10,0,none⟩) (m+1) p10,.bool false]) (by simp [results,Tryz.results18,go_sem,e0,e1,e2,e3]) rfl ⟨_,_,s6,rs++[⟨r6,φ7,.slice (some ⟨g7,0,none⟩) ln7 c7,f7⟩],rfl,⟨?_,hb11 _ hb10,?_,?_⟩,by simp⟩
  ·have:=h11
   simp only [List.map_append,List.map_cons,List.map_nil]
   exact this
  ·intro r hr
   rcases List.mem_append.1 hr with hr | hr
   ·exact ⟨(hok.out r hr).1.step hinv.out hT6.out,(hok.out r hr).2⟩
   ·rw [List.mem_singleton.1 hr]
    exact ⟨hv6.out,hta7.out⟩
  ·exact ⟨r0,r1,rest++[_],by rw [hrs0.out];rfl,hr0,hr1⟩
 ·have hd:=(Below.refl w5.heap.size w5).drew
  have h5d:=Lib.hid (h5.out.below hd)
  have hbr5d:Hid (w5.drew.heap[x]? = _):=hbr5
  have hbz5d:Hid (w5.drew.heap[x+1+1]? = _):=hbz5
  have hbel5d:=Lib.hid (hbel5.out.trans (hd.mono h5.out.sz))
  clear hd
  obtain ⟨B,hB,hR,hmut⟩:=h5d.out.sp
  obtain ⟨ra,hra⟩:∃ ra,rs[ai]? = some ra:=⟨_,List.getElem?_eq_getElem (by rw [←hm.out];exact hai)⟩
  obtain ⟨rb,hrb⟩:∃ rb,rs[bi]? = some rb:=⟨_,List.getElem?_eq_getElem (by rw [←hm.out];exact hbi)⟩
  obtain ⟨hva,hta⟩:=hok.out ra (List.mem_of_getElem? hra)
  obtain ⟨hvb,htb⟩:=hok.out rb (List.mem_of_getElem? hrb)
  have qn:=or_v (k':=k') (h5d.out.ssAt hR) (by omega) hva hvb
  rw [hB] at qn
  obtain ⟨c0,c1,c2,c3⟩:=box4 hbr5.out
  have ca5:w5.cell? ⟨ga,ai,none⟩ = some (.int .i64 (ra.n:Nat)):=own_cellAt (own_cast h5.out.oa (by rw [List.length_map,←hm.out]) rfl) (by rw [List.getElem?_map,hra];rfl)
  have cb5:w5.cell? ⟨ga,bi,none⟩ = some (.int .i64 (rb.n:Nat)):=own_cellAt (own_cast h5.out.oa (by rw [List.length_map,←hm.out]) rfl) (by rw [List.getElem?_map,hrb];rfl)
  replace hB:=Lib.hid hB
  replace hR:=Lib.hid hR
  replace hmut:=Lib.hid hmut
  replace hra:=Lib.hid hra
  replace hva:=Lib.hid hva
  replace hta:=Lib.hid hta
  replace hrb:=Lib.hid hrb
  replace hvb:=Lib.hid hvb
  replace htb:=Lib.hid htb
  go_wp2_with fail
  (refine wp_region_held_drew (S:=(fun W=>W.cell? ⟨x,0,none⟩ = some (.pointer (some ⟨sb,0,none⟩))∧W.cell? ⟨x,1,none⟩ = some (.slice (some ⟨ga,0,none⟩) m ca)∧W.cell? ⟨ga,ai,none⟩ = some (.int .i64 (ra.n:Nat))∧W.cell? ⟨ga,bi,none⟩ = some (.int .i64 (rb.n:Nat)))) (by kernel_rfl) ?_ (fun hHeld=>?_))
  ·exact ⟨c0,c1,ca5,cb5⟩
  (refine takeL (i:=0) (v:=?_) rfl (by kernel_rfl) (by kernel_rfl) (by kernel_rfl) (fun _ _ _ h=>h) (Or.inl ⟨by rfl,?_⟩) (by assumption) ?_)
  rotate_left
  ·(intro w hSw;(try dsimp only at hSw);go_simp;first | done | with_reducible rfl)
  (try simp only [Act.put,List.setIfInBounds_toArray,List.set_cons_zero,List.set_cons_succ])
  (refine takeL (i:=1) (v:=?_) rfl (by kernel_rfl) (by kernel_rfl) (by kernel_rfl) (fun _ _ _ h=>h) (Or.inl ⟨by rfl,?_⟩) (by assumption) ?_)
  rotate_left
  ·(intro w hSw;(try dsimp only at hSw);go_simp;first | done | with_reducible rfl)
  (try simp only [Act.put,List.setIfInBounds_toArray,List.set_cons_zero,List.set_cons_succ])
  (refine takeL (i:=2) (v:=?_) rfl (by kernel_rfl) (by kernel_rfl) (by kernel_rfl) (fun _ _ _ h=>h) (Or.inl ⟨by rfl,?_⟩) (by assumption) ?_)
  rotate_left
  ·(intro w hSw;(try dsimp only at hSw);go_simp;first | done | with_reducible rfl)
  (try simp only [Act.put,List.setIfInBounds_toArray,List.set_cons_zero,List.set_cons_succ])
  (refine takeL (i:=3) (v:=?_) rfl (by kernel_rfl) (by kernel_rfl) (by kernel_rfl) (fun _ _ _ h=>h) (Or.inl ⟨by rfl,?_⟩) (by assumption) ?_)
  rotate_left
  ·(intro w hSw;(try dsimp only at hSw);go_simp;first | done | with_reducible rfl)
  (try simp only [Act.put,List.setIfInBounds_toArray,List.set_cons_zero,List.set_cons_succ])
  (refine takeL (i:=4) (v:=?_) rfl (by kernel_rfl) (by kernel_rfl) (by kernel_rfl) (fun _ _ _ h=>h) (Or.inl ⟨by rfl,?_⟩) (by assumption) ?_)
  rotate_left
  ·(intro w hSw;(try dsimp only at hSw);go_simp;first | done | with_reducible rfl)
  (try simp only [Act.put,List.setIfInBounds_toArray,List.set_cons_zero,List.set_cons_succ])
  (refine takeL (i:=5) (v:=?_) rfl (by kernel_rfl) (by kernel_rfl) (by kernel_rfl) (fun _ _ _ h=>h) (Or.inl ⟨by rfl,?_⟩) (by assumption) ?_)
  rotate_left
  ·(intro w hSw;(try dsimp only at hSw);go_simp;first | done | with_reducible rfl)
  (try simp only [Act.put,List.setIfInBounds_toArray,List.set_cons_zero,List.set_cons_succ])
  (refine takeL (i:=6) (v:=?_) rfl (by kernel_rfl) (by kernel_rfl) (by kernel_rfl) (fun _ _ _ h=>h) (Or.inl ⟨by rfl,?_⟩) (by assumption) ?_)
  rotate_left
  ·(intro w hSw;(try dsimp only at hSw);go_simp;first | done | with_reducible rfl)
  (try simp only [Act.put,List.setIfInBounds_toArray,List.set_cons_zero,List.set_cons_succ])
  (refine takeL (i:=7) (v:=?_) rfl (by kernel_rfl) (by kernel_rfl) (by kernel_rfl) (fun _ _ _ h=>h) (Or.inl ⟨by rfl,?_⟩) (by assumption) ?_)
  rotate_left
  ·(intro w hSw;(try dsimp only at hSw);go_simp;first | done | with_reducible rfl)
  (try simp only [Act.put,List.setIfInBounds_toArray,List.set_cons_zero,List.set_cons_succ])
  (refine takeL (i:=8) (v:=?_) rfl (by kernel_rfl) (by kernel_rfl) (by kernel_rfl) (fun _ _ _ h=>h) (Or.inl ⟨by rfl,?_⟩) (by assumption) ?_)
  rotate_left
  ·(intro w hSw;(try dsimp only at hSw);go_simp;first | done | with_reducible rfl)
  (try simp only [Act.put,List.setIfInBounds_toArray,List.set_cons_zero,List.set_cons_succ])
  (refine takeL (i:=9) (v:=?_) rfl (by kernel_rfl) (by kernel_rfl) (by kernel_rfl) (fun _ _ _ h=>h) (Or.inl ⟨by rfl,?_⟩) (by assumption) ?_)
  rotate_left
  ·(intro w hSw;(try dsimp only at hSw);go_simp;first | done | with_reducible rfl)
  (try simp only [Act.put,List.setIfInBounds_toArray,List.set_cons_zero,List.set_cons_succ])
  (refine takeL (i:=10) (v:=?_) rfl (by kernel_rfl) (by kernel_rfl) (by kernel_rfl) (fun _ _ _ h=>h) (Or.inl ⟨by rfl,?_⟩) (by assumption) ?_)
  rotate_left
  ·(intro w hSw;(try dsimp only at hSw);go_simp;first | done | with_reducible rfl)
  (try simp only [Act.put,List.setIfInBounds_toArray,List.set_cons_zero,List.set_cons_succ])
  (refine takeL (i:=11) (v:=?_) rfl (by kernel_rfl) (by kernel_rfl) (by kernel_rfl) (fun _ _ _ h=>h) (Or.inl ⟨by rfl,?_⟩) (by assumption) ?_)
  rotate_left
  ·(intro w hSw;(try dsimp only at hSw);go_simp;first | done | with_reducible rfl)
  (try simp only [Act.put,List.setIfInBounds_toArray,List.set_cons_zero,List.set_cons_succ])
  (refine wpAnyH_ready (rs:=[12]) (by kernel_rfl) (by simp) ?_)
  (refine consL rfl (fun K hK=>?_))
  ((rw [if_pos (by rfl)]);go_simp;(go_at_call 55);refine qn.mono ?_;rintro e w6 ⟨r6,s6,rfl,hS6,hT6,hv6⟩;have hbr6:=RunG.box hbr5d.out (by decide) (by decide) hR.out hS6;have hbz6:=RunG.box hbz5d.out (by decide) (by decide) hR.out hS6;obtain ⟨h6,hbe6⟩:=h5d.out.next hB.out hR.out hmut.out hS6;have ca6:w6.cell? ⟨ga,ai,none⟩ = some (.int .i64 (ra.n:Nat)):=own_cellAt (own_cast h6.oa (by rw [List.length_map,←hm.out]) rfl) (by rw [List.getElem?_map,hra.out];rfl);have cb6:w6.cell? ⟨ga,bi,none⟩ = some (.int .i64 (rb.n:Nat)):=own_cellAt (own_cast h6.oa (by rw [List.length_map,←hm.out]) rfl) (by rw [List.getElem?_map,hrb.out];rfl);obtain ⟨y0,y1,y2,y3⟩:=box4 hbr6;refine hK.out _ _ ⟨y0,y1,ca6,cb6⟩ (fun hHeld=>?_))
  (clear hK K)
  (try simp only [Act.put,List.setIfInBounds_toArray,List.set_cons_zero,List.set_cons_succ])
  (refine takeL (i:=13) (v:=?_) rfl (by kernel_rfl) (by kernel_rfl) (by kernel_rfl) (fun _ _ _ h=>h) (Or.inl ⟨by rfl,?_⟩) (by assumption) ?_)
  rotate_left
  ·(intro w hSw;(try dsimp only at hSw);go_simp;first | done | with_reducible rfl)
  (try simp only [Act.put,List.setIfInBounds_toArray,List.set_cons_zero,List.set_cons_succ])
  (refine takeL (i:=14) (v:=?_) rfl (by kernel_rfl) (by kernel_rfl) (by kernel_rfl) (fun _ _ _ h=>h) (Or.inl ⟨by rfl,?_⟩) (by assumption) ?_)
  rotate_left
  ·(intro w hSw;(try dsimp only at hSw);go_simp;first | done | with_reducible rfl)
  (try simp only [Act.put,List.setIfInBounds_toArray,List.set_cons_zero,List.set_cons_succ])
  (refine takeL (i:=15) (v:=?_) rfl (by kernel_rfl) (by kernel_rfl) (by kernel_rfl) (fun _ _ _ h=>h) (Or.inl ⟨by rfl,?_⟩) (by assumption) ?_)
  rotate_left
  ·(intro w hSw;(try dsimp only at hSw);go_simp;first | done | with_reducible rfl)
  (try simp only [Act.put,List.setIfInBounds_toArray,List.set_cons_zero,List.set_cons_succ])
  (refine takeL (i:=16) (v:=?_) rfl (by kernel_rfl) (by kernel_rfl) (by kernel_rfl) (fun _ _ _ h=>h) (Or.inl ⟨by rfl,?_⟩) (by assumption) ?_)
  rotate_left
  ·(intro w hSw;(try dsimp only at hSw);go_simp;first | done | with_reducible rfl)
  (try simp only [Act.put,List.setIfInBounds_toArray,List.set_cons_zero,List.set_cons_succ])
  (refine takeL (i:=17) (v:=?_) rfl (by kernel_rfl) (by kernel_rfl) (by kernel_rfl) (fun _ _ _ h=>h) (Or.inl ⟨by rfl,?_⟩) (by assumption) ?_)
  rotate_left
  ·(intro w hSw;(try dsimp only at hSw);go_simp;first | done | with_reducible rfl)
  (try simp only [Act.put,List.setIfInBounds_toArray,List.set_cons_zero,List.set_cons_succ])
  (refine wpAnyH_done (by kernel_rfl) ?_ _)
  have cf6:w6.cell? ⟨gf,ai,none⟩ = some ra.v:=own_cellAt (own_cast h6.of (by rw [List.length_map,←hm.out]) rfl) (by rw [List.getElem?_map,hra.out];rfl)
  have cg6:w6.cell? ⟨gf,bi,none⟩ = some rb.v:=own_cellAt (own_cast h6.of (by rw [List.length_map,←hm.out]) rfl) (by rw [List.getElem?_map,hrb.out];rfl)
  have hbel6:=Lib.hid (hbel5d.out.trans hbe6)
  have hd:=(Below.refl w6.heap.size w6).drew
  have h6d:=Lib.hid (h6.below hd)
  have hbr6d:Hid (w6.drew.heap[x]? = _):=Lib.hid hbr6
  have hbz6d:Hid (w6.drew.heap[x+1+1]? = _):=Lib.hid hbz6
  have hbel6d:=Lib.hid (hbel6.out.trans (hd.mono h6.sz))
  have hF:=Lib.hid (And.intro h6d.out.of hbr6d.out)
  have qt:=tor_any (h6d.out.tab (ra.v,ra.f) (List.mem_map.2 ⟨ra,List.mem_of_getElem? hra.out,rfl⟩)).slB (h6d.out.tab (rb.v,rb.f) (List.mem_map.2 ⟨rb,List.mem_of_getElem? hrb.out,rfl⟩)).slB (by rw [hta.out.len,htb.out.len]) (by rw [hta.out.len];exact Nat.le_trans (pow_le64 hl6) (by decide))
  replace hT6:=Lib.hid hT6
  replace hv6:=Lib.hid hv6
  clear hbe6 hS6 hHeld qn c0 c1 c2 c3 ca5 ca6 cb5 cb6 k0 k1 k2 hd h6 hbr6 hbz6 hbel6
  go_wp2_with fail
  (refine wp_region_held_drew (S:=(fun W=>W.cell? ⟨x,2,none⟩ = some (.slice (some ⟨gf,0,none⟩) m cf)∧W.cell? ⟨gf,ai,none⟩ = some ra.v∧W.cell? ⟨gf,bi,none⟩ = some rb.v)) (by kernel_rfl) ?_ (fun hHeld=>?_))
  ·exact ⟨y2,cf6,cg6⟩
  (refine takeL (i:=0) (v:=?_) rfl (by kernel_rfl) (by kernel_rfl) (by kernel_rfl) (fun _ _ _ h=>h) (Or.inl ⟨by rfl,?_⟩) (by assumption) ?_)
  rotate_left
  ·(intro w hSw;(try dsimp only at hSw);go_simp;first | done | with_reducible rfl)
  (try simp only [Act.put,List.setIfInBounds_toArray,List.set_cons_zero,List.set_cons_succ])
  (refine takeL (i:=1) (v:=?_) rfl (by kernel_rfl) (by kernel_rfl) (by kernel_rfl) (fun _ _ _ h=>h) (Or.inl ⟨by rfl,?_⟩) (by assumption) ?_)
  rotate_left
  ·(intro w hSw;(try dsimp only at hSw);go_simp;first | done | with_reducible rfl)
  (try simp only [Act.put,List.setIfInBounds_toArray,List.set_cons_zero,List.set_cons_succ])
  (refine takeL (i:=2) (v:=?_) rfl (by kernel_rfl) (by kernel_rfl) (by kernel_rfl) (fun _ _ _ h=>h) (Or.inl ⟨by rfl,?_⟩) (by assumption) ?_)
  rotate_left
  ·(intro w hSw;(try dsimp only at hSw);go_simp;first | done | with_reducible rfl)
  (try simp only [Act.put,List.setIfInBounds_toArray,List.set_cons_zero,List.set_cons_succ])
  (refine takeL (i:=3) (v:=?_) rfl (by kernel_rfl) (by kernel_rfl) (by kernel_rfl) (fun _ _ _ h=>h) (Or.inl ⟨by rfl,?_⟩) (by assumption) ?_)
  rotate_left
  ·(intro w hSw;(try dsimp only at hSw);go_simp;first | done | with_reducible rfl)
  (try simp only [Act.put,List.setIfInBounds_toArray,List.set_cons_zero,List.set_cons_succ])
  (refine takeL (i:=4) (v:=?_) rfl (by kernel_rfl) (by kernel_rfl) (by kernel_rfl) (fun _ _ _ h=>h) (Or.inl ⟨by rfl,?_⟩) (by assumption) ?_)
  rotate_left
  ·(intro w hSw;(try dsimp only at hSw);go_simp;first | done | with_reducible rfl)
  (try simp only [Act.put,List.setIfInBounds_toArray,List.set_cons_zero,List.set_cons_succ])
  (refine takeL (i:=5) (v:=?_) rfl (by kernel_rfl) (by kernel_rfl) (by kernel_rfl) (fun _ _ _ h=>h) (Or.inl ⟨by rfl,?_⟩) (by assumption) ?_)
  rotate_left
  ·(intro w hSw;(try dsimp only at hSw);go_simp;first | done | with_reducible rfl)
  (try simp only [Act.put,List.setIfInBounds_toArray,List.set_cons_zero,List.set_cons_succ])
  (refine takeL (i:=6) (v:=?_) rfl (by kernel_rfl) (by kernel_rfl) (by kernel_rfl) (fun _ _ _ h=>h) (Or.inl ⟨by rfl,?_⟩) (by assumption) ?_)
  rotate_left
  ·(intro w hSw;(try dsimp only at hSw);go_simp;first | done | with_reducible rfl)
  (try simp only [Act.put,List.setIfInBounds_toArray,List.set_cons_zero,List.set_cons_succ])
  (refine takeL (i:=7) (v:=?_) rfl (by kernel_rfl) (by kernel_rfl) (by kernel_rfl) (fun _ _ _ h=>h) (Or.inl ⟨by rfl,?_⟩) (by assumption) ?_)
  rotate_left
  ·(intro w hSw;(try dsimp only at hSw);go_simp;first | done | with_reducible rfl)
  (try simp only [Act.put,List.setIfInBounds_toArray,List.set_cons_zero,List.set_cons_succ])
  (refine takeL (i:=8) (v:=?_) rfl (by kernel_rfl) (by kernel_rfl) (by kernel_rfl) (fun _ _ _ h=>h) (Or.inl ⟨by rfl,?_⟩) (by assumption) ?_)
  rotate_left
  ·(intro w hSw;(try dsimp only at hSw);go_simp;first | done | with_reducible rfl)
  (try simp only [Act.put,List.setIfInBounds_toArray,List.set_cons_zero,List.set_cons_succ])
  (refine takeL (i:=9) (v:=?_) rfl (by kernel_rfl) (by kernel_rfl) (by kernel_rfl) (fun _ _ _ h=>h) (Or.inl ⟨by rfl,?_⟩) (by assumption) ?_)
  rotate_left
  ·(intro w hSw;(try dsimp only at hSw);go_simp;first | done | with_reducible rfl)
  (try simp only [Act.put,List.setIfInBounds_toArray,List.set_cons_zero,List.set_cons_succ])
  (refine wpAnyH_ready (rs:=[10]) (by kernel_rfl) (by simp) ?_)
  (refine consL rfl (fun K hK=>?_))
  ((rw [if_pos (by rfl)]);go_simp;(go_at_call 56);refine qt.mono ?_;rintro e w7 hr7;obtain ⟨g7,c7,ln7,rfl,htab7,b7⟩:=hr7.outs;refine hK.out _ _ ⟨(b7.cell (World.block_lt_of_cell? w6.drew _ y2)).trans y2,(b7.cell (World.block_lt_of_cell? w6.drew _ cf6)).trans cf6,(b7.cell (World.block_lt_of_cell? w6.drew _ cg6)).trans cg6⟩ (fun hHeld=>?_))
  (clear hK K)
  (try simp only [Act.put,List.setIfInBounds_toArray,List.set_cons_zero,List.set_cons_succ])
  (refine takeL (i:=11) (v:=?_) rfl (by kernel_rfl) (by kernel_rfl) (by kernel_rfl) (fun _ _ _ h=>h) (Or.inl ⟨by rfl,?_⟩) (by assumption) ?_)
  rotate_left
  ·(intro w hSw;(try dsimp only at hSw);go_simp;first | done | with_reducible rfl)
  (try simp only [Act.put,List.setIfInBounds_toArray,List.set_cons_zero,List.set_cons_succ])
  (refine wpAnyH_done (by kernel_rfl) ?_ _)
  have h7:=Lib.hid ((h6d.out.below b7).tabs (ts':=(rs.map fun r=>(r.v,r.f))++[(.slice (some ⟨g7,0,none⟩) ln7 c7,List.zipWith (fun a b=>a || b) ra.f rb.f)]) (fun p hp=>(List.mem_append.1 hp).elim ((h6d.out.below b7).tab p) (fun hp=>by
   obtain rfl:p = (.slice (some ⟨g7,0,none⟩) ln7 c7,List.zipWith (fun a b=>a || b) ra.f rb.f):=by simpa using hp
   exact htab7)))
  have hbel7:=Lib.hid (hbel6d.out.trans (b7.mono h6d.out.sz))
  have hbr7:=Lib.hid ((b7.block x (Array.getElem?_eq_some_iff.1 hbr6d.out).1).trans hbr6d.out)
  have hbz7:=Lib.hid ((b7.block (x+1+1) (Array.getElem?_eq_some_iff.1 hbz6d.out).1).trans hbz6d.out)
  have hx7:x+3≤w7.heap.size:=(Array.getElem?_eq_some_iff.1 hbz7.out).1
  have hta7:=Lib.hid (hta.out.or htb.out)
  generalize hf7:(List.zipWith (fun a b=>a || b) ra.f rb.f) = f7 at *
  generalize hφ7:(fun x=>ra.φ x || rb.φ x) = φ7 at *
  clear hf7 hφ7 htab7
  clear cf6 cg6 hr7 qt h6d hbel6d hbr6d hbz6d b7 h5d hbr5d hbz5d hbel5d h5 hbel5 hbr5 hbz5 hbo5 ho5 hx5 hR hmut hB hF hHeld y0 y1 y2 y3
  have h7a:=h7.out.below ((Below.refl w7.heap.size w7).alloc (Nat.le_refl _) (.cells #[.int .i64 (r6:Nat)] 3))
  have hoA:=own_cast h7a.oa (show _ = m by rw [List.length_map,←hm.out]) rfl
  have hbr7a:=(Below.heap_alloc w7 (.cells #[.int .i64 (r6:Nat)] 3) x (by omega)).trans hbr7.out
  have hbz7a:=(Below.heap_alloc w7 (.cells #[.int .i64 (r6:Nat)] 3) (x+1+1) (by omega)).trans hbz7.out
  obtain ⟨c0,c1,c2,c3⟩:=box4 hbr7.out
  replace h7a:=Lib.hid h7a
  replace hbr7a:=Lib.hid hbr7a
  replace hbz7a:=Lib.hid hbz7a
  go_wp2_with (at_builtin;first
   | (refine wpList_append_own _ rfl _ _ 32 rfl wa.heap.size 3 i0 (.int .i64 0) 1 8 Tryz.underlying32 hi0 hz0 hz1 hz2 rfl (by decide) _ _ _ rfl hoA ⟨w7.heap.size,0,none⟩ 1 1 [.int .i64 (r6:Nat)] rfl rfl (cell_one_at _ _ _ _ rfl) (by simp [Value.oneCell']) (by unfold maxLen;omega) (by omega) (by simp;omega) ?_
      intro v8 w8 ho8 hg8 _
      obtain ⟨g8,p8,rfl,hg8N⟩:=own_at ho8 (by omega)
      have hbr8:=box_grew hoA hg8 hbr7a.out (by decide)
      have hbz8:=box_grew hoA hg8 hbz7a.out (by decide)
      obtain ⟨y0,y1,y2,y3⟩:=box4 hbr8
      have hz8:w8.frozen? ⟨x,1,none⟩ = false:=by simp [World.frozen?,hbr8]
      have h8:=h7a.out.growA (by rw [List.length_map,←hm.out];omega) hg8 (own_cast ho8 (by rw [List.length_append,List.length_map,←hm.out];rfl) rfl)
      have hb8:Below wa.heap.size wa w8:=Below.grown (hbel7.out.alloc h7.out.sz _) hg8 (by simp;omega) (fun k e=>own_ge hoA e)
      have h9:=Lib.hid (h8.turn (w':=w8.setCell ⟨x,1,none⟩ (.slice (some ⟨g8,0,none⟩) (m+1) p8)) hbr8 hNx (fun p hp=>by have:=hnb.out p hp;omega) (by decide) (by decide) (by decide) (by decide) (by decide) (by decide) (by decide) (by simp) (fun k hk _=>heap_set_ne _ _ hk))
      have hbr9:(w8.setCell ⟨x,1,none⟩ (.slice (some ⟨g8,0,none⟩) (m+1) p8)).heap[x]? = some (.cells #[.pointer (some ⟨sb,0,none⟩),.slice (some ⟨g8,0,none⟩) (m+1) p8,.slice (some ⟨gf,0,none⟩) m cf,.bool false] 35 (0,0)):=heap_set hbr8 1 _
      have hbz9:(w8.setCell ⟨x,1,none⟩ (.slice (some ⟨g8,0,none⟩) (m+1) p8)).heap[x+1+1]? = some (.cells #[.pointer none,.slice none 0 0,.slice none 0 0,.bool false] 35 (0,0)):=(heap_set_ne _ _ (by omega)).trans hbz8
      have hbel9:Hid (Below wa.heap.size wa (w8.setCell ⟨x,1,none⟩ (.slice (some ⟨g8,0,none⟩) (m+1) p8))):=Lib.hid (hb8.setCell hNx _)
      have hx9:x+3≤w8.heap.size:=(Array.getElem?_eq_some_iff.1 hbz8).1
      have hoF:=(own_cast h9.out.of (show _ = m by rw [List.length_map,←hm.out]) rfl).alloc (.cells #[.slice (some ⟨g7,0,none⟩) ln7 c7] 43)
      have hbr9a:=Lib.hid ((Below.heap_alloc _ (.cells #[.slice (some ⟨g7,0,none⟩) ln7 c7] 43) x (by simp;omega)).trans hbr9)
      have hbz9a:=Lib.hid ((Below.heap_alloc _ (.cells #[.slice (some ⟨g7,0,none⟩) ln7 c7] 43) (x+1+1) (by simp;omega)).trans hbz9)
      clear hbr8 hbz8 ho8 hg8 h8 hb8)
   | (refine wpList_append_own _ rfl _ _ 33 rfl wa.heap.size 43 j0 (.slice none 0 0) 1 24 Tryz.underlying33 hj0 hzj0 hzj1 hzj2 rfl (by decide) _ _ _ rfl hoF ⟨w8.heap.size,0,none⟩ 1 1 [.slice (some ⟨g7,0,none⟩) ln7 c7] (by rfl) rfl (cell_one_at _ _ _ _ (by simp)) (by simp [Value.oneCell']) (by unfold maxLen;omega) (by omega) (by simp;omega) ?_
      intro v10 w10 ho10 hg10 _
      obtain ⟨g10,p10,rfl,hg10N⟩:=own_at ho10 (by omega)
      have hbr10:=box_grew hoF hg10 hbr9a.out (by decide)
      have hbz10:=box_grew hoF hg10 hbz9a.out (by decide)
      obtain ⟨z0,z1,z2,z3⟩:=box4 hbr10
      obtain ⟨u0,u1,u2,u3⟩:=box4 hbz10
      have fz:w10.frozen? ⟨x,2,none⟩ = false:=by simp [World.frozen?,hbr10]
      have f0:w10.frozen? ⟨x+1+1,0,none⟩ = false:=by simp [World.frozen?,hbz10]
      have f1:w10.frozen? ⟨x+1+1,1,none⟩ = false:=by simp [World.frozen?,hbz10]
      have f2:w10.frozen? ⟨x+1+1,2,none⟩ = false:=by simp [World.frozen?,hbz10]
      have f3:w10.frozen? ⟨x+1+1,3,none⟩ = false:=by simp [World.frozen?,hbz10]
      replace hbr10:=Lib.hid hbr10
      replace hbz10:=Lib.hid hbz10))
  have h10:=(h9.out.below ((Below.refl _ _).alloc (Nat.le_refl _) (.cells #[.slice (some ⟨g7,0,none⟩) ln7 c7] 43))).growF (by rw [List.length_map,←hm.out];omega) hg10 (own_cast ho10 (by rw [List.length_append,List.length_map,←hm.out];rfl) rfl)
  have hb10:Below wa.heap.size wa w10:=Below.grown (hbel9.out.alloc h9.out.sz _) hg10 (by simp;omega) (fun k e=>own_ge hoF e)
  obtain ⟨h11,hb11,e0,e1,e2,e3⟩:=run_closeAt 2 h10 hbr10.out hbz10.out (by omega) hNx (by omega) (fun p hp=>by have:=hnb.out p hp;omega) (fun p hp=>by have:=hnb.out p hp;omega) (.slice (some ⟨g10,0,none⟩) (m+1) p10) (.pointer (some ⟨sb,0,none⟩)) (.slice (some ⟨g8,0,none⟩) (m+1) p8) (.slice (some ⟨g10,0,none⟩) (m+1) p10) (.bool false) rfl
  refine bodyPost_ret (v:=.agg #[.pointer (some ⟨sb,0,none⟩),.slice (some ⟨g8,0,none⟩) (m+1) p8,.slice (some ⟨g10,0,none⟩) (m+1) p10,.bool false]) (by simp [results,Tryz.results18,go_sem,e0,e1,e2,e3]) rfl ⟨_,_,s6,rs++[⟨r6,φ7,.slice (some ⟨g7,0,none⟩) ln7 c7,f7⟩],rfl,⟨?_,hb11 _ hb10,?_,?_⟩,by simp⟩
  ·have:=h11
   simp only [List.map_append,List.map_cons,List.map_nil]
   exact this
  ·intro r hr
   rcases List.mem_append.1 hr with hr | hr
   ·exact ⟨(hok.out r hr).1.step hinv.out hT6.out,(hok.out r hr).2⟩
   ·rw [List.mem_singleton.1 hr]
    exact ⟨hv6.out,hta7.out⟩
  ·exact ⟨r0,r1,rest++[_],by rw [hrs0.out];rfl,hr0,hr1⟩
 ·obtain ⟨B,hB,hR,hmut⟩:=h5.out.sp
  obtain ⟨gv,cv,rfl,hgv⟩:=own_at ho5.out hl0
  obtain ⟨j,hjj⟩:∃ j,j = modF A l.length:=⟨_,rfl⟩
  have hj:j < l.length:=by rw [hjj];exact modF_lt A hl0
  have qm:=mod_any A l.length hl0 (by omega) w5
  rw [←hjj] at qm
  have cv5:w5.cell? ⟨gv,j,none⟩ = some (.int .i64 l[j]):=own_cellAt ho5.out (by rw [List.getElem?_map,List.getElem?_eq_getElem hj];rfl)
  have hvj:=hvo.out _ (List.getElem_mem hj)
  have hvr:=hvj.range
  have hnd:l[j]∉l.take j:=fun hmem=>by
   obtain ⟨i,hi,hiz⟩:=List.mem_take_iff_getElem.1 hmem
   have:=(List.pairwise_iff_getElem.1 hsb.out.sorted) i j (by omega) hj (by omega)
   omega
  obtain ⟨c0,c1,c2,c3⟩:=box4 hbr5.out
  clear hjj
  go_wp2_with fail
  refine qm.mono ?_
  rintro e w5' ⟨rfl,rfl⟩
  clear qm
  by_cases hneg:Bz < 0
  ·have d0:decide (Bz < 0) = true:=decide_eq_true hneg
   obtain ⟨z,hz⟩:∃ z:Int,z = -l[j]:=⟨_,rfl⟩
   have hzn:(z.natAbs:Int) = l[j]:=by omega
   have qn:=lit_v (l:=z) ((h5.out.less (m:=k') (by omega)).ssAt hR) (by rw [hzn];exact hvj)
   have hzz:z≠0:=by omega
   have hzr:-128≤z∧z≤128:=by omega
   have htab:IsTab l (litφ z) (litTab l.length j (decide (0 < z))):=IsTab.lit hj hzn.symm
   rw [hB] at qn
   generalize hlj:l[j] = vj at *
   have hwz:IntKind.i64.wrap (-vj) = -vj:=by rw [IntWalk.i64_in _ (by omega)]
   rw [←hz] at hwz
   replace htab:=Lib.hid htab
   replace hlj:=Lib.hid hlj
   replace hzn:=Lib.hid hzn
   replace hnd:=Lib.hid hnd
   replace hB:=Lib.hid hB
   replace hR:=Lib.hid hR
   replace hmut:=Lib.hid hmut
   replace hz:-vj = z:=hz.symm
   go_wp2_with fail
   refine qn.mono ?_
   rintro e w6 ⟨r6,s6,rfl,hS6,hT6,hv6⟩
   have hbr6:=RunG.box hbr5.out (by decide) (by decide) hR.out hS6
   have hbz6:=RunG.box hbz5.out (by decide) (by decide) hR.out hS6
   have hbo6:=RunG.box hbo5.out (by decide) (by decide) hR.out hS6
   obtain ⟨h6,hbe6⟩:=(h5.out.less (m:=k') (by omega)).next hB.out hR.out hmut.out hS6
   have hbel6:=Lib.hid (hbel5.out.trans hbe6)
   have ho6:=own_calm ho5.out fun g cs hg=>(RunG.box hg (by decide) (by decide) hR.out hS6).trans hg.symm
   have qt:=tlit_ok (z:=z) (owns_slI ho6) hl6 hj (by rw [hlj.out,hzn.out]) (by rw [hzn.out];exact hnd.out) hzz hzr
   obtain ⟨k0,k1,k2⟩:=box3 hbo6
   replace h6:=Lib.hid h6
   replace hT6:=Lib.hid hT6
   replace hv6:=Lib.hid hv6
   replace hbr6:=Lib.hid hbr6
   replace hbz6:=Lib.hid hbz6
   replace hbo6:=Lib.hid hbo6
   clear hbe6 hS6 qn c0 c1 c2 c3 ho6 ho5 hx5
   go_wp2_with fail
   refine qt.mono ?_
   rintro e w7 ⟨vt,rfl,hr7⟩
   obtain ⟨g7,c7,ln7,e7,htab7,b7⟩:=hr7.outs
   cases e7
   have h7:=Lib.hid ((h6.out.below b7).tabs (ts':=(rs.map fun r=>(r.v,r.f))++[(.slice (some ⟨g7,0,none⟩) ln7 c7,litTab l.length j (decide (0 < z)))]) (fun p hp=>(List.mem_append.1 hp).elim ((h6.out.below b7).tab p) (fun hp=>by
    obtain rfl:p = (.slice (some ⟨g7,0,none⟩) ln7 c7,litTab l.length j (decide (0 < z))):=by simpa using hp
    exact htab7)))
   have hbel7:=Lib.hid (hbel6.out.trans (b7.mono h6.out.sz))
   have hbr7:=Lib.hid ((b7.block x (Array.getElem?_eq_some_iff.1 hbr6.out).1).trans hbr6.out)
   have hbz7:=Lib.hid ((b7.block (x+1+1) (Array.getElem?_eq_some_iff.1 hbz6.out).1).trans hbz6.out)
   have hx7:x+3≤w7.heap.size:=(Array.getElem?_eq_some_iff.1 hbz7.out).1
   have hta7:=htab
   generalize hf7:litTab l.length j (decide (0 < z)) = f7 at *
   generalize hφ7:litφ z = φ7 at *
   clear hf7 hφ7 htab7 htab
   clear hr7 qt h6 hbel6 hbr6 hbz6 b7 h5 hbel5 hbr5 hbz5 hbo5 hbo6 hR hmut hB k0 k1 k2
   have h7a:=h7.out.below ((Below.refl w7.heap.size w7).alloc (Nat.le_refl _) (.cells #[.int .i64 (r6:Nat)] 3))
   have hoA:=own_cast h7a.oa (show _ = m by rw [List.length_map,←hm.out]) rfl
   have hbr7a:=(Below.heap_alloc w7 (.cells #[.int .i64 (r6:Nat)] 3) x (by omega)).trans hbr7.out
   have hbz7a:=(Below.heap_alloc w7 (.cells #[.int .i64 (r6:Nat)] 3) (x+1+1) (by omega)).trans hbz7.out
   obtain ⟨c0,c1,c2,c3⟩:=box4 hbr7.out
   replace h7a:=Lib.hid h7a
   replace hbr7a:=Lib.hid hbr7a
   replace hbz7a:=Lib.hid hbz7a
   go_wp2_with (at_builtin;first
    | (refine wpList_append_own _ rfl _ _ 32 rfl wa.heap.size 3 i0 (.int .i64 0) 1 8 Tryz.underlying32 hi0 hz0 hz1 hz2 rfl (by decide) _ _ _ rfl hoA ⟨w7.heap.size,0,none⟩ 1 1 [.int .i64 (r6:Nat)] rfl rfl (cell_one_at _ _ _ _ rfl) (by simp [Value.oneCell']) (by unfold maxLen;omega) (by omega) (by simp;omega) ?_
       intro v8 w8 ho8 hg8 _
       obtain ⟨g8,p8,rfl,hg8N⟩:=own_at ho8 (by omega)
       have hbr8:=box_grew hoA hg8 hbr7a.out (by decide)
       have hbz8:=box_grew hoA hg8 hbz7a.out (by decide)
       obtain ⟨y0,y1,y2,y3⟩:=box4 hbr8
       have hz8:w8.frozen? ⟨x,1,none⟩ = false:=by simp [World.frozen?,hbr8]
       have h8:=h7a.out.growA (by rw [List.length_map,←hm.out];omega) hg8 (own_cast ho8 (by rw [List.length_append,List.length_map,←hm.out];rfl) rfl)
       have hb8:Below wa.heap.size wa w8:=Below.grown (hbel7.out.alloc h7.out.sz _) hg8 (by simp;omega) (fun k e=>own_ge hoA e)
       have h9:=Lib.hid (h8.turn (w':=w8.setCell ⟨x,1,none⟩ (.slice (some ⟨g8,0,none⟩) (m+1) p8)) hbr8 hNx (fun p hp=>by have:=hnb.out p hp;omega) (by decide) (by decide) (by decide) (by decide) (by decide) (by decide) (by decide) (by simp) (fun k hk _=>heap_set_ne _ _ hk))
       have hbr9:(w8.setCell ⟨x,1,none⟩ (.slice (some ⟨g8,0,none⟩) (m+1) p8)).heap[x]? = some (.cells #[.pointer (some ⟨sb,0,none⟩),.slice (some ⟨g8,0,none⟩) (m+1) p8,.slice (some ⟨gf,0,none⟩) m cf,.bool false] 35 (0,0)):=heap_set hbr8 1 _
       have hbz9:(w8.setCell ⟨x,1,none⟩ (.slice (some ⟨g8,0,none⟩) (m+1) p8)).heap[x+1+1]? = some (.cells #[.pointer none,.slice none 0 0,.slice none 0 0,.bool false] 35 (0,0)):=(heap_set_ne _ _ (by omega)).trans hbz8
       have hbel9:Hid (Below wa.heap.size wa (w8.setCell ⟨x,1,none⟩ (.slice (some ⟨g8,0,none⟩) (m+1) p8))):=Lib.hid (hb8.setCell hNx _)
       have hx9:x+3≤w8.heap.size:=(Array.getElem?_eq_some_iff.1 hbz8).1
       have hoF:=(own_cast h9.out.of (show _ = m by rw [List.length_map,←hm.out]) rfl).alloc (.cells #[.slice (some ⟨g7,0,none⟩) ln7 c7] 43)
       have hbr9a:=Lib.hid ((Below.heap_alloc _ (.cells #[.slice (some ⟨g7,0,none⟩) ln7 c7] 43) x (by simp;omega)).trans hbr9)
       have hbz9a:=Lib.hid ((Below.heap_alloc _ (.cells #[.slice (some ⟨g7,0,none⟩) ln7 c7] 43) (x+1+1) (by simp;omega)).trans hbz9)
       clear hbr8 hbz8 ho8 hg8 h8 hb8)
    | (refine wpList_append_own _ rfl _ _ 33 rfl wa.heap.size 43 j0 (.slice none 0 0) 1 24 Tryz.underlying33 hj0 hzj0 hzj1 hzj2 rfl (by decide) _ _ _ rfl hoF ⟨w8.heap.size,0,none⟩ 1 1 [.slice (some ⟨g7,0,none⟩) ln7 c7] (by rfl) rfl (cell_one_at _ _ _ _ (by simp)) (by simp [Value.oneCell']) (by unfold maxLen;omega) (by omega) (by simp;omega) ?_
       intro v10 w10 ho10 hg10 _
       obtain ⟨g10,p10,rfl,hg10N⟩:=own_at ho10 (by omega)
       have hbr10:=box_grew hoF hg10 hbr9a.out (by decide)
       have hbz10:=box_grew hoF hg10 hbz9a.out (by decide)
       obtain ⟨z0,z1,z2,z3⟩:=box4 hbr10
       obtain ⟨u0,u1,u2,u3⟩:=box4 hbz10
       have fz:w10.frozen? ⟨x,2,none⟩ = false:=by simp [World.frozen?,hbr10]
       have f0:w10.frozen? ⟨x+1+1,0,none⟩ = false:=by simp [World.frozen?,hbz10]
       have f1:w10.frozen? ⟨x+1+1,1,none⟩ = false:=by simp [World.frozen?,hbz10]
       have f2:w10.frozen? ⟨x+1+1,2,none⟩ = false:=by simp [World.frozen?,hbz10]
       have f3:w10.frozen? ⟨x+1+1,3,none⟩ = false:=by simp [World.frozen?,hbz10]
       replace hbr10:=Lib.hid hbr10
       replace hbz10:=Lib.hid hbz10))
   have h10:=(h9.out.below ((Below.refl _ _).alloc (Nat.le_refl _) (.cells #[.slice (some ⟨g7,0,none⟩) ln7 c7] 43))).growF (by rw [List.length_map,←hm.out];omega) hg10 (own_cast ho10 (by rw [List.length_append,List.length_map,←hm.out];rfl) rfl)
   have hb10:Below wa.heap.size wa w10:=Below.grown (hbel9.out.alloc h9.out.sz _) hg10 (by simp;omega) (fun k e=>own_ge hoF e)
   obtain ⟨h11,hb11,e0,e1,e2,e3⟩:=run_closeAt 2 h10 hbr10.out hbz10.out (by omega) hNx (by omega) (fun p hp=>by have:=hnb.out p hp;omega) (fun p hp=>by have:=hnb.out p hp;omega) (.slice (some ⟨g10,0,none⟩) (m+1) p10) (.pointer (some ⟨sb,0,none⟩)) (.slice (some ⟨g8,0,none⟩) (m+1) p8) (.slice (some ⟨g10,0,none⟩) (m+1) p10) (.bool false) rfl
   refine bodyPost_ret (v:=.agg #[.pointer (some ⟨sb,0,none⟩),.slice (some ⟨g8,0,none⟩) (m+1) p8,.slice (some ⟨g10,0,none⟩) (m+1) p10,.bool false]) (by simp [results,Tryz.results18,go_sem,e0,e1,e2,e3]) rfl ⟨_,_,s6,rs++[⟨r6,φ7,.slice (some ⟨g7,0,none⟩) ln7 c7,f7⟩],rfl,⟨?_,hb11 _ hb10,?_,?_⟩,by simp⟩
   ·have:=h11
    simp only [List.map_append,List.map_cons,List.map_nil]
    exact this
   ·intro r hr
    rcases List.mem_append.1 hr with hr | hr
    ·exact ⟨(hok.out r hr).1.step hinv.out hT6.out,(hok.out r hr).2⟩
    ·rw [List.mem_singleton.1 hr]
     exact ⟨hv6.out,hta7.out⟩
   ·exact ⟨r0,r1,rest++[_],by rw [hrs0.out];rfl,hr0,hr1⟩
  ·have d0:decide (Bz < 0) = false:=decide_eq_false hneg
   obtain ⟨z,hz⟩:∃ z:Int,z = l[j]:=⟨_,rfl⟩
   have hzn:(z.natAbs:Int) = l[j]:=by omega
   have qn:=lit_v (l:=z) ((h5.out.less (m:=k') (by omega)).ssAt hR) (by rw [hzn];exact hvj)
   have hzz:z≠0:=by omega
   have hzr:-128≤z∧z≤128:=by omega
   have htab:IsTab l (litφ z) (litTab l.length j (decide (0 < z))):=IsTab.lit hj hzn.symm
   rw [hB] at qn
   generalize hlj:l[j] = vj at *
   skip
   skip
   replace htab:=Lib.hid htab
   replace hlj:=Lib.hid hlj
   replace hzn:=Lib.hid hzn
   replace hnd:=Lib.hid hnd
   replace hB:=Lib.hid hB
   replace hR:=Lib.hid hR
   replace hmut:=Lib.hid hmut
   subst hz
   go_wp2_with fail
   refine qn.mono ?_
   rintro e w6 ⟨r6,s6,rfl,hS6,hT6,hv6⟩
   have hbr6:=RunG.box hbr5.out (by decide) (by decide) hR.out hS6
   have hbz6:=RunG.box hbz5.out (by decide) (by decide) hR.out hS6
   have hbo6:=RunG.box hbo5.out (by decide) (by decide) hR.out hS6
   obtain ⟨h6,hbe6⟩:=(h5.out.less (m:=k') (by omega)).next hB.out hR.out hmut.out hS6
   have hbel6:=Lib.hid (hbel5.out.trans hbe6)
   have ho6:=own_calm ho5.out fun g cs hg=>(RunG.box hg (by decide) (by decide) hR.out hS6).trans hg.symm
   have qt:=tlit_ok (z:=z) (owns_slI ho6) hl6 hj (by rw [hlj.out,hzn.out]) (by rw [hzn.out];exact hnd.out) hzz hzr
   obtain ⟨k0,k1,k2⟩:=box3 hbo6
   replace h6:=Lib.hid h6
   replace hT6:=Lib.hid hT6
   replace hv6:=Lib.hid hv6
   replace hbr6:=Lib.hid hbr6
   replace hbz6:=Lib.hid hbz6
   replace hbo6:=Lib.hid hbo6
   clear hbe6 hS6 qn c0 c1 c2 c3 ho6 ho5 hx5
   go_wp2_with fail
   refine qt.mono ?_
   rintro e w7 ⟨vt,rfl,hr7⟩
   obtain ⟨g7,c7,ln7,e7,htab7,b7⟩:=hr7.outs
   cases e7
   have h7:=Lib.hid ((h6.out.below b7).tabs (ts':=(rs.map fun r=>(r.v,r.f))++[(.slice (some ⟨g7,0,none⟩) ln7 c7,litTab l.length j (decide (0 < z)))]) (fun p hp=>(List.mem_append.1 hp).elim ((h6.out.below b7).tab p) (fun hp=>by
    obtain rfl:p = (.slice (some ⟨g7,0,none⟩) ln7 c7,litTab l.length j (decide (0 < z))):=by simpa using hp
    exact htab7)))
   have hbel7:=Lib.hid (hbel6.out.trans (b7.mono h6.out.sz))
   have hbr7:=Lib.hid ((b7.block x (Array.getElem?_eq_some_iff.1 hbr6.out).1).trans hbr6.out)
   have hbz7:=Lib.hid ((b7.block (x+1+1) (Array.getElem?_eq_some_iff.1 hbz6.out).1).trans hbz6.out)
   have hx7:x+3≤w7.heap.size:=(Array.getElem?_eq_some_iff.1 hbz7.out).1
   have hta7:=htab
   generalize hf7:litTab l.length j (decide (0 < z)) = f7 at *
   generalize hφ7:litφ z = φ7 at *
   clear hf7 hφ7 htab7 htab
   clear hr7 qt h6 hbel6 hbr6 hbz6 b7 h5 hbel5 hbr5 hbz5 hbo5 hbo6 hR hmut hB k0 k1 k2
   have h7a:=h7.out.below ((Below.refl w7.heap.size w7).alloc (Nat.le_refl _) (.cells #[.int .i64 (r6:Nat)] 3))
   have hoA:=own_cast h7a.oa (show _ = m by rw [List.length_map,←hm.out]) rfl
   have hbr7a:=(Below.heap_alloc w7 (.cells #[.int .i64 (r6:Nat)] 3) x (by omega)).trans hbr7.out
   have hbz7a:=(Below.heap_alloc w7 (.cells #[.int .i64 (r6:Nat)] 3) (x+1+1) (by omega)).trans hbz7.out
   obtain ⟨c0,c1,c2,c3⟩:=box4 hbr7.out
   replace h7a:=Lib.hid h7a
   replace hbr7a:=Lib.hid hbr7a
   replace hbz7a:=Lib.hid hbz7a
   go_wp2_with (at_builtin;first
    | (refine wpList_append_own _ rfl _ _ 32 rfl wa.heap.size 3 i0 (.int .i64 0) 1 8 Tryz.underlying32 hi0 hz0 hz1 hz2 rfl (by decide) _ _ _ rfl hoA ⟨w7.heap.size,0,none⟩ 1 1 [.int .i64 (r6:Nat)] rfl rfl (cell_one_at _ _ _ _ rfl) (by simp [Value.oneCell']) (by unfold maxLen;omega) (by omega) (by simp;omega) ?_
       intro v8 w8 ho8 hg8 _
       obtain ⟨g8,p8,rfl,hg8N⟩:=own_at ho8 (by omega)
       have hbr8:=box_grew hoA hg8 hbr7a.out (by decide)
       have hbz8:=box_grew hoA hg8 hbz7a.out (by decide)
       obtain ⟨y0,y1,y2,y3⟩:=box4 hbr8
       have hz8:w8.frozen? ⟨x,1,none⟩ = false:=by simp [World.frozen?,hbr8]
       have h8:=h7a.out.growA (by rw [List.length_map,←hm.out];omega) hg8 (own_cast ho8 (by rw [List.length_append,List.length_map,←hm.out];rfl) rfl)
       have hb8:Below wa.heap.size wa w8:=Below.grown (hbel7.out.alloc h7.out.sz _) hg8 (by simp;omega) (fun k e=>own_ge hoA e)
       have h9:=Lib.hid (h8.turn (w':=w8.setCell ⟨x,1,none⟩ (.slice (some ⟨g8,0,none⟩) (m+1) p8)) hbr8 hNx (fun p hp=>by have:=hnb.out p hp;omega) (by decide) (by decide) (by decide) (by decide) (by decide) (by decide) (by decide) (by simp) (fun k hk _=>heap_set_ne _ _ hk))
       have hbr9:(w8.setCell ⟨x,1,none⟩ (.slice (some ⟨g8,0,none⟩) (m+1) p8)).heap[x]? = some (.cells #[.pointer (some ⟨sb,0,none⟩),.slice (some ⟨g8,0,none⟩) (m+1) p8,.slice (some ⟨gf,0,none⟩) m cf,.bool false] 35 (0,0)):=heap_set hbr8 1 _
       have hbz9:(w8.setCell ⟨x,1,none⟩ (.slice (some ⟨g8,0,none⟩) (m+1) p8)).heap[x+1+1]? = some (.cells #[.pointer none,.slice none 0 0,.slice none 0 0,.bool false] 35 (0,0)):=(heap_set_ne _ _ (by omega)).trans hbz8
       have hbel9:Hid (Below wa.heap.size wa (w8.setCell ⟨x,1,none⟩ (.slice (some ⟨g8,0,none⟩) (m+1) p8))):=Lib.hid (hb8.setCell hNx _)
       have hx9:x+3≤w8.heap.size:=(Array.getElem?_eq_some_iff.1 hbz8).1
       have hoF:=(own_cast h9.out.of (show _ = m by rw [List.length_map,←hm.out]) rfl).alloc (.cells #[.slice (some ⟨g7,0,none⟩) ln7 c7] 43)
       have hbr9a:=Lib.hid ((Below.heap_alloc _ (.cells #[.slice (some ⟨g7,0,none⟩) ln7 c7] 43) x (by simp;omega)).trans hbr9)
       have hbz9a:=Lib.hid ((Below.heap_alloc _ (.cells #[.slice (some ⟨g7,0,none⟩) ln7 c7] 43) (x+1+1) (by simp;omega)).trans hbz9)
       clear hbr8 hbz8 ho8 hg8 h8 hb8)
    | (refine wpList_append_own _ rfl _ _ 33 rfl wa.heap.size 43 j0 (.slice none 0 0) 1 24 Tryz.underlying33 hj0 hzj0 hzj1 hzj2 rfl (by decide) _ _ _ rfl hoF ⟨w8.heap.size,0,none⟩ 1 1 [.slice (some ⟨g7,0,none⟩) ln7 c7] (by rfl) rfl (cell_one_at _ _ _ _ (by simp)) (by simp [Value.oneCell']) (by unfold maxLen;omega) (by omega) (by simp;omega) ?_
       intro v10 w10 ho10 hg10 _
       obtain ⟨g10,p10,rfl,hg10N⟩:=own_at ho10 (by omega)
       have hbr10:=box_grew hoF hg10 hbr9a.out (by decide)
       have hbz10:=box_grew hoF hg10 hbz9a.out (by decide)
       obtain ⟨z0,z1,z2,z3⟩:=box4 hbr10
       obtain ⟨u0,u1,u2,u3⟩:=box4 hbz10
       have fz:w10.frozen? ⟨x,2,none⟩ = false:=by simp [World.frozen?,hbr10]
       have f0:w10.frozen? ⟨x+1+1,0,none⟩ = false:=by simp [World.frozen?,hbz10]
       have f1:w10.frozen? ⟨x+1+1,1,none⟩ = false:=by simp [World.frozen?,hbz10]
       have f2:w10.frozen? ⟨x+1+1,2,none⟩ = false:=by simp [World.frozen?,hbz10]
       have f3:w10.frozen? ⟨x+1+1,3,none⟩ = false:=by simp [World.frozen?,hbz10]
       replace hbr10:=Lib.hid hbr10
       replace hbz10:=Lib.hid hbz10))
   have h10:=(h9.out.below ((Below.refl _ _).alloc (Nat.le_refl _) (.cells #[.slice (some ⟨g7,0,none⟩) ln7 c7] 43))).growF (by rw [List.length_map,←hm.out];omega) hg10 (own_cast ho10 (by rw [List.length_append,List.length_map,←hm.out];rfl) rfl)
   have hb10:Below wa.heap.size wa w10:=Below.grown (hbel9.out.alloc h9.out.sz _) hg10 (by simp;omega) (fun k e=>own_ge hoF e)
   obtain ⟨h11,hb11,e0,e1,e2,e3⟩:=run_closeAt 2 h10 hbr10.out hbz10.out (by omega) hNx (by omega) (fun p hp=>by have:=hnb.out p hp;omega) (fun p hp=>by have:=hnb.out p hp;omega) (.slice (some ⟨g10,0,none⟩) (m+1) p10) (.pointer (some ⟨sb,0,none⟩)) (.slice (some ⟨g8,0,none⟩) (m+1) p8) (.slice (some ⟨g10,0,none⟩) (m+1) p10) (.bool false) rfl
   refine bodyPost_ret (v:=.agg #[.pointer (some ⟨sb,0,none⟩),.slice (some ⟨g8,0,none⟩) (m+1) p8,.slice (some ⟨g10,0,none⟩) (m+1) p10,.bool false]) (by simp [results,Tryz.results18,go_sem,e0,e1,e2,e3]) rfl ⟨_,_,s6,rs++[⟨r6,φ7,.slice (some ⟨g7,0,none⟩) ln7 c7,f7⟩],rfl,⟨?_,hb11 _ hb10,?_,?_⟩,by simp⟩
   ·have:=h11
    simp only [List.map_append,List.map_cons,List.map_nil]
    exact this
   ·intro r hr
    rcases List.mem_append.1 hr with hr | hr
    ·exact ⟨(hok.out r hr).1.step hinv.out hT6.out,(hok.out r hr).2⟩
    ·rw [List.mem_singleton.1 hr]
     exact ⟨hv6.out,hta7.out⟩
   ·exact ⟨r0,r1,rest++[_],by rw [hrs0.out];rfl,hr0,hr1⟩
 ·obtain ⟨c0,c1,c2,c3⟩:=box4 hbr5.out
  have h5':=h5.out.setb (bx':=(x+1+1,#[.pointer none,.slice none 0 0,.slice none 0 0,.bool false]) :: bx) (fun p hp=>by
   rcases List.mem_cons.1 hp with rfl | hp
   ·exact hbz5.out
   ·exact h5.out.hb p hp)
  have hR5:RunAt wa ((x+1+1,#[.pointer none,.slice none 0 0,.slice none 0 0,.bool false]) :: bx) t l sb k s (.slice (some ⟨ga,0,none⟩) m ca) (.slice (some ⟨gf,0,none⟩) m cf) rs w5:=⟨h5',hbel5.out,hok.out,⟨r0,r1,rest,hrs0.out,hr0,hr1⟩⟩
  have qk:=keeprun_any (ai:=ai) (Bz:=Bz) hR5 hrs (by rw [←hm.out];exact hai)
  unfold runV at qk
  clear h5' hR5
  go_wp2_with fail
  refine qk.mono ?_
  rintro e w6 ⟨va',vf',s',rs',rfl,h6,hl6'⟩
  obtain ⟨ga',na',ca',gf',nf',cf',rfl,rfl⟩:=h6.shape
  have hbz6:w6.heap[x+1+1]? = some (.cells #[.pointer none,.slice none 0 0,.slice none 0 0,.bool false] 35 (0,0)):=h6.g.hb (x+1+1,#[.pointer none,.slice none 0 0,.slice none 0 0,.bool false]) (List.mem_cons_self ..)
  obtain ⟨u0,u1,u2,u3⟩:=box4 hbz6
  have f0:w6.frozen? ⟨x+1+1,0,none⟩ = false:=by simp [World.frozen?,hbz6]
  have f1:w6.frozen? ⟨x+1+1,1,none⟩ = false:=by simp [World.frozen?,hbz6]
  have f2:w6.frozen? ⟨x+1+1,2,none⟩ = false:=by simp [World.frozen?,hbz6]
  have f3:w6.frozen? ⟨x+1+1,3,none⟩ = false:=by simp [World.frozen?,hbz6]
  replace h6:=Lib.hid h6
  replace hbz6:=Lib.hid hbz6
  clear qk c0 c1 c2 c3 k0 k1 k2 h5 hbel5 hbr5 hbz5 hbo5 ho5
  go_wp2_with fail
  obtain ⟨h7,hb7,hbox7⟩:=run_set4 (h6.out.g.setb (bx':=bx) (fun p hp=>h6.out.g.hb p (List.mem_cons_of_mem _ hp))) hbz6.out (by omega) (fun p hp=>by have:=hnb.out p hp;omega) (.pointer (some ⟨sb,0,none⟩)) (.slice (some ⟨ga',0,none⟩) na' ca') (.slice (some ⟨gf',0,none⟩) nf' cf') (.bool false) rfl
  obtain ⟨e0,e1,e2,e3⟩:=box4 hbox7
  refine bodyPost_ret (v:=.agg #[.pointer (some ⟨sb,0,none⟩),.slice (some ⟨ga',0,none⟩) na' ca',.slice (some ⟨gf',0,none⟩) nf' cf',.bool false]) (by simp [results,Tryz.results18,go_sem,e0,e1,e2,e3]) rfl ⟨_,_,s',rs',rfl,⟨h7.less (by omega),hb7 _ h6.out.bel,h6.out.ok,h6.out.two⟩,hl6'⟩
end Go.Proofs.YteikmmfjhabijaaGreatDoor
