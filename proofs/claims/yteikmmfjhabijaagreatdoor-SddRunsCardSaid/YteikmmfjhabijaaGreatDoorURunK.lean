import Derived.Test.YteikmmfjhabijaaGreatDoorURunG
set_option linter.unusedSimpArgs false
set_option linter.unusedVariables false
namespace Go.Proofs.YteikmmfjhabijaaGreatDoor
open Go Go.RowKit Go.Shelf
theorem RunG.swapA {N:Nat} {bx:List (Nat × Array Value)} {t:List VN} {sb k:Nat} {s:St} {va:Value} {na:List Value} {vf:Value} {nf:List Value} {ts:List (Value × List Bool)} {w:World} {va':Value} {na':List Value} (h:RunG N bx t sb k s va na vf nf ts w) (ho:w.ownsRow N 3 1 va' na'.length na'):RunG N bx t sb k s va' na' vf nf ts w:={ h with oa:=ho }
theorem RunG.swapF {N:Nat} {bx:List (Nat × Array Value)} {t:List VN} {sb k:Nat} {s:St} {va:Value} {na:List Value} {vf:Value} {nf:List Value} {ts:List (Value × List Bool)} {w:World} {vf':Value} {nf':List Value} (h:RunG N bx t sb k s va na vf nf ts w) (ho:w.ownsRow N 43 1 vf' nf'.length nf'):RunG N bx t sb k s va na vf' nf' ts w:={ h with of:=ho }
def kept (b:List Nat) (r:Res):Res:=⟨L.rankN b r.n,r.φ,r.v,r.f⟩
theorem kept_slI {w:World} {p n c:Nat} {ks:List Res} (hkn:ks.length = n) (h:∀ j u,(ks.map fun r=>encI r.n)[j]? = some u→w.cell? ⟨p,j,none⟩ = some u):SlI w (.slice (some ⟨p,0,none⟩) n c) ((ks.map Res.n).map fun n:Nat=>(n:Int)):=by
 refine ⟨_,c,by rw [List.length_map,List.length_map,hkn],.inr ⟨p,0,rfl,fun j hj=>?_⟩⟩
 rw [Nat.zero_add]
 refine h j _ ?_
 rw [List.length_map,List.length_map] at hj
 rw [List.getElem?_map,List.getElem?_eq_getElem hj]
 simp [encI]
set_option maxRecDepth 100000 in
set_option maxHeartbeats 8000000 in
theorem keeprun_any {wa w:World} {bx:List (Nat × Array Value)} {t:List VN} {l:List Int} {sb k ai:Nat} {s:St} {va vf:Value} {rs:List Res} {Bz:Int} (h:RunAt wa bx t l sb k s va vf rs w) (hrs:rs.length≤1000) (hai:ai < rs.length) :
  Calls Tryz.prog 57 #[runV sb va vf,.int .i64 ai,.int .i64 Bz] w fun e w'=>∃ va' vf' s' rs',e = .returned (runV sb va' vf')∧RunAt wa bx t l sb k s' va' vf' rs' w'∧rs'.length≤rs.length+2:=by
 obtain ⟨r0,r1,rest,hrs0,hr0,hr1⟩:=h.two
 obtain ⟨m,hm⟩:∃ m,m = rs.length:=⟨_,rfl⟩
 have hm2:2≤m:=by rw [hm,hrs0];simp
 have hmk:m≤1000:=by rw [hm];exact hrs
 have hm0:0 < m:=by omega
 have hm1:(1:Int) < (m:Int):=by omega
 rw [←hm] at hai
 have oa:=h.g.oa
 have of:=h.g.of
 rw [List.length_map,←hm] at oa of
 obtain ⟨ga,ca,rfl,hga⟩:=own_at oa (by omega)
 obtain ⟨gf,cf,rfl,hgf⟩:=own_at of (by omega)
 generalize hx:w.heap.size = x at *
 have hNx:wa.heap.size≤x:=by rw [←hx];exact h.g.sz
 obtain ⟨w3,hw3⟩:∃ w3,w3 = (w.alloc (.cells #[.pointer (some ⟨sb,0,none⟩),.slice (some ⟨ga,0,none⟩) m ca,.slice (some ⟨gf,0,none⟩) m cf,.bool false] 35)).alloc (.cells #[.pointer none,.slice none 0 0,.slice none 0 0,.bool false] 35):=⟨_,rfl⟩
 obtain ⟨hb3,hbr,hbz,hx3⟩:=two_allocs w _ _ _ _ hx hw3
 replace hbr:=Lib.hid hbr
 replace hbz:=Lib.hid hbz
 have h3:=Lib.hid (h.g.below hb3)
 have hbel3:Hid (Below wa.heap.size wa w3):=Lib.hid (h.bel.trans (hb3.mono h.g.sz))
 have hnb:Hid (∀ p∈bx,p.1 < x):=Lib.hid fun p hp=>by rw [←hx];exact (Array.getElem?_eq_some_iff.1 (h.g.hb p hp)).1
 have hok:=Lib.hid h.ok
 have hinv:=Lib.hid h.g.room.inv
 obtain ⟨ra,hra⟩:∃ ra,rs[ai]? = some ra:=⟨_,List.getElem?_eq_getElem (by rw [←hm];exact hai)⟩
 have hg0:rs[0]? = some r0:=by rw [hrs0];rfl
 have hshape:∀ r∈rs,∃ g ln c,r.v = .slice (some ⟨g,0,none⟩) ln c:=fun r hr=>by
  obtain ⟨g,c,_,e,_⟩:=h.g.tab (r.v,r.f) (List.mem_map.2 ⟨r,hr,rfl⟩)
  exact ⟨g,_,c,e⟩
 obtain ⟨gr,lr,cr,hrv⟩:=hshape ra (List.mem_of_getElem? hra)
 have hg1:rs[1]? = some r1:=by rw [hrs0];rfl
 obtain ⟨gq0,lq0,cq0,hq0⟩:=hshape r0 (List.mem_of_getElem? hg0)
 obtain ⟨gq1,lq1,cq1,hq1⟩:=hshape r1 (List.mem_of_getElem? hg1)
 replace hrv:=Lib.hid hrv
 replace hq0:=Lib.hid hq0
 replace hq1:=Lib.hid hq1
 clear hshape
 replace hrs0:=Lib.hid hrs0
 replace hra:=Lib.hid hra
 replace hg0:=Lib.hid hg0
 replace hg1:=Lib.hid hg1
 replace hm:=Lib.hid hm
 replace hx:=Lib.hid hx
 clear oa of h hb3 hgf hga
 unfold runV
 replace hw3:=Lib.hid hw3
 obtain ⟨i0,hi0,hz0,hz1,hz2⟩:=info_parts int_info
 obtain ⟨j0,hj0,hzj0,hzj1,hzj2⟩:=info_parts tbs_info
 go_enter Tryz.func57,Tryz.ntmps57
 go_wp2_with fail
 rw [←hw3.out]
 simp only [hx.out]
 clear hw3
 obtain ⟨c0,c1,c2,c3⟩:=box4 hbr.out
 have ca4:w3.cell? ⟨ga,ai,none⟩ = some (.int .i64 (ra.n:Nat)):=own_cellAt (own_cast h3.out.oa (by rw [List.length_map,←hm.out]) rfl) (by rw [List.getElem?_map,hra.out];rfl)
 have cf4:w3.cell? ⟨gf,ai,none⟩ = some (.slice (some ⟨gr,0,none⟩) lr cr):=own_cellAt (own_cast h3.out.of (by rw [List.length_map,←hm.out]) rfl) (by rw [List.getElem?_map,hra.out,←hrv.out];rfl)
 go_wp2_with fail
 (refine wp_region_held_drew (S:=(fun W=>W.cell? ⟨x,1,none⟩ = some (.slice (some ⟨ga,0,none⟩) m ca)∧W.cell? ⟨x,2,none⟩ = some (.slice (some ⟨gf,0,none⟩) m cf)∧W.cell? ⟨ga,ai,none⟩ = some (.int .i64 (ra.n:Nat))∧W.cell? ⟨gf,ai,none⟩ = some (.slice (some ⟨gr,0,none⟩) lr cr))) (by kernel_rfl) ?_ (fun hHeld=>?_))
 ·exact ⟨c1,c2,ca4,cf4⟩
 (refine takeL (i:=0) (v:=?_) rfl (by kernel_rfl) (by kernel_rfl) (by kernel_rfl) (fun _ _ _ h=>h) (Or.inl ⟨by rfl,?_⟩) (by assumption) ?_)
 rotate_left
 ·(intro w hSw;(try dsimp only at hSw);go_simp;first | done | with_reducible rfl)
 (try simp only [Act.put,List.setIfInBounds_toArray,List.set_cons_zero,List.set_cons_succ])
 (refine takeL (i:=1) (v:=?_) rfl (by kernel_rfl) (by kernel_rfl) (by kernel_rfl) (fun _ _ _ h=>h) (Or.inl ⟨by rfl,?_⟩) (by assumption) ?_)
 rotate_left
 ·(intro w hSw;(try dsimp only at hSw);go_simp;first | done | with_reducible rfl)
 (try simp only [Act.put,List.setIfInBounds_toArray,List.set_cons_zero,List.set_cons_succ])
 (refine takeL (i:=2) (v:=?_) rfl (by kernel_rfl) (by kernel_rfl) (by kernel_rfl) (fun _ _ _ h=>h) (Or.inl ⟨by rfl,?_⟩) (by assumption) ?_)
 rotate_left
 ·(intro w hSw;(try dsimp only at hSw);go_simp;first | done | with_reducible rfl)
 (try simp only [Act.put,List.setIfInBounds_toArray,List.set_cons_zero,List.set_cons_succ])
 (refine takeL (i:=3) (v:=?_) rfl (by kernel_rfl) (by kernel_rfl) (by kernel_rfl) (fun _ _ _ h=>h) (Or.inl ⟨by rfl,?_⟩) (by assumption) ?_)
 rotate_left
 ·(intro w hSw;(try dsimp only at hSw);go_simp;first | done | with_reducible rfl)
 (try simp only [Act.put,List.setIfInBounds_toArray,List.set_cons_zero,List.set_cons_succ])
 (refine takeL (i:=4) (v:=?_) rfl (by kernel_rfl) (by kernel_rfl) (by kernel_rfl) (fun _ _ _ h=>h) (Or.inl ⟨by rfl,?_⟩) (by assumption) ?_)
 rotate_left
 ·(intro w hSw;(try dsimp only at hSw);go_simp;first | done | with_reducible rfl)
 (try simp only [Act.put,List.setIfInBounds_toArray,List.set_cons_zero,List.set_cons_succ])
 (refine takeL (i:=6) (v:=?_) rfl (by kernel_rfl) (by kernel_rfl) (by kernel_rfl) (fun _ _ _ h=>h) (Or.inl ⟨by rfl,?_⟩) (by assumption) ?_)
 rotate_left
 ·(intro w hSw;(try dsimp only at hSw);go_simp;first | done | with_reducible rfl)
 (try simp only [Act.put,List.setIfInBounds_toArray,List.set_cons_zero,List.set_cons_succ])
 (refine takeL (i:=7) (v:=?_) rfl (by kernel_rfl) (by kernel_rfl) (by kernel_rfl) (fun _ _ _ h=>h) (Or.inl ⟨by rfl,?_⟩) (by assumption) ?_)
 rotate_left
 ·(intro w hSw;(try dsimp only at hSw);go_simp;first | done | with_reducible rfl)
 (try simp only [Act.put,List.setIfInBounds_toArray,List.set_cons_zero,List.set_cons_succ])
 (refine takeL (i:=8) (v:=?_) rfl (by kernel_rfl) (by kernel_rfl) (by kernel_rfl) (fun _ _ _ h=>h) (Or.inl ⟨by rfl,?_⟩) (by assumption) ?_)
 rotate_left
 ·(intro w hSw;(try dsimp only at hSw);go_simp;first | done | with_reducible rfl)
 (try simp only [Act.put,List.setIfInBounds_toArray,List.set_cons_zero,List.set_cons_succ])
 (refine takeL (i:=9) (v:=?_) rfl (by kernel_rfl) (by kernel_rfl) (by kernel_rfl) (fun _ _ _ h=>h) (Or.inl ⟨by rfl,?_⟩) (by assumption) ?_)
 rotate_left
 ·(intro w hSw;(try dsimp only at hSw);go_simp;first | done | with_reducible rfl)
 (try simp only [Act.put,List.setIfInBounds_toArray,List.set_cons_zero,List.set_cons_succ])
 (refine takeL (i:=10) (v:=?_) rfl (by kernel_rfl) (by kernel_rfl) (by kernel_rfl) (fun _ _ _ h=>h) (Or.inl ⟨by rfl,?_⟩) (by assumption) ?_)
 rotate_left
 ·(intro w hSw;(try dsimp only at hSw);go_simp;first | done | with_reducible rfl)
 (try simp only [Act.put,List.setIfInBounds_toArray,List.set_cons_zero,List.set_cons_succ])
 (refine wpAnyH_ready (rs:=[5,11]) (by kernel_rfl) (by simp) ?_)
 (refine consL2 rfl rfl (fun K hK=>?_) (fun K hK=>?_))
 ·(rw [if_pos (by rfl)])
  go_simp
  have B1:=(Below.refl w3.heap.size w3).alloc (Nat.le_refl _) (.cells #[.int .i64 (ra.n:Nat)] 3)
  (refine hK.out _ _ ⟨(B1.cell (World.block_lt_of_cell? _ _ c1)).trans c1,(B1.cell (World.block_lt_of_cell? _ _ c2)).trans c2,(B1.cell (World.block_lt_of_cell? _ _ ca4)).trans ca4,(B1.cell (World.block_lt_of_cell? _ _ cf4)).trans cf4⟩ (fun hHeld=>?_))
  clear hK K
  (try simp only [Act.put,List.setIfInBounds_toArray,List.set_cons_zero,List.set_cons_succ])
  have B2:=B1.alloc B1.size (.cells #[.slice (some ⟨gr,0,none⟩) lr cr] 43)
  (refine takeL (i:=12) (v:=?_) rfl (by kernel_rfl) (by kernel_rfl) (by kernel_rfl) (fun _ _ _ h=>h) (Or.inl ⟨by rfl,?_⟩) (by assumption) ?_)
  rotate_left
  ·(intro w hSw;(try dsimp only at hSw);go_simp;first | done | with_reducible rfl)
  (try simp only [Act.put,List.setIfInBounds_toArray,List.set_cons_zero,List.set_cons_succ])
  (refine wpAnyH_ready (rs:=[11]) (by kernel_rfl) (by simp) ?_)
  (refine consL rfl (fun K hK=>?_))
  ((rw [if_pos (by rfl)]);go_simp;refine hK.out _ _ ⟨(B2.cell (World.block_lt_of_cell? _ _ c1)).trans c1,(B2.cell (World.block_lt_of_cell? _ _ c2)).trans c2,(B2.cell (World.block_lt_of_cell? _ _ ca4)).trans ca4,(B2.cell (World.block_lt_of_cell? _ _ cf4)).trans cf4⟩ (fun hHeld=>?_))
  (clear hK K)
  (try simp only [Act.put,List.setIfInBounds_toArray,List.set_cons_zero,List.set_cons_succ])
  (refine takeL (i:=13) (v:=?_) rfl (by kernel_rfl) (by kernel_rfl) (by kernel_rfl) (fun _ _ _ h=>h) (Or.inl ⟨by rfl,?_⟩) (by assumption) ?_)
  rotate_left
  ·(intro w hSw;(try dsimp only at hSw);go_simp;first | done | with_reducible rfl)
  (try simp only [Act.put,List.setIfInBounds_toArray,List.set_cons_zero,List.set_cons_succ])
  (refine wpAnyH_done (by kernel_rfl) ?_ _)
  obtain ⟨hb6',hp6',hq6',hs6'⟩:=two_allocs w3 #[.int .i64 (ra.n:Nat)] #[.slice (some ⟨gr,0,none⟩) lr cr] 3 43 hx3 rfl
  have hb6:Below w3.heap.size w3 ((w3.alloc (.cells #[.int .i64 (ra.n:Nat)] 3)).alloc (.cells #[.slice (some ⟨gr,0,none⟩) lr cr] 43)).drew:=hb6'.trans ((Below.refl _ _).drew.mono hb6'.size)
  have hp6:((w3.alloc (.cells #[.int .i64 (ra.n:Nat)] 3)).alloc (.cells #[.slice (some ⟨gr,0,none⟩) lr cr] 43)).drew.heap[x+2]? = _:=hp6'
  have hq6:((w3.alloc (.cells #[.int .i64 (ra.n:Nat)] 3)).alloc (.cells #[.slice (some ⟨gr,0,none⟩) lr cr] 43)).drew.heap[x+2+1]? = _:=hq6'
  have c1':=(B2.cell (World.block_lt_of_cell? _ _ c1)).trans c1
  have c2':=(B2.cell (World.block_lt_of_cell? _ _ c2)).trans c2
  generalize hw6:((w3.alloc (.cells #[.int .i64 (ra.n:Nat)] 3)).alloc (.cells #[.slice (some ⟨gr,0,none⟩) lr cr] 43)).drew = w6 at *
  clear B1 B2 hb6' hp6' hq6' hs6' hHeld hw6 c1' c2'
  have h6:=Lib.hid (h3.out.below hb6)
  have hbr6:=Lib.hid ((hb6.block x (by omega)).trans hbr.out)
  have hbz6:=Lib.hid ((hb6.block (x+1) (by omega)).trans hbz.out)
  have hbel6:=Lib.hid (hbel3.out.trans (hb6.mono h3.out.sz))
  clear h3 hbr hbz hbel3 hb6 ca4 cf4 c0 c1 c2 c3
  by_cases hneg:Bz < 0
  ·have d0:decide (Bz < 0) = true:=decide_eq_true hneg
   obtain ⟨c0,c1,c2,c3⟩:=box4 hbr6.out
   have F1:=Lib.hid fun (W:World) (hW:Ext w6 W)=>And.intro (hW.cell c1) (hW.cell c2)
   clear hp6 hq6
   go_wp2_with fail
   (refine wp_region_below (by kernel_rfl) (by kernel_rfl) ?_
    repeat (refine wpQuiet_step (fun K hK=>?_)
            go_simp
            first
             | (refine hK _ ?_;clear hK K)
             | (replace hK:=Lib.hid hK
                apply Exists.intro
                refine ⟨fun wq hq=>?_,hK.out _ ?_⟩
                ·(obtain ⟨f1,f2⟩:=F1.out wq hq)
                 go_simp
                 first
                  | done
                  | rfl
                  | exact ⟨rfl,rfl⟩
                  | done
                clear hK K))
    refine wpQuiet_nil ?_)
   intro w5 hw5
   have hb5:=hw5.below
   replace hbr6:=Lib.hid ((hb5.block x (Array.getElem?_eq_some_iff.1 hbr6.out).1).trans hbr6.out)
   replace hbz6:=Lib.hid ((hb5.block (x+1) (Array.getElem?_eq_some_iff.1 hbz6.out).1).trans hbz6.out)
   replace hbel6:=Lib.hid (hbel6.out.trans (hb5.mono h6.out.sz))
   replace h6:=Lib.hid (h6.out.below hb5)
   have oa5:=own_cast h6.out.oa (show _ = m by rw [List.length_map,←hm.out]) rfl
   have of5:=own_cast h6.out.of (show _ = m by rw [List.length_map,←hm.out]) rfl
   obtain ⟨ks,hke⟩:∃ ks:List Res,ks = rs:=⟨_,rfl⟩
   have hks:Hid (∀ r∈ks,r∈rs):=Lib.hid fun r hr=>by rw [hke] at hr;exact hr
   have hkn:Hid (ks.length = m):=Lib.hid (by rw [hke];exact hm.out.symm)
   have hsa:Hid (∀ j u,(ks.map fun r=>encI r.n)[j]? = some u→w5.cell? ⟨ga,j,none⟩ = some u):=Lib.hid fun j u hj=>by
    rw [hke] at hj
    exact own_cellAt oa5 hj
   have hsf:Hid (∀ j u,(ks.map Res.v)[j]? = some u→w5.cell? ⟨gf,j,none⟩ = some u):=Lib.hid fun j u hj=>by
    rw [hke] at hj
    exact own_cellAt of5 hj
   have hqb:Hid (∃ cs,w5.heap[gf]? = some (.cells cs 43 (0,0))):=Lib.hid (own_lt of5 rfl).2
   clear hke oa5 of5 F1 hb5 hw5 c0 c1 c2 c3
   obtain ⟨B,hB,hR,hmut⟩:=h6.out.sp
   have qk:=keep_v (h6.out.ssAt hR) (kept_slI hkn.out hsa.out (c:=ca)) (by rw [List.length_map,hkn.out];omega) (fun a ha=>by
    obtain ⟨r,hr,rfl⟩:=List.mem_map.1 ha
    exact (hok.out r (hks.out r hr)).1.lt)
   rw [hB] at qk
   obtain ⟨c0,c1,c2,c3⟩:=box4 hbr6.out
   replace hB:=Lib.hid hB
   replace hR:=Lib.hid hR
   replace hmut:=Lib.hid hmut
   go_wp2_with fail
   refine qk.mono ?_
   rintro e w7 ⟨bk,v7,rfl,hcl,hmem,_,ho7,hS7⟩
   have ho7':=own_cast ho7 (show _ = m by rw [List.length_map,hkn.out]) rfl
   obtain ⟨g7,c7,rfl,hg7⟩:=own_at ho7' (by omega)
   obtain ⟨csq,hqb'⟩:=hqb.out
   have hqb7:=RunG.box hqb' (by decide) (by decide) hR.out hS7
   have hbr7:=RunG.box hbr6.out (by decide) (by decide) hR.out hS7
   have hbz7:=RunG.box hbz6.out (by decide) (by decide) hR.out hS7
   have hsf7:∀ j u,(ks.map Res.v)[j]? = some u→w7.cell? ⟨gf,j,none⟩ = some u:=fun j u hj=>(World.cell?_of_block (a:=⟨gf,j,none⟩) (hqb7.trans hqb'.symm)).trans (hsf.out j u hj)
   obtain ⟨h7,hbe7⟩:=h6.out.next hB.out hR.out hmut.out hS7
   have hbel7:=hbel6.out.trans hbe7
   have hcl7:=ho7'.cells (g:=g7) rfl
   have hoA:(w7.alloc (.cells #[.int .i64 0,.int .i64 1] 3)).ownsRow wa.heap.size 3 1 (.slice (some ⟨w7.heap.size,0,none⟩) 2 2) 2 [.int .i64 0,.int .i64 1]:=World.ownsRow_lit w7 #[.int .i64 0,.int .i64 1] 2 h7.sz (by unfold maxLen;omega) rfl
   have b7a:=(Below.refl w7.heap.size w7).alloc (Nat.le_refl _) (.cells #[.int .i64 0,.int .i64 1] 3)
   have hcl7a:∀ j u,(((ks.map Res.n).map (L.rankN bk)).map encI)[j]? = some u→(w7.alloc (.cells #[.int .i64 0,.int .i64 1] 3)).cell? ((⟨g7,0,none⟩:Addr).add j) = some u:=fun j u hj=>(b7a.cell (World.block_lt_of_cell? w7 _ (hcl7 j u hj))).trans (hcl7 j u hj)
   obtain ⟨z0,z1,z2,z3⟩:=box4 hbr7
   have hsz7:=h7.sz
   replace h7:=Lib.hid h7
   replace hbel7:=Lib.hid hbel7
   replace hbr7:=Lib.hid hbr7
   replace hbz7:=Lib.hid hbz7
   replace hqb7:=Lib.hid hqb7
   replace hsf7:=Lib.hid hsf7
   replace hcl:=Lib.hid hcl
   replace hmem:=Lib.hid hmem
   replace hcl7a:=Lib.hid hcl7a
   clear qk c0 c1 c2 c3 ho7 ho7' hS7 hqb' hbe7 hcl7 hR hmut hB h6 hbr6 hbz6 hbel6 hqb hsf hsa
   clear hHeld
   go_wp2_with (at_builtin;first
    | (refine wpList_append_own _ rfl _ _ 32 rfl wa.heap.size 3 i0 (.int .i64 0) 1 8 Tryz.underlying32 hi0 hz0 hz1 hz2 rfl (by decide) _ _ _ rfl hoA ⟨g7,0,none⟩ m c7 (((ks.map Res.n).map (L.rankN bk)).map encI) rfl (by simp [hkn.out]) hcl7a.out (fun u hu=>by obtain ⟨z,_,rfl⟩:=List.mem_map.1 hu;rfl) (by unfold maxLen;omega) (by omega) (by simp;omega) ?_
       intro v8 w8 ho8 hg8 _
       obtain ⟨g8,p8,rfl,hg8N⟩:=own_at ho8 (by omega)
       have hb8:Below w7.heap.size w7 w8:=Below.grown b7a hg8 b7a.size (fun k e=>Nat.le_of_eq (Option.some.inj e))
       have h8:=(h7.out.below hb8).swapA (own_cast ho8 (by simp [hkn.out] <;> omega) rfl)
       have hbr8:=(hb8.block x (Array.getElem?_eq_some_iff.1 hbr7.out).1).trans hbr7.out
       have hbz8:=(hb8.block (x+1) (Array.getElem?_eq_some_iff.1 hbz7.out).1).trans hbz7.out
       have hsf8:∀ j u,(ks.map Res.v)[j]? = some u→w8.cell? ⟨gf,j,none⟩ = some u:=fun j u hj=>(hb8.cell (World.block_lt_of_cell? w7 _ (hsf7.out j u hj))).trans (hsf7.out j u hj)
       have hqb8:=(hb8.block (gf) (Array.getElem?_eq_some_iff.1 hqb7.out).1).trans hqb7.out
       have hbel8:=hbel7.out.trans (hb8.mono hsz7)
       obtain ⟨y0,y1,y2,y3⟩:=box4 hbr8
       have hz8:w8.frozen? ⟨x,1,none⟩ = false:=by simp [World.frozen?,hbr8]
       have h9:=Lib.hid (h8.turn (w':=w8.setCell ⟨x,1,none⟩ (.slice (some ⟨g8,0,none⟩) (2+m) p8)) hbr8 hNx (fun p hp=>by have:=hnb.out p hp;omega) (by decide) (by decide) (by decide) (by decide) (by decide) (by decide) (by decide) (by simp) (fun k hk _=>heap_set_ne _ _ hk))
       have hbr9:Hid ((w8.setCell ⟨x,1,none⟩ (.slice (some ⟨g8,0,none⟩) (2+m) p8)).heap[x]? = some (.cells #[.pointer (some ⟨sb,0,none⟩),.slice (some ⟨g8,0,none⟩) (2+m) p8,.slice (some ⟨gf,0,none⟩) m cf,.bool false] 35 (0,0))):=Lib.hid (heap_set hbr8 1 _)
       have hbz9:Hid ((w8.setCell ⟨x,1,none⟩ (.slice (some ⟨g8,0,none⟩) (2+m) p8)).heap[x+1]? = some (.cells #[.pointer none,.slice none 0 0,.slice none 0 0,.bool false] 35 (0,0))):=Lib.hid ((heap_set_ne _ _ (by omega)).trans hbz8)
       have hbel9:Hid (Below wa.heap.size wa (w8.setCell ⟨x,1,none⟩ (.slice (some ⟨g8,0,none⟩) (2+m) p8))):=Lib.hid (hbel8.setCell hNx _)
       have hqx:(gf)≠x:=fun e=>by rw [e,hbr8] at hqb8;simp at hqb8
       have hsf9:Hid (∀ j u,(ks.map Res.v)[j]? = some u→(w8.setCell ⟨x,1,none⟩ (.slice (some ⟨g8,0,none⟩) (2+m) p8)).cell? ⟨gf,j,none⟩ = some u):=Lib.hid fun j u hj=>(World.cell?_of_block (a:=⟨gf,j,none⟩) (heap_set_ne _ _ hqx)).trans (hsf8 j u hj)
       clear hb8 h8 hbz8 hsf8 hqb8 hbel8 ho8 hg8 hqx))
   clear h7 hbel7 hbr7 hbz7 hqb7 hsf7 hcl7a hoA b7a z0 z1 z2 z3 y0 y1 y2 y3 hz8 hbr8
   generalize w8.setCell ⟨x,1,none⟩ (.slice (some ⟨g8,0,none⟩) (2+m) p8) = w9 at *
   have ofr:=own_cast h9.out.of (show _ = m by rw [List.length_map,←hm.out]) rfl
   have e0:w9.cell? ⟨gf,0,none⟩ = some (.slice (some ⟨gq0,0,none⟩) lq0 cq0):=own_cellAt ofr (by rw [List.getElem?_map,hg0.out,←hq0.out];rfl)
   have e1:w9.cell? ⟨gf,1,none⟩ = some (.slice (some ⟨gq1,0,none⟩) lq1 cq1):=own_cellAt ofr (by rw [List.getElem?_map,hg1.out,←hq1.out];rfl)
   have hoF:((w9.alloc (.cells #[.slice (some ⟨gq0,0,none⟩) lq0 cq0,.slice (some ⟨gq1,0,none⟩) lq1 cq1] 43)).drew).ownsRow wa.heap.size 43 1 (.slice (some ⟨w9.heap.size,0,none⟩) 2 2) 2 [.slice (some ⟨gq0,0,none⟩) lq0 cq0,.slice (some ⟨gq1,0,none⟩) lq1 cq1]:=World.ownsRow_lit w9 #[.slice (some ⟨gq0,0,none⟩) lq0 cq0,.slice (some ⟨gq1,0,none⟩) lq1 cq1] 2 h9.out.sz (by unfold maxLen;omega) rfl
   have b9b:=(Below.refl w9.heap.size w9).alloc (Nat.le_refl _) (.cells #[.slice (some ⟨gq0,0,none⟩) lq0 cq0,.slice (some ⟨gq1,0,none⟩) lq1 cq1] 43)
   have b9a:Below w9.heap.size w9 (w9.alloc (.cells #[.slice (some ⟨gq0,0,none⟩) lq0 cq0,.slice (some ⟨gq1,0,none⟩) lq1 cq1] 43)).drew:=b9b.trans ((Below.refl _ _).drew.mono b9b.size)
   clear b9b
   have hsf9a:Hid (∀ j u,(ks.map Res.v)[j]? = some u→(w9.alloc (.cells #[.slice (some ⟨gq0,0,none⟩) lq0 cq0,.slice (some ⟨gq1,0,none⟩) lq1 cq1] 43)).drew.cell? ((⟨gf,0,none⟩:Addr).add j) = some u):=Lib.hid fun j u hj=>by
    rw [Addr.add_lit,Nat.zero_add]
    exact (b9a.cell (World.block_lt_of_cell? w9 _ (hsf9.out j u hj))).trans (hsf9.out j u hj)
   have hsz9:=h9.out.sz
   have h1v:∀ u∈ks.map Res.v,u.oneCell' = true:=fun u hu=>by
    obtain ⟨r,hr,rfl⟩:=List.mem_map.1 hu
    obtain ⟨g,c,_,e,_⟩:=h9.out.tab (r.v,r.f) (List.mem_map.2 ⟨r,hks.out r hr,rfl⟩)
    rw [show r.v = _ from e];rfl
   obtain ⟨z0,z1,z2,z3⟩:=box4 hbr9.out
   replace b9a:=Lib.hid b9a
   clear ofr hsf9
   go_wp2_with fail
   (refine wp_region_held_drew (S:=(fun _=>True)) (by kernel_rfl) ?_ (fun hHeld=>?_))
   ·trivial
   (refine takeL (i:=0) (v:=?_) rfl (by kernel_rfl) (by kernel_rfl) (by kernel_rfl) (fun _ _ _ h=>h) (Or.inl ⟨by rfl,?_⟩) (by assumption) ?_)
   rotate_left
   ·(intro w hSw;(try dsimp only at hSw);go_simp;first | done | with_reducible rfl)
   (try simp only [Act.put,List.setIfInBounds_toArray,List.set_cons_zero,List.set_cons_succ])
   (refine takeL (i:=4) (v:=?_) rfl (by kernel_rfl) (by kernel_rfl) (by kernel_rfl) (fun _ _ _ h=>h) (Or.inl ⟨by rfl,?_⟩) (by assumption) ?_)
   rotate_left
   ·(intro w hSw;(try dsimp only at hSw);go_simp;first | done | with_reducible rfl)
   (try simp only [Act.put,List.setIfInBounds_toArray,List.set_cons_zero,List.set_cons_succ])
   (refine takeL (i:=9) (v:=?_) rfl (by kernel_rfl) (by kernel_rfl) (by kernel_rfl) (fun _ _ _ h=>h) (Or.inl ⟨by rfl,?_⟩) (by assumption) ?_)
   rotate_left
   ·(intro w hSw;(try dsimp only at hSw);go_simp;first | done | with_reducible rfl)
   (try simp only [Act.put,List.setIfInBounds_toArray,List.set_cons_zero,List.set_cons_succ])
   (refine wpAnyH_ready (rs:=[1,5]) (by kernel_rfl) (by simp) ?_)
   (refine consL2 rfl rfl (fun K hK=>?_) (fun K hK=>?_))
   (rw [if_pos (by rfl)])
   go_simp
   (refine hK.out _ _ trivial (fun hT=>?_))
   (clear hT hK K)
   (try simp only [Act.put,List.setIfInBounds_toArray,List.set_cons_zero,List.set_cons_succ])
   (refine takeL (i:=2) (v:=?_) rfl (by kernel_rfl) (by kernel_rfl) (by kernel_rfl) (fun _ _ _ h=>h) (Or.inl ⟨by rfl,?_⟩) (by assumption) ?_)
   rotate_left
   ·(intro w hSw;(try dsimp only at hSw);go_simp;first | done | with_reducible rfl)
   (try simp only [Act.put,List.setIfInBounds_toArray,List.set_cons_zero,List.set_cons_succ])
   (refine wpAnyH_ready (rs:=[3,5]) (by kernel_rfl) (by simp) ?_)
   (refine consL2 rfl rfl (fun K hK=>?_) (fun K hK=>?_))
   (rw [if_pos (by rfl)])
   go_simp
   (refine hK.out _ _ trivial (fun hT=>?_))
   (clear hT hK K)
   (try simp only [Act.put,List.setIfInBounds_toArray,List.set_cons_zero,List.set_cons_succ])
   (refine wpAnyH_ready (rs:=[5]) (by kernel_rfl) (by simp) ?_)
   (refine consL rfl (fun K hK=>?_))
   (rw [if_pos (by rfl)])
   go_simp
   (refine hK.out _ _ trivial (fun hT=>?_))
   (clear hT hK K)
   (try simp only [Act.put,List.setIfInBounds_toArray,List.set_cons_zero,List.set_cons_succ])
   (refine takeL (i:=6) (v:=?_) rfl (by kernel_rfl) (by kernel_rfl) (by kernel_rfl) (fun _ _ _ h=>h) (Or.inl ⟨by rfl,?_⟩) (by assumption) ?_)
   rotate_left
   ·(intro w hSw;(try dsimp only at hSw);go_simp;first | done | with_reducible rfl)
   (try simp only [Act.put,List.setIfInBounds_toArray,List.set_cons_zero,List.set_cons_succ])
   (refine wpAnyH_ready (rs:=[7]) (by kernel_rfl) (by simp) ?_)
   (refine consL rfl (fun K hK=>?_))
   (rw [if_pos (by rfl)])
   go_simp
   (refine hK.out _ _ trivial (fun hT=>?_))
   (clear hT hK K)
   (try simp only [Act.put,List.setIfInBounds_toArray,List.set_cons_zero,List.set_cons_succ])
   refine ?hRest2
   rotate_left
   (rw [if_pos (by rfl)])
   go_simp
   (refine hK.out _ _ trivial (fun hT=>?_))
   (clear hT hK K)
   (try simp only [Act.put,List.setIfInBounds_toArray,List.set_cons_zero,List.set_cons_succ])
   (refine takeL (i:=6) (v:=?_) rfl (by kernel_rfl) (by kernel_rfl) (by kernel_rfl) (fun _ _ _ h=>h) (Or.inl ⟨by rfl,?_⟩) (by assumption) ?_)
   rotate_left
   ·(intro w hSw;(try dsimp only at hSw);go_simp;first | done | with_reducible rfl)
   (try simp only [Act.put,List.setIfInBounds_toArray,List.set_cons_zero,List.set_cons_succ])
   (refine wpAnyH_ready (rs:=[3,7]) (by kernel_rfl) (by simp) ?_)
   (refine consL2 rfl rfl (fun K hK=>?_) (fun K hK=>?_))
   (rw [if_pos (by rfl)])
   go_simp
   (refine hK.out _ _ trivial (fun hT=>?_))
   (clear hT hK K)
   (try simp only [Act.put,List.setIfInBounds_toArray,List.set_cons_zero,List.set_cons_succ])
   (refine wpAnyH_ready (rs:=[7]) (by kernel_rfl) (by simp) ?_)
   (refine consL rfl (fun K hK=>?_))
   (rw [if_pos (by rfl)])
   go_simp
   (refine hK.out _ _ trivial (fun hT=>?_))
   (clear hT hK K)
   (try simp only [Act.put,List.setIfInBounds_toArray,List.set_cons_zero,List.set_cons_succ])
   exact ?hRest2
   (rw [if_pos (by rfl)])
   go_simp
   (refine hK.out _ _ trivial (fun hT=>?_))
   (clear hT hK K)
   (try simp only [Act.put,List.setIfInBounds_toArray,List.set_cons_zero,List.set_cons_succ])
   (refine wpAnyH_ready (rs:=[3]) (by kernel_rfl) (by simp) ?_)
   (refine consL rfl (fun K hK=>?_))
   (rw [if_pos (by rfl)])
   go_simp
   (refine hK.out _ _ trivial (fun hT=>?_))
   (clear hT hK K)
   (try simp only [Act.put,List.setIfInBounds_toArray,List.set_cons_zero,List.set_cons_succ])
   exact ?hRest2
   (rw [if_pos (by rfl)])
   go_simp
   (refine hK.out _ _ trivial (fun hT=>?_))
   (clear hT hK K)
   (try simp only [Act.put,List.setIfInBounds_toArray,List.set_cons_zero,List.set_cons_succ])
   (refine takeL (i:=6) (v:=?_) rfl (by kernel_rfl) (by kernel_rfl) (by kernel_rfl) (fun _ _ _ h=>h) (Or.inl ⟨by rfl,?_⟩) (by assumption) ?_)
   rotate_left
   ·(intro w hSw;(try dsimp only at hSw);go_simp;first | done | with_reducible rfl)
   (try simp only [Act.put,List.setIfInBounds_toArray,List.set_cons_zero,List.set_cons_succ])
   (refine wpAnyH_ready (rs:=[1,7]) (by kernel_rfl) (by simp) ?_)
   (refine consL2 rfl rfl (fun K hK=>?_) (fun K hK=>?_))
   (rw [if_pos (by rfl)])
   go_simp
   (refine hK.out _ _ trivial (fun hT=>?_))
   (clear hT hK K)
   (try simp only [Act.put,List.setIfInBounds_toArray,List.set_cons_zero,List.set_cons_succ])
   (refine takeL (i:=2) (v:=?_) rfl (by kernel_rfl) (by kernel_rfl) (by kernel_rfl) (fun _ _ _ h=>h) (Or.inl ⟨by rfl,?_⟩) (by assumption) ?_)
   rotate_left
   ·(intro w hSw;(try dsimp only at hSw);go_simp;first | done | with_reducible rfl)
   (try simp only [Act.put,List.setIfInBounds_toArray,List.set_cons_zero,List.set_cons_succ])
   (refine wpAnyH_ready (rs:=[3,7]) (by kernel_rfl) (by simp) ?_)
   (refine consL2 rfl rfl (fun K hK=>?_) (fun K hK=>?_))
   (rw [if_pos (by rfl)])
   go_simp
   (refine hK.out _ _ trivial (fun hT=>?_))
   (clear hT hK K)
   (try simp only [Act.put,List.setIfInBounds_toArray,List.set_cons_zero,List.set_cons_succ])
   (refine wpAnyH_ready (rs:=[7]) (by kernel_rfl) (by simp) ?_)
   (refine consL rfl (fun K hK=>?_))
   (rw [if_pos (by rfl)])
   go_simp
   (refine hK.out _ _ trivial (fun hT=>?_))
   (clear hT hK K)
   (try simp only [Act.put,List.setIfInBounds_toArray,List.set_cons_zero,List.set_cons_succ])
   exact ?hRest2
   (rw [if_pos (by rfl)])
   go_simp
   (refine hK.out _ _ trivial (fun hT=>?_))
   (clear hT hK K)
   (try simp only [Act.put,List.setIfInBounds_toArray,List.set_cons_zero,List.set_cons_succ])
   (refine wpAnyH_ready (rs:=[3]) (by kernel_rfl) (by simp) ?_)
   (refine consL rfl (fun K hK=>?_))
   (rw [if_pos (by rfl)])
   go_simp
   (refine hK.out _ _ trivial (fun hT=>?_))
   (clear hT hK K)
   (try simp only [Act.put,List.setIfInBounds_toArray,List.set_cons_zero,List.set_cons_succ])
   exact ?hRest2
   (rw [if_pos (by rfl)])
   go_simp
   (refine hK.out _ _ trivial (fun hT=>?_))
   (clear hT hK K)
   (try simp only [Act.put,List.setIfInBounds_toArray,List.set_cons_zero,List.set_cons_succ])
   (refine wpAnyH_ready (rs:=[1]) (by kernel_rfl) (by simp) ?_)
   (refine consL rfl (fun K hK=>?_))
   (rw [if_pos (by rfl)])
   go_simp
   (refine hK.out _ _ trivial (fun hT=>?_))
   (clear hT hK K)
   (try simp only [Act.put,List.setIfInBounds_toArray,List.set_cons_zero,List.set_cons_succ])
   (refine takeL (i:=2) (v:=?_) rfl (by kernel_rfl) (by kernel_rfl) (by kernel_rfl) (fun _ _ _ h=>h) (Or.inl ⟨by rfl,?_⟩) (by assumption) ?_)
   rotate_left
   ·(intro w hSw;(try dsimp only at hSw);go_simp;first | done | with_reducible rfl)
   (try simp only [Act.put,List.setIfInBounds_toArray,List.set_cons_zero,List.set_cons_succ])
   (refine wpAnyH_ready (rs:=[3]) (by kernel_rfl) (by simp) ?_)
   (refine consL rfl (fun K hK=>?_))
   (rw [if_pos (by rfl)])
   go_simp
   (refine hK.out _ _ trivial (fun hT=>?_))
   (clear hT hK K)
   (try simp only [Act.put,List.setIfInBounds_toArray,List.set_cons_zero,List.set_cons_succ])
   exact ?hRest2
   (refine wpAnyH_ready (rs:=[8]) (by kernel_rfl) (by simp) ?_)
   (refine consL rfl (fun K hK=>?_))
   ((rw [if_pos (by rfl)]);go_simp;(refine hK.out _ _ trivial (fun hT=>?_));clear hT)
   (clear hK K)
   (try simp only [Act.put,List.setIfInBounds_toArray,List.set_cons_zero,List.set_cons_succ])
   (refine wpAnyH_ready (rs:=[10]) (by kernel_rfl) (by simp) ?_)
   (refine consL rfl (fun K hK=>?_))
   ((rw [if_pos (by rfl)]);refine wp_append_own _ _ _ 33 rfl wa.heap.size 43 j0 (.slice none 0 0) 1 24 Tryz.underlying33 hj0 hzj0 hzj1 hzj2 rfl (by decide) _ _ _ rfl hoF ⟨gf,0,none⟩ m cf (ks.map Res.v) rfl (by simp [hkn.out]) hsf9a.out h1v (by unfold maxLen;omega) (by omega) (by simp;omega) ?_;intro v10 w10 ho10 hg10 _;(refine hK.out _ _ trivial (fun hT=>?_));clear hT)
   (clear hK K)
   (try simp only [Act.put,List.setIfInBounds_toArray,List.set_cons_zero,List.set_cons_succ])
   obtain ⟨g10,p10,rfl,hg10N⟩:=own_at ho10 (by omega)
   have hb10:Below w9.heap.size w9 w10:=Below.grown b9a.out hg10 b9a.out.size (fun k e=>Nat.le_of_eq (Option.some.inj e))
   have hbr10:=(hb10.block x (Array.getElem?_eq_some_iff.1 hbr9.out).1).trans hbr9.out
   have hbz10:=(hb10.block (x+1) (Array.getElem?_eq_some_iff.1 hbz9.out).1).trans hbz9.out
   have h10:=Lib.hid ((h9.out.below hb10).swapF (own_cast ho10 (by simp [hkn.out] <;> omega) rfl))
   have hbel10:=Lib.hid (hbel9.out.trans (hb10.mono hsz9))
   obtain ⟨y0,y1,y2,y3⟩:=box4 hbr10
   obtain ⟨u0,u1,u2,u3⟩:=box4 hbz10
   have fz:w10.frozen? ⟨x,2,none⟩ = false:=by simp [World.frozen?,hbr10]
   have f0:w10.frozen? ⟨x+1,0,none⟩ = false:=by simp [World.frozen?,hbz10]
   have f1:w10.frozen? ⟨x+1,1,none⟩ = false:=by simp [World.frozen?,hbz10]
   have f2:w10.frozen? ⟨x+1,2,none⟩ = false:=by simp [World.frozen?,hbz10]
   have f3:w10.frozen? ⟨x+1,3,none⟩ = false:=by simp [World.frozen?,hbz10]
   replace hbr10:=Lib.hid hbr10
   replace hbz10:=Lib.hid hbz10
   clear h9 hbel9 hbr9 hbz9 hb10 hoF hsf9a h1v b9a ho10 hg10 z0 z1 z2 z3 e0 e1 hHeld
   have hT:True:=trivial
   (refine takeL (i:=11) (v:=?_) rfl (by kernel_rfl) (by kernel_rfl) (by kernel_rfl) (fun _ _ _ h=>h) (Or.inl ⟨by rfl,?_⟩) (by assumption) ?_)
   rotate_left
   ·(intro w hSw;(try dsimp only at hSw);go_simp;first | done | with_reducible rfl)
   (try simp only [Act.put,List.setIfInBounds_toArray,List.set_cons_zero,List.set_cons_succ])
   clear hT
   (refine wpAnyH_ready (rs:=[12]) (by kernel_rfl) (by simp) ?_)
   (refine consL rfl (fun K hK=>?_))
   ((rw [if_pos (by rfl)]);go_simp;(refine hK.out _ _ trivial (fun hT=>?_));clear hT)
   (clear hK K)
   (try simp only [Act.put,List.setIfInBounds_toArray,List.set_cons_zero,List.set_cons_succ])
   (refine wpAnyH_done (by kernel_rfl) ?_ _)
   go_wp2_with fail
   obtain ⟨h11,hb11,e0,e1,e2,e3⟩:=run_closeAt 2 h10.out hbr10.out hbz10.out (by omega) hNx (by omega) (fun p hp=>by have:=hnb.out p hp;omega) (fun p hp=>by have:=hnb.out p hp;omega) (.slice (some ⟨g10,0,none⟩) (2+m) p10) (.pointer (some ⟨sb,0,none⟩)) (.slice (some ⟨g8,0,none⟩) (2+m) p8) (.slice (some ⟨g10,0,none⟩) (2+m) p10) (.bool false) rfl
   obtain ⟨rs',hrs'⟩:∃ rs',rs' = kept bk r0 :: kept bk r1 :: ks.map (kept bk):=⟨_,rfl⟩
   have hmm:∀ r∈rs',∃ r'∈rs,r = kept bk r'∧r'.n∈bk:=fun r hr=>by
    rw [hrs'] at hr
    rcases List.mem_cons.1 hr with rfl | hr
    ·exact ⟨r0,List.mem_of_getElem? hg0.out,rfl,by rw [hr0];exact hcl.out.mem0⟩
    ·rcases List.mem_cons.1 hr with rfl | hr
     ·exact ⟨r1,List.mem_of_getElem? hg1.out,rfl,by rw [hr1];exact hcl.out.mem1⟩
     ·obtain ⟨r',hr',rfl⟩:=List.mem_map.1 hr
      exact ⟨r',hks.out r' hr',rfl,hmem.out _ (List.mem_map.2 ⟨r',hr',rfl⟩)⟩
   have eA:[Value.int .i64 0,Value.int .i64 1]++((ks.map Res.n).map (L.rankN bk)).map encI = (rs'.map fun r=>encI r.n):=by
    rw [hrs'];simp [kept,hr0,hr1,hcl.out.rank0,hcl.out.rank1,encI,Function.comp_def]
   have eF:[Value.slice (some ⟨gq0,0,none⟩) lq0 cq0,Value.slice (some ⟨gq1,0,none⟩) lq1 cq1]++ks.map Res.v = rs'.map Res.v:=by
    rw [hrs'];simp [kept,hq0.out,hq1.out,Function.comp_def]
   rw [eA,eF] at h11
   refine bodyPost_ret (v:=.agg #[.pointer (some ⟨sb,0,none⟩),.slice (some ⟨g8,0,none⟩) (2+m) p8,.slice (some ⟨g10,0,none⟩) (2+m) p10,.bool false]) (by simp [results,Tryz.results57,go_sem,e0,e1,e2,e3]) rfl ⟨_,_,L.keepS s bk,rs',rfl,⟨h11.tabs (fun p hp=>?_),hb11 _ hbel10.out,fun r hr=>?_,?_⟩,?_⟩
   ·obtain ⟨r,hr,rfl⟩:=List.mem_map.1 hp
    obtain ⟨r',hr',rfl,_⟩:=hmm r hr
    exact h11.tab (r'.v,r'.f) (List.mem_map.2 ⟨r',hr',rfl⟩)
   ·obtain ⟨r',hr',rfl,hn⟩:=hmm r hr
    exact ⟨(hok.out r' hr').1.keep hinv.out hcl.out hn,(hok.out r' hr').2⟩
   ·exact ⟨_,_,_,hrs',by show L.rankN bk r0.n = 0;rw [hr0];exact hcl.out.rank0,by show L.rankN bk r1.n = 1;rw [hr1];exact hcl.out.rank1⟩
   ·have:=hm.out
    rw [hrs'];simp [hkn.out];omega
  ·have d0:decide (Bz < 0) = false:=decide_eq_false hneg
   obtain ⟨ks,hke⟩:∃ ks:List Res,ks = [ra]:=⟨_,rfl⟩
   have hks:Hid (∀ r∈ks,r∈rs):=Lib.hid fun r hr=>by rw [hke] at hr;rw [List.mem_singleton.1 hr];exact List.mem_of_getElem? hra.out
   have hkn:Hid (ks.length = 1):=Lib.hid (by rw [hke];rfl)
   have hsa:Hid (∀ j u,(ks.map fun r=>encI r.n)[j]? = some u→w6.cell? ⟨x+2,j,none⟩ = some u):=Lib.hid fun j u hj=>by
    rw [hke] at hj
    match j,hj with
    | 0,hj=>obtain rfl:=Option.some.inj hj;simp [World.cell?,hp6,encI]
   have hsf:Hid (∀ j u,(ks.map Res.v)[j]? = some u→w6.cell? ⟨x+2+1,j,none⟩ = some u):=Lib.hid fun j u hj=>by
    rw [hke] at hj
    match j,hj with
    | 0,hj=>obtain rfl:=Option.some.inj hj;simp [World.cell?,hq6,hrv.out]
   have hqb:Hid (∃ cs,w6.heap[x+2+1]? = some (.cells cs 43 (0,0))):=Lib.hid ⟨_,hq6⟩
   clear hp6 hq6 hke
   obtain ⟨B,hB,hR,hmut⟩:=h6.out.sp
   have qk:=keep_v (h6.out.ssAt hR) (kept_slI hkn.out hsa.out (c:=1)) (by rw [List.length_map,hkn.out];omega) (fun a ha=>by
    obtain ⟨r,hr,rfl⟩:=List.mem_map.1 ha
    exact (hok.out r (hks.out r hr)).1.lt)
   rw [hB] at qk
   obtain ⟨c0,c1,c2,c3⟩:=box4 hbr6.out
   replace hB:=Lib.hid hB
   replace hR:=Lib.hid hR
   replace hmut:=Lib.hid hmut
   go_wp2_with fail
   refine qk.mono ?_
   rintro e w7 ⟨bk,v7,rfl,hcl,hmem,_,ho7,hS7⟩
   have ho7':=own_cast ho7 (show _ = 1 by rw [List.length_map,hkn.out]) rfl
   obtain ⟨g7,c7,rfl,hg7⟩:=own_at ho7' (by omega)
   obtain ⟨csq,hqb'⟩:=hqb.out
   have hqb7:=RunG.box hqb' (by decide) (by decide) hR.out hS7
   have hbr7:=RunG.box hbr6.out (by decide) (by decide) hR.out hS7
   have hbz7:=RunG.box hbz6.out (by decide) (by decide) hR.out hS7
   have hsf7:∀ j u,(ks.map Res.v)[j]? = some u→w7.cell? ⟨x+2+1,j,none⟩ = some u:=fun j u hj=>(World.cell?_of_block (a:=⟨x+2+1,j,none⟩) (hqb7.trans hqb'.symm)).trans (hsf.out j u hj)
   obtain ⟨h7,hbe7⟩:=h6.out.next hB.out hR.out hmut.out hS7
   have hbel7:=hbel6.out.trans hbe7
   have hcl7:=ho7'.cells (g:=g7) rfl
   have hoA:(w7.alloc (.cells #[.int .i64 0,.int .i64 1] 3)).ownsRow wa.heap.size 3 1 (.slice (some ⟨w7.heap.size,0,none⟩) 2 2) 2 [.int .i64 0,.int .i64 1]:=World.ownsRow_lit w7 #[.int .i64 0,.int .i64 1] 2 h7.sz (by unfold maxLen;omega) rfl
   have b7a:=(Below.refl w7.heap.size w7).alloc (Nat.le_refl _) (.cells #[.int .i64 0,.int .i64 1] 3)
   have hcl7a:∀ j u,(((ks.map Res.n).map (L.rankN bk)).map encI)[j]? = some u→(w7.alloc (.cells #[.int .i64 0,.int .i64 1] 3)).cell? ((⟨g7,0,none⟩:Addr).add j) = some u:=fun j u hj=>(b7a.cell (World.block_lt_of_cell? w7 _ (hcl7 j u hj))).trans (hcl7 j u hj)
   obtain ⟨z0,z1,z2,z3⟩:=box4 hbr7
   have hsz7:=h7.sz
   replace h7:=Lib.hid h7
   replace hbel7:=Lib.hid hbel7
   replace hbr7:=Lib.hid hbr7
   replace hbz7:=Lib.hid hbz7
   replace hqb7:=Lib.hid hqb7
   replace hsf7:=Lib.hid hsf7
   replace hcl:=Lib.hid hcl
   replace hmem:=Lib.hid hmem
   replace hcl7a:=Lib.hid hcl7a
   clear qk c0 c1 c2 c3 ho7 ho7' hS7 hqb' hbe7 hcl7 hR hmut hB h6 hbr6 hbz6 hbel6 hqb hsf hsa
   clear hHeld
   go_wp2_with (at_builtin;first
    | (refine wpList_append_own _ rfl _ _ 32 rfl wa.heap.size 3 i0 (.int .i64 0) 1 8 Tryz.underlying32 hi0 hz0 hz1 hz2 rfl (by decide) _ _ _ rfl hoA ⟨g7,0,none⟩ 1 c7 (((ks.map Res.n).map (L.rankN bk)).map encI) rfl (by simp [hkn.out]) hcl7a.out (fun u hu=>by obtain ⟨z,_,rfl⟩:=List.mem_map.1 hu;rfl) (by unfold maxLen;omega) (by omega) (by simp;omega) ?_
       intro v8 w8 ho8 hg8 _
       obtain ⟨g8,p8,rfl,hg8N⟩:=own_at ho8 (by omega)
       have hb8:Below w7.heap.size w7 w8:=Below.grown b7a hg8 b7a.size (fun k e=>Nat.le_of_eq (Option.some.inj e))
       have h8:=(h7.out.below hb8).swapA (own_cast ho8 (by simp [hkn.out] <;> omega) rfl)
       have hbr8:=(hb8.block x (Array.getElem?_eq_some_iff.1 hbr7.out).1).trans hbr7.out
       have hbz8:=(hb8.block (x+1) (Array.getElem?_eq_some_iff.1 hbz7.out).1).trans hbz7.out
       have hsf8:∀ j u,(ks.map Res.v)[j]? = some u→w8.cell? ⟨x+2+1,j,none⟩ = some u:=fun j u hj=>(hb8.cell (World.block_lt_of_cell? w7 _ (hsf7.out j u hj))).trans (hsf7.out j u hj)
       have hqb8:=(hb8.block (x+2+1) (Array.getElem?_eq_some_iff.1 hqb7.out).1).trans hqb7.out
       have hbel8:=hbel7.out.trans (hb8.mono hsz7)
       obtain ⟨y0,y1,y2,y3⟩:=box4 hbr8
       have hz8:w8.frozen? ⟨x,1,none⟩ = false:=by simp [World.frozen?,hbr8]
       have h9:=Lib.hid (h8.turn (w':=w8.setCell ⟨x,1,none⟩ (.slice (some ⟨g8,0,none⟩) (2+1) p8)) hbr8 hNx (fun p hp=>by have:=hnb.out p hp;omega) (by decide) (by decide) (by decide) (by decide) (by decide) (by decide) (by decide) (by simp) (fun k hk _=>heap_set_ne _ _ hk))
       have hbr9:Hid ((w8.setCell ⟨x,1,none⟩ (.slice (some ⟨g8,0,none⟩) (2+1) p8)).heap[x]? = some (.cells #[.pointer (some ⟨sb,0,none⟩),.slice (some ⟨g8,0,none⟩) (2+1) p8,.slice (some ⟨gf,0,none⟩) m cf,.bool false] 35 (0,0))):=Lib.hid (heap_set hbr8 1 _)
       have hbz9:Hid ((w8.setCell ⟨x,1,none⟩ (.slice (some ⟨g8,0,none⟩) (2+1) p8)).heap[x+1]? = some (.cells #[.pointer none,.slice none 0 0,.slice none 0 0,.bool false] 35 (0,0))):=Lib.hid ((heap_set_ne _ _ (by omega)).trans hbz8)
       have hbel9:Hid (Below wa.heap.size wa (w8.setCell ⟨x,1,none⟩ (.slice (some ⟨g8,0,none⟩) (2+1) p8))):=Lib.hid (hbel8.setCell hNx _)
       have hqx:(x+2+1)≠x:=fun e=>by rw [e,hbr8] at hqb8;simp at hqb8
       have hsf9:Hid (∀ j u,(ks.map Res.v)[j]? = some u→(w8.setCell ⟨x,1,none⟩ (.slice (some ⟨g8,0,none⟩) (2+1) p8)).cell? ⟨x+2+1,j,none⟩ = some u):=Lib.hid fun j u hj=>(World.cell?_of_block (a:=⟨x+2+1,j,none⟩) (heap_set_ne _ _ hqx)).trans (hsf8 j u hj)
       clear hb8 h8 hbz8 hsf8 hqb8 hbel8 ho8 hg8 hqx))
   clear h7 hbel7 hbr7 hbz7 hqb7 hsf7 hcl7a hoA b7a z0 z1 z2 z3 y0 y1 y2 y3 hz8 hbr8
   generalize w8.setCell ⟨x,1,none⟩ (.slice (some ⟨g8,0,none⟩) (2+1) p8) = w9 at *
   have ofr:=own_cast h9.out.of (show _ = m by rw [List.length_map,←hm.out]) rfl
   have e0:w9.cell? ⟨gf,0,none⟩ = some (.slice (some ⟨gq0,0,none⟩) lq0 cq0):=own_cellAt ofr (by rw [List.getElem?_map,hg0.out,←hq0.out];rfl)
   have e1:w9.cell? ⟨gf,1,none⟩ = some (.slice (some ⟨gq1,0,none⟩) lq1 cq1):=own_cellAt ofr (by rw [List.getElem?_map,hg1.out,←hq1.out];rfl)
   have hoF:((w9.alloc (.cells #[.slice (some ⟨gq0,0,none⟩) lq0 cq0,.slice (some ⟨gq1,0,none⟩) lq1 cq1] 43)).drew).ownsRow wa.heap.size 43 1 (.slice (some ⟨w9.heap.size,0,none⟩) 2 2) 2 [.slice (some ⟨gq0,0,none⟩) lq0 cq0,.slice (some ⟨gq1,0,none⟩) lq1 cq1]:=World.ownsRow_lit w9 #[.slice (some ⟨gq0,0,none⟩) lq0 cq0,.slice (some ⟨gq1,0,none⟩) lq1 cq1] 2 h9.out.sz (by unfold maxLen;omega) rfl
   have b9b:=(Below.refl w9.heap.size w9).alloc (Nat.le_refl _) (.cells #[.slice (some ⟨gq0,0,none⟩) lq0 cq0,.slice (some ⟨gq1,0,none⟩) lq1 cq1] 43)
   have b9a:Below w9.heap.size w9 (w9.alloc (.cells #[.slice (some ⟨gq0,0,none⟩) lq0 cq0,.slice (some ⟨gq1,0,none⟩) lq1 cq1] 43)).drew:=b9b.trans ((Below.refl _ _).drew.mono b9b.size)
   clear b9b
   have hsf9a:Hid (∀ j u,(ks.map Res.v)[j]? = some u→(w9.alloc (.cells #[.slice (some ⟨gq0,0,none⟩) lq0 cq0,.slice (some ⟨gq1,0,none⟩) lq1 cq1] 43)).drew.cell? ((⟨x+2+1,0,none⟩:Addr).add j) = some u):=Lib.hid fun j u hj=>by
    rw [Addr.add_lit,Nat.zero_add]
    exact (b9a.cell (World.block_lt_of_cell? w9 _ (hsf9.out j u hj))).trans (hsf9.out j u hj)
   have hsz9:=h9.out.sz
   have h1v:∀ u∈ks.map Res.v,u.oneCell' = true:=fun u hu=>by
    obtain ⟨r,hr,rfl⟩:=List.mem_map.1 hu
    obtain ⟨g,c,_,e,_⟩:=h9.out.tab (r.v,r.f) (List.mem_map.2 ⟨r,hks.out r hr,rfl⟩)
    rw [show r.v = _ from e];rfl
   obtain ⟨z0,z1,z2,z3⟩:=box4 hbr9.out
   replace b9a:=Lib.hid b9a
   clear ofr hsf9
   go_wp2_with fail
   (refine wp_region_held_drew (S:=(fun _=>True)) (by kernel_rfl) ?_ (fun hHeld=>?_))
   ·trivial
   (refine takeL (i:=0) (v:=?_) rfl (by kernel_rfl) (by kernel_rfl) (by kernel_rfl) (fun _ _ _ h=>h) (Or.inl ⟨by rfl,?_⟩) (by assumption) ?_)
   rotate_left
   ·(intro w hSw;(try dsimp only at hSw);go_simp;first | done | with_reducible rfl)
   (try simp only [Act.put,List.setIfInBounds_toArray,List.set_cons_zero,List.set_cons_succ])
   (refine takeL (i:=4) (v:=?_) rfl (by kernel_rfl) (by kernel_rfl) (by kernel_rfl) (fun _ _ _ h=>h) (Or.inl ⟨by rfl,?_⟩) (by assumption) ?_)
   rotate_left
   ·(intro w hSw;(try dsimp only at hSw);go_simp;first | done | with_reducible rfl)
   (try simp only [Act.put,List.setIfInBounds_toArray,List.set_cons_zero,List.set_cons_succ])
   (refine takeL (i:=9) (v:=?_) rfl (by kernel_rfl) (by kernel_rfl) (by kernel_rfl) (fun _ _ _ h=>h) (Or.inl ⟨by rfl,?_⟩) (by assumption) ?_)
   rotate_left
   ·(intro w hSw;(try dsimp only at hSw);go_simp;first | done | with_reducible rfl)
   (try simp only [Act.put,List.setIfInBounds_toArray,List.set_cons_zero,List.set_cons_succ])
   (refine wpAnyH_ready (rs:=[1,5]) (by kernel_rfl) (by simp) ?_)
   (refine consL2 rfl rfl (fun K hK=>?_) (fun K hK=>?_))
   (rw [if_pos (by rfl)])
   go_simp
   (refine hK.out _ _ trivial (fun hT=>?_))
   (clear hT hK K)
   (try simp only [Act.put,List.setIfInBounds_toArray,List.set_cons_zero,List.set_cons_succ])
   (refine takeL (i:=2) (v:=?_) rfl (by kernel_rfl) (by kernel_rfl) (by kernel_rfl) (fun _ _ _ h=>h) (Or.inl ⟨by rfl,?_⟩) (by assumption) ?_)
   rotate_left
   ·(intro w hSw;(try dsimp only at hSw);go_simp;first | done | with_reducible rfl)
   (try simp only [Act.put,List.setIfInBounds_toArray,List.set_cons_zero,List.set_cons_succ])
   (refine wpAnyH_ready (rs:=[3,5]) (by kernel_rfl) (by simp) ?_)
   (refine consL2 rfl rfl (fun K hK=>?_) (fun K hK=>?_))
   (rw [if_pos (by rfl)])
   go_simp
   (refine hK.out _ _ trivial (fun hT=>?_))
   (clear hT hK K)
   (try simp only [Act.put,List.setIfInBounds_toArray,List.set_cons_zero,List.set_cons_succ])
   (refine wpAnyH_ready (rs:=[5]) (by kernel_rfl) (by simp) ?_)
   (refine consL rfl (fun K hK=>?_))
   (rw [if_pos (by rfl)])
   go_simp
   (refine hK.out _ _ trivial (fun hT=>?_))
   (clear hT hK K)
   (try simp only [Act.put,List.setIfInBounds_toArray,List.set_cons_zero,List.set_cons_succ])
   (refine takeL (i:=6) (v:=?_) rfl (by kernel_rfl) (by kernel_rfl) (by kernel_rfl) (fun _ _ _ h=>h) (Or.inl ⟨by rfl,?_⟩) (by assumption) ?_)
   rotate_left
   ·(intro w hSw;(try dsimp only at hSw);go_simp;first | done | with_reducible rfl)
   (try simp only [Act.put,List.setIfInBounds_toArray,List.set_cons_zero,List.set_cons_succ])
   (refine wpAnyH_ready (rs:=[7]) (by kernel_rfl) (by simp) ?_)
   (refine consL rfl (fun K hK=>?_))
   (rw [if_pos (by rfl)])
   go_simp
   (refine hK.out _ _ trivial (fun hT=>?_))
   (clear hT hK K)
   (try simp only [Act.put,List.setIfInBounds_toArray,List.set_cons_zero,List.set_cons_succ])
   refine ?hRest3
   rotate_left
   (rw [if_pos (by rfl)])
   go_simp
   (refine hK.out _ _ trivial (fun hT=>?_))
   (clear hT hK K)
   (try simp only [Act.put,List.setIfInBounds_toArray,List.set_cons_zero,List.set_cons_succ])
   (refine takeL (i:=6) (v:=?_) rfl (by kernel_rfl) (by kernel_rfl) (by kernel_rfl) (fun _ _ _ h=>h) (Or.inl ⟨by rfl,?_⟩) (by assumption) ?_)
   rotate_left
   ·(intro w hSw;(try dsimp only at hSw);go_simp;first | done | with_reducible rfl)
   (try simp only [Act.put,List.setIfInBounds_toArray,List.set_cons_zero,List.set_cons_succ])
   (refine wpAnyH_ready (rs:=[3,7]) (by kernel_rfl) (by simp) ?_)
   (refine consL2 rfl rfl (fun K hK=>?_) (fun K hK=>?_))
   (rw [if_pos (by rfl)])
   go_simp
   (refine hK.out _ _ trivial (fun hT=>?_))
   (clear hT hK K)
   (try simp only [Act.put,List.setIfInBounds_toArray,List.set_cons_zero,List.set_cons_succ])
   (refine wpAnyH_ready (rs:=[7]) (by kernel_rfl) (by simp) ?_)
   (refine consL rfl (fun K hK=>?_))
   (rw [if_pos (by rfl)])
   go_simp
   (refine hK.out _ _ trivial (fun hT=>?_))
   (clear hT hK K)
   (try simp only [Act.put,List.setIfInBounds_toArray,List.set_cons_zero,List.set_cons_succ])
   exact ?hRest3
   (rw [if_pos (by rfl)])
   go_simp
   (refine hK.out _ _ trivial (fun hT=>?_))
   (clear hT hK K)
   (try simp only [Act.put,List.setIfInBounds_toArray,List.set_cons_zero,List.set_cons_succ])
   (refine wpAnyH_ready (rs:=[3]) (by kernel_rfl) (by simp) ?_)
   (refine consL rfl (fun K hK=>?_))
   (rw [if_pos (by rfl)])
   go_simp
   (refine hK.out _ _ trivial (fun hT=>?_))
   (clear hT hK K)
   (try simp only [Act.put,List.setIfInBounds_toArray,List.set_cons_zero,List.set_cons_succ])
   exact ?hRest3
   (rw [if_pos (by rfl)])
   go_simp
   (refine hK.out _ _ trivial (fun hT=>?_))
   (clear hT hK K)
   (try simp only [Act.put,List.setIfInBounds_toArray,List.set_cons_zero,List.set_cons_succ])
   (refine takeL (i:=6) (v:=?_) rfl (by kernel_rfl) (by kernel_rfl) (by kernel_rfl) (fun _ _ _ h=>h) (Or.inl ⟨by rfl,?_⟩) (by assumption) ?_)
   rotate_left
   ·(intro w hSw;(try dsimp only at hSw);go_simp;first | done | with_reducible rfl)
   (try simp only [Act.put,List.setIfInBounds_toArray,List.set_cons_zero,List.set_cons_succ])
   (refine wpAnyH_ready (rs:=[1,7]) (by kernel_rfl) (by simp) ?_)
   (refine consL2 rfl rfl (fun K hK=>?_) (fun K hK=>?_))
   (rw [if_pos (by rfl)])
   go_simp
   (refine hK.out _ _ trivial (fun hT=>?_))
   (clear hT hK K)
   (try simp only [Act.put,List.setIfInBounds_toArray,List.set_cons_zero,List.set_cons_succ])
   (refine takeL (i:=2) (v:=?_) rfl (by kernel_rfl) (by kernel_rfl) (by kernel_rfl) (fun _ _ _ h=>h) (Or.inl ⟨by rfl,?_⟩) (by assumption) ?_)
   rotate_left
   ·(intro w hSw;(try dsimp only at hSw);go_simp;first | done | with_reducible rfl)
   (try simp only [Act.put,List.setIfInBounds_toArray,List.set_cons_zero,List.set_cons_succ])
   (refine wpAnyH_ready (rs:=[3,7]) (by kernel_rfl) (by simp) ?_)
   (refine consL2 rfl rfl (fun K hK=>?_) (fun K hK=>?_))
   (rw [if_pos (by rfl)])
   go_simp
   (refine hK.out _ _ trivial (fun hT=>?_))
   (clear hT hK K)
   (try simp only [Act.put,List.setIfInBounds_toArray,List.set_cons_zero,List.set_cons_succ])
   (refine wpAnyH_ready (rs:=[7]) (by kernel_rfl) (by simp) ?_)
   (refine consL rfl (fun K hK=>?_))
   (rw [if_pos (by rfl)])
   go_simp
   (refine hK.out _ _ trivial (fun hT=>?_))
   (clear hT hK K)
   (try simp only [Act.put,List.setIfInBounds_toArray,List.set_cons_zero,List.set_cons_succ])
   exact ?hRest3
   (rw [if_pos (by rfl)])
   go_simp
   (refine hK.out _ _ trivial (fun hT=>?_))
   (clear hT hK K)
   (try simp only [Act.put,List.setIfInBounds_toArray,List.set_cons_zero,List.set_cons_succ])
   (refine wpAnyH_ready (rs:=[3]) (by kernel_rfl) (by simp) ?_)
   (refine consL rfl (fun K hK=>?_))
   (rw [if_pos (by rfl)])
   go_simp
   (refine hK.out _ _ trivial (fun hT=>?_))
   (clear hT hK K)
   (try simp only [Act.put,List.setIfInBounds_toArray,List.set_cons_zero,List.set_cons_succ])
   exact ?hRest3
   (rw [if_pos (by rfl)])
   go_simp
   (refine hK.out _ _ trivial (fun hT=>?_))
   (clear hT hK K)
   (try simp only [Act.put,List.setIfInBounds_toArray,List.set_cons_zero,List.set_cons_succ])
   (refine wpAnyH_ready (rs:=[1]) (by kernel_rfl) (by simp) ?_)
   (refine consL rfl (fun K hK=>?_))
   (rw [if_pos (by rfl)])
   go_simp
   (refine hK.out _ _ trivial (fun hT=>?_))
   (clear hT hK K)
   (try simp only [Act.put,List.setIfInBounds_toArray,List.set_cons_zero,List.set_cons_succ])
   (refine takeL (i:=2) (v:=?_) rfl (by kernel_rfl) (by kernel_rfl) (by kernel_rfl) (fun _ _ _ h=>h) (Or.inl ⟨by rfl,?_⟩) (by assumption) ?_)
   rotate_left
   ·(intro w hSw;(try dsimp only at hSw);go_simp;first | done | with_reducible rfl)
   (try simp only [Act.put,List.setIfInBounds_toArray,List.set_cons_zero,List.set_cons_succ])
   (refine wpAnyH_ready (rs:=[3]) (by kernel_rfl) (by simp) ?_)
   (refine consL rfl (fun K hK=>?_))
   (rw [if_pos (by rfl)])
   go_simp
   (refine hK.out _ _ trivial (fun hT=>?_))
   (clear hT hK K)
   (try simp only [Act.put,List.setIfInBounds_toArray,List.set_cons_zero,List.set_cons_succ])
   exact ?hRest3
   (refine wpAnyH_ready (rs:=[8]) (by kernel_rfl) (by simp) ?_)
   (refine consL rfl (fun K hK=>?_))
   ((rw [if_pos (by rfl)]);go_simp;(refine hK.out _ _ trivial (fun hT=>?_));clear hT)
   (clear hK K)
   (try simp only [Act.put,List.setIfInBounds_toArray,List.set_cons_zero,List.set_cons_succ])
   (refine wpAnyH_ready (rs:=[10]) (by kernel_rfl) (by simp) ?_)
   (refine consL rfl (fun K hK=>?_))
   ((rw [if_pos (by rfl)]);refine wp_append_own _ _ _ 33 rfl wa.heap.size 43 j0 (.slice none 0 0) 1 24 Tryz.underlying33 hj0 hzj0 hzj1 hzj2 rfl (by decide) _ _ _ rfl hoF ⟨x+2+1,0,none⟩ 1 1 (ks.map Res.v) rfl (by simp [hkn.out]) hsf9a.out h1v (by unfold maxLen;omega) (by omega) (by simp;omega) ?_;intro v10 w10 ho10 hg10 _;(refine hK.out _ _ trivial (fun hT=>?_));clear hT)
   (clear hK K)
   (try simp only [Act.put,List.setIfInBounds_toArray,List.set_cons_zero,List.set_cons_succ])
   obtain ⟨g10,p10,rfl,hg10N⟩:=own_at ho10 (by omega)
   have hb10:Below w9.heap.size w9 w10:=Below.grown b9a.out hg10 b9a.out.size (fun k e=>Nat.le_of_eq (Option.some.inj e))
   have hbr10:=(hb10.block x (Array.getElem?_eq_some_iff.1 hbr9.out).1).trans hbr9.out
   have hbz10:=(hb10.block (x+1) (Array.getElem?_eq_some_iff.1 hbz9.out).1).trans hbz9.out
   have h10:=Lib.hid ((h9.out.below hb10).swapF (own_cast ho10 (by simp [hkn.out] <;> omega) rfl))
   have hbel10:=Lib.hid (hbel9.out.trans (hb10.mono hsz9))
   obtain ⟨y0,y1,y2,y3⟩:=box4 hbr10
   obtain ⟨u0,u1,u2,u3⟩:=box4 hbz10
   have fz:w10.frozen? ⟨x,2,none⟩ = false:=by simp [World.frozen?,hbr10]
   have f0:w10.frozen? ⟨x+1,0,none⟩ = false:=by simp [World.frozen?,hbz10]
   have f1:w10.frozen? ⟨x+1,1,none⟩ = false:=by simp [World.frozen?,hbz10]
   have f2:w10.frozen? ⟨x+1,2,none⟩ = false:=by simp [World.frozen?,hbz10]
   have f3:w10.frozen? ⟨x+1,3,none⟩ = false:=by simp [World.frozen?,hbz10]
   replace hbr10:=Lib.hid hbr10
   replace hbz10:=Lib.hid hbz10
   clear h9 hbel9 hbr9 hbz9 hb10 hoF hsf9a h1v b9a ho10 hg10 z0 z1 z2 z3 e0 e1 hHeld
   have hT:True:=trivial
   (refine takeL (i:=11) (v:=?_) rfl (by kernel_rfl) (by kernel_rfl) (by kernel_rfl) (fun _ _ _ h=>h) (Or.inl ⟨by rfl,?_⟩) (by assumption) ?_)
   rotate_left
   ·(intro w hSw;(try dsimp only at hSw);go_simp;first | done | with_reducible rfl)
   (try simp only [Act.put,List.setIfInBounds_toArray,List.set_cons_zero,List.set_cons_succ])
   clear hT
   (refine wpAnyH_ready (rs:=[12]) (by kernel_rfl) (by simp) ?_)
   (refine consL rfl (fun K hK=>?_))
   ((rw [if_pos (by rfl)]);go_simp;(refine hK.out _ _ trivial (fun hT=>?_));clear hT)
   (clear hK K)
   (try simp only [Act.put,List.setIfInBounds_toArray,List.set_cons_zero,List.set_cons_succ])
   (refine wpAnyH_done (by kernel_rfl) ?_ _)
   go_wp2_with fail
   obtain ⟨h11,hb11,e0,e1,e2,e3⟩:=run_closeAt 2 h10.out hbr10.out hbz10.out (by omega) hNx (by omega) (fun p hp=>by have:=hnb.out p hp;omega) (fun p hp=>by have:=hnb.out p hp;omega) (.slice (some ⟨g10,0,none⟩) (2+1) p10) (.pointer (some ⟨sb,0,none⟩)) (.slice (some ⟨g8,0,none⟩) (2+1) p8) (.slice (some ⟨g10,0,none⟩) (2+1) p10) (.bool false) rfl
   obtain ⟨rs',hrs'⟩:∃ rs',rs' = kept bk r0 :: kept bk r1 :: ks.map (kept bk):=⟨_,rfl⟩
   have hmm:∀ r∈rs',∃ r'∈rs,r = kept bk r'∧r'.n∈bk:=fun r hr=>by
    rw [hrs'] at hr
    rcases List.mem_cons.1 hr with rfl | hr
    ·exact ⟨r0,List.mem_of_getElem? hg0.out,rfl,by rw [hr0];exact hcl.out.mem0⟩
    ·rcases List.mem_cons.1 hr with rfl | hr
     ·exact ⟨r1,List.mem_of_getElem? hg1.out,rfl,by rw [hr1];exact hcl.out.mem1⟩
     ·obtain ⟨r',hr',rfl⟩:=List.mem_map.1 hr
      exact ⟨r',hks.out r' hr',rfl,hmem.out _ (List.mem_map.2 ⟨r',hr',rfl⟩)⟩
   have eA:[Value.int .i64 0,Value.int .i64 1]++((ks.map Res.n).map (L.rankN bk)).map encI = (rs'.map fun r=>encI r.n):=by
    rw [hrs'];simp [kept,hr0,hr1,hcl.out.rank0,hcl.out.rank1,encI,Function.comp_def]
   have eF:[Value.slice (some ⟨gq0,0,none⟩) lq0 cq0,Value.slice (some ⟨gq1,0,none⟩) lq1 cq1]++ks.map Res.v = rs'.map Res.v:=by
    rw [hrs'];simp [kept,hq0.out,hq1.out,Function.comp_def]
   rw [eA,eF] at h11
   refine bodyPost_ret (v:=.agg #[.pointer (some ⟨sb,0,none⟩),.slice (some ⟨g8,0,none⟩) (2+1) p8,.slice (some ⟨g10,0,none⟩) (2+1) p10,.bool false]) (by simp [results,Tryz.results57,go_sem,e0,e1,e2,e3]) rfl ⟨_,_,L.keepS s bk,rs',rfl,⟨h11.tabs (fun p hp=>?_),hb11 _ hbel10.out,fun r hr=>?_,?_⟩,?_⟩
   ·obtain ⟨r,hr,rfl⟩:=List.mem_map.1 hp
    obtain ⟨r',hr',rfl,_⟩:=hmm r hr
    exact h11.tab (r'.v,r'.f) (List.mem_map.2 ⟨r',hr',rfl⟩)
   ·obtain ⟨r',hr',rfl,hn⟩:=hmm r hr
    exact ⟨(hok.out r' hr').1.keep hinv.out hcl.out hn,(hok.out r' hr').2⟩
   ·exact ⟨_,_,_,hrs',by show L.rankN bk r0.n = 0;rw [hr0];exact hcl.out.rank0,by show L.rankN bk r1.n = 1;rw [hr1];exact hcl.out.rank1⟩
   ·have:=hm.out
    rw [hrs'];simp [hkn.out];omega
 ·(rw [if_pos (by rfl)])
  go_simp
  have B1:=(Below.refl w3.heap.size w3).alloc (Nat.le_refl _) (.cells #[.slice (some ⟨gr,0,none⟩) lr cr] 43)
  (refine hK.out _ _ ⟨(B1.cell (World.block_lt_of_cell? _ _ c1)).trans c1,(B1.cell (World.block_lt_of_cell? _ _ c2)).trans c2,(B1.cell (World.block_lt_of_cell? _ _ ca4)).trans ca4,(B1.cell (World.block_lt_of_cell? _ _ cf4)).trans cf4⟩ (fun hHeld=>?_))
  clear hK K
  (try simp only [Act.put,List.setIfInBounds_toArray,List.set_cons_zero,List.set_cons_succ])
  have B2:=B1.alloc B1.size (.cells #[.int .i64 (ra.n:Nat)] 3)
  (refine wpAnyH_ready (rs:=[5]) (by kernel_rfl) (by simp) ?_)
  (refine consL rfl (fun K hK=>?_))
  ((rw [if_pos (by rfl)]);go_simp;refine hK.out _ _ ⟨(B2.cell (World.block_lt_of_cell? _ _ c1)).trans c1,(B2.cell (World.block_lt_of_cell? _ _ c2)).trans c2,(B2.cell (World.block_lt_of_cell? _ _ ca4)).trans ca4,(B2.cell (World.block_lt_of_cell? _ _ cf4)).trans cf4⟩ (fun hHeld=>?_))
  (clear hK K)
  (try simp only [Act.put,List.setIfInBounds_toArray,List.set_cons_zero,List.set_cons_succ])
  (refine takeL (i:=12) (v:=?_) rfl (by kernel_rfl) (by kernel_rfl) (by kernel_rfl) (fun _ _ _ h=>h) (Or.inl ⟨by rfl,?_⟩) (by assumption) ?_)
  rotate_left
  ·(intro w hSw;(try dsimp only at hSw);go_simp;first | done | with_reducible rfl)
  (try simp only [Act.put,List.setIfInBounds_toArray,List.set_cons_zero,List.set_cons_succ])
  (refine takeL (i:=13) (v:=?_) rfl (by kernel_rfl) (by kernel_rfl) (by kernel_rfl) (fun _ _ _ h=>h) (Or.inl ⟨by rfl,?_⟩) (by assumption) ?_)
  rotate_left
  ·(intro w hSw;(try dsimp only at hSw);go_simp;first | done | with_reducible rfl)
  (try simp only [Act.put,List.setIfInBounds_toArray,List.set_cons_zero,List.set_cons_succ])
  (refine wpAnyH_done (by kernel_rfl) ?_ _)
  obtain ⟨hb6',hp6',hq6',hs6'⟩:=two_allocs w3 #[.slice (some ⟨gr,0,none⟩) lr cr] #[.int .i64 (ra.n:Nat)] 43 3 hx3 rfl
  have hb6:Below w3.heap.size w3 ((w3.alloc (.cells #[.slice (some ⟨gr,0,none⟩) lr cr] 43)).alloc (.cells #[.int .i64 (ra.n:Nat)] 3)).drew:=hb6'.trans ((Below.refl _ _).drew.mono hb6'.size)
  have hq6:((w3.alloc (.cells #[.slice (some ⟨gr,0,none⟩) lr cr] 43)).alloc (.cells #[.int .i64 (ra.n:Nat)] 3)).drew.heap[x+2]? = _:=hp6'
  have hp6:((w3.alloc (.cells #[.slice (some ⟨gr,0,none⟩) lr cr] 43)).alloc (.cells #[.int .i64 (ra.n:Nat)] 3)).drew.heap[x+2+1]? = _:=hq6'
  have c1':=(B2.cell (World.block_lt_of_cell? _ _ c1)).trans c1
  have c2':=(B2.cell (World.block_lt_of_cell? _ _ c2)).trans c2
  generalize hw6:((w3.alloc (.cells #[.slice (some ⟨gr,0,none⟩) lr cr] 43)).alloc (.cells #[.int .i64 (ra.n:Nat)] 3)).drew = w6 at *
  clear B1 B2 hb6' hp6' hq6' hs6' hHeld hw6 c1' c2'
  have h6:=Lib.hid (h3.out.below hb6)
  have hbr6:=Lib.hid ((hb6.block x (by omega)).trans hbr.out)
  have hbz6:=Lib.hid ((hb6.block (x+1) (by omega)).trans hbz.out)
  have hbel6:=Lib.hid (hbel3.out.trans (hb6.mono h3.out.sz))
  clear h3 hbr hbz hbel3 hb6 ca4 cf4 c0 c1 c2 c3
  by_cases hneg:Bz < 0
  ·have d0:decide (Bz < 0) = true:=decide_eq_true hneg
   obtain ⟨c0,c1,c2,c3⟩:=box4 hbr6.out
   have F1:=Lib.hid fun (W:World) (hW:Ext w6 W)=>And.intro (hW.cell c1) (hW.cell c2)
   clear hp6 hq6
   go_wp2_with fail
   (refine wp_region_below (by kernel_rfl) (by kernel_rfl) ?_
    repeat (refine wpQuiet_step (fun K hK=>?_)
            go_simp
            first
             | (refine hK _ ?_;clear hK K)
             | (replace hK:=Lib.hid hK
                apply Exists.intro
                refine ⟨fun wq hq=>?_,hK.out _ ?_⟩
                ·(obtain ⟨f1,f2⟩:=F1.out wq hq)
                 go_simp
                 first
                  | done
                  | rfl
                  | exact ⟨rfl,rfl⟩
                  | done
                clear hK K))
    refine wpQuiet_nil ?_)
   intro w5 hw5
   have hb5:=hw5.below
   replace hbr6:=Lib.hid ((hb5.block x (Array.getElem?_eq_some_iff.1 hbr6.out).1).trans hbr6.out)
   replace hbz6:=Lib.hid ((hb5.block (x+1) (Array.getElem?_eq_some_iff.1 hbz6.out).1).trans hbz6.out)
   replace hbel6:=Lib.hid (hbel6.out.trans (hb5.mono h6.out.sz))
   replace h6:=Lib.hid (h6.out.below hb5)
   have oa5:=own_cast h6.out.oa (show _ = m by rw [List.length_map,←hm.out]) rfl
   have of5:=own_cast h6.out.of (show _ = m by rw [List.length_map,←hm.out]) rfl
   obtain ⟨ks,hke⟩:∃ ks:List Res,ks = rs:=⟨_,rfl⟩
   have hks:Hid (∀ r∈ks,r∈rs):=Lib.hid fun r hr=>by rw [hke] at hr;exact hr
   have hkn:Hid (ks.length = m):=Lib.hid (by rw [hke];exact hm.out.symm)
   have hsa:Hid (∀ j u,(ks.map fun r=>encI r.n)[j]? = some u→w5.cell? ⟨ga,j,none⟩ = some u):=Lib.hid fun j u hj=>by
    rw [hke] at hj
    exact own_cellAt oa5 hj
   have hsf:Hid (∀ j u,(ks.map Res.v)[j]? = some u→w5.cell? ⟨gf,j,none⟩ = some u):=Lib.hid fun j u hj=>by
    rw [hke] at hj
    exact own_cellAt of5 hj
   have hqb:Hid (∃ cs,w5.heap[gf]? = some (.cells cs 43 (0,0))):=Lib.hid (own_lt of5 rfl).2
   clear hke oa5 of5 F1 hb5 hw5 c0 c1 c2 c3
   obtain ⟨B,hB,hR,hmut⟩:=h6.out.sp
   have qk:=keep_v (h6.out.ssAt hR) (kept_slI hkn.out hsa.out (c:=ca)) (by rw [List.length_map,hkn.out];omega) (fun a ha=>by
    obtain ⟨r,hr,rfl⟩:=List.mem_map.1 ha
    exact (hok.out r (hks.out r hr)).1.lt)
   rw [hB] at qk
   obtain ⟨c0,c1,c2,c3⟩:=box4 hbr6.out
   replace hB:=Lib.hid hB
   replace hR:=Lib.hid hR
   replace hmut:=Lib.hid hmut
   go_wp2_with fail
   refine qk.mono ?_
   rintro e w7 ⟨bk,v7,rfl,hcl,hmem,_,ho7,hS7⟩
   have ho7':=own_cast ho7 (show _ = m by rw [List.length_map,hkn.out]) rfl
   obtain ⟨g7,c7,rfl,hg7⟩:=own_at ho7' (by omega)
   obtain ⟨csq,hqb'⟩:=hqb.out
   have hqb7:=RunG.box hqb' (by decide) (by decide) hR.out hS7
   have hbr7:=RunG.box hbr6.out (by decide) (by decide) hR.out hS7
   have hbz7:=RunG.box hbz6.out (by decide) (by decide) hR.out hS7
   have hsf7:∀ j u,(ks.map Res.v)[j]? = some u→w7.cell? ⟨gf,j,none⟩ = some u:=fun j u hj=>(World.cell?_of_block (a:=⟨gf,j,none⟩) (hqb7.trans hqb'.symm)).trans (hsf.out j u hj)
   obtain ⟨h7,hbe7⟩:=h6.out.next hB.out hR.out hmut.out hS7
   have hbel7:=hbel6.out.trans hbe7
   have hcl7:=ho7'.cells (g:=g7) rfl
   have hoA:(w7.alloc (.cells #[.int .i64 0,.int .i64 1] 3)).ownsRow wa.heap.size 3 1 (.slice (some ⟨w7.heap.size,0,none⟩) 2 2) 2 [.int .i64 0,.int .i64 1]:=World.ownsRow_lit w7 #[.int .i64 0,.int .i64 1] 2 h7.sz (by unfold maxLen;omega) rfl
   have b7a:=(Below.refl w7.heap.size w7).alloc (Nat.le_refl _) (.cells #[.int .i64 0,.int .i64 1] 3)
   have hcl7a:∀ j u,(((ks.map Res.n).map (L.rankN bk)).map encI)[j]? = some u→(w7.alloc (.cells #[.int .i64 0,.int .i64 1] 3)).cell? ((⟨g7,0,none⟩:Addr).add j) = some u:=fun j u hj=>(b7a.cell (World.block_lt_of_cell? w7 _ (hcl7 j u hj))).trans (hcl7 j u hj)
   obtain ⟨z0,z1,z2,z3⟩:=box4 hbr7
   have hsz7:=h7.sz
   replace h7:=Lib.hid h7
   replace hbel7:=Lib.hid hbel7
   replace hbr7:=Lib.hid hbr7
   replace hbz7:=Lib.hid hbz7
   replace hqb7:=Lib.hid hqb7
   replace hsf7:=Lib.hid hsf7
   replace hcl:=Lib.hid hcl
   replace hmem:=Lib.hid hmem
   replace hcl7a:=Lib.hid hcl7a
   clear qk c0 c1 c2 c3 ho7 ho7' hS7 hqb' hbe7 hcl7 hR hmut hB h6 hbr6 hbz6 hbel6 hqb hsf hsa
   clear hHeld
   go_wp2_with (at_builtin;first
    | (refine wpList_append_own _ rfl _ _ 32 rfl wa.heap.size 3 i0 (.int .i64 0) 1 8 Tryz.underlying32 hi0 hz0 hz1 hz2 rfl (by decide) _ _ _ rfl hoA ⟨g7,0,none⟩ m c7 (((ks.map Res.n).map (L.rankN bk)).map encI) rfl (by simp [hkn.out]) hcl7a.out (fun u hu=>by obtain ⟨z,_,rfl⟩:=List.mem_map.1 hu;rfl) (by unfold maxLen;omega) (by omega) (by simp;omega) ?_
       intro v8 w8 ho8 hg8 _
       obtain ⟨g8,p8,rfl,hg8N⟩:=own_at ho8 (by omega)
       have hb8:Below w7.heap.size w7 w8:=Below.grown b7a hg8 b7a.size (fun k e=>Nat.le_of_eq (Option.some.inj e))
       have h8:=(h7.out.below hb8).swapA (own_cast ho8 (by simp [hkn.out] <;> omega) rfl)
       have hbr8:=(hb8.block x (Array.getElem?_eq_some_iff.1 hbr7.out).1).trans hbr7.out
       have hbz8:=(hb8.block (x+1) (Array.getElem?_eq_some_iff.1 hbz7.out).1).trans hbz7.out
       have hsf8:∀ j u,(ks.map Res.v)[j]? = some u→w8.cell? ⟨gf,j,none⟩ = some u:=fun j u hj=>(hb8.cell (World.block_lt_of_cell? w7 _ (hsf7.out j u hj))).trans (hsf7.out j u hj)
       have hqb8:=(hb8.block (gf) (Array.getElem?_eq_some_iff.1 hqb7.out).1).trans hqb7.out
       have hbel8:=hbel7.out.trans (hb8.mono hsz7)
       obtain ⟨y0,y1,y2,y3⟩:=box4 hbr8
       have hz8:w8.frozen? ⟨x,1,none⟩ = false:=by simp [World.frozen?,hbr8]
       have h9:=Lib.hid (h8.turn (w':=w8.setCell ⟨x,1,none⟩ (.slice (some ⟨g8,0,none⟩) (2+m) p8)) hbr8 hNx (fun p hp=>by have:=hnb.out p hp;omega) (by decide) (by decide) (by decide) (by decide) (by decide) (by decide) (by decide) (by simp) (fun k hk _=>heap_set_ne _ _ hk))
       have hbr9:Hid ((w8.setCell ⟨x,1,none⟩ (.slice (some ⟨g8,0,none⟩) (2+m) p8)).heap[x]? = some (.cells #[.pointer (some ⟨sb,0,none⟩),.slice (some ⟨g8,0,none⟩) (2+m) p8,.slice (some ⟨gf,0,none⟩) m cf,.bool false] 35 (0,0))):=Lib.hid (heap_set hbr8 1 _)
       have hbz9:Hid ((w8.setCell ⟨x,1,none⟩ (.slice (some ⟨g8,0,none⟩) (2+m) p8)).heap[x+1]? = some (.cells #[.pointer none,.slice none 0 0,.slice none 0 0,.bool false] 35 (0,0))):=Lib.hid ((heap_set_ne _ _ (by omega)).trans hbz8)
       have hbel9:Hid (Below wa.heap.size wa (w8.setCell ⟨x,1,none⟩ (.slice (some ⟨g8,0,none⟩) (2+m) p8))):=Lib.hid (hbel8.setCell hNx _)
       have hqx:(gf)≠x:=fun e=>by rw [e,hbr8] at hqb8;simp at hqb8
       have hsf9:Hid (∀ j u,(ks.map Res.v)[j]? = some u→(w8.setCell ⟨x,1,none⟩ (.slice (some ⟨g8,0,none⟩) (2+m) p8)).cell? ⟨gf,j,none⟩ = some u):=Lib.hid fun j u hj=>(World.cell?_of_block (a:=⟨gf,j,none⟩) (heap_set_ne _ _ hqx)).trans (hsf8 j u hj)
       clear hb8 h8 hbz8 hsf8 hqb8 hbel8 ho8 hg8 hqx))
   clear h7 hbel7 hbr7 hbz7 hqb7 hsf7 hcl7a hoA b7a z0 z1 z2 z3 y0 y1 y2 y3 hz8 hbr8
   generalize w8.setCell ⟨x,1,none⟩ (.slice (some ⟨g8,0,none⟩) (2+m) p8) = w9 at *
   have ofr:=own_cast h9.out.of (show _ = m by rw [List.length_map,←hm.out]) rfl
   have e0:w9.cell? ⟨gf,0,none⟩ = some (.slice (some ⟨gq0,0,none⟩) lq0 cq0):=own_cellAt ofr (by rw [List.getElem?_map,hg0.out,←hq0.out];rfl)
   have e1:w9.cell? ⟨gf,1,none⟩ = some (.slice (some ⟨gq1,0,none⟩) lq1 cq1):=own_cellAt ofr (by rw [List.getElem?_map,hg1.out,←hq1.out];rfl)
   have hoF:((w9.alloc (.cells #[.slice (some ⟨gq0,0,none⟩) lq0 cq0,.slice (some ⟨gq1,0,none⟩) lq1 cq1] 43)).drew).ownsRow wa.heap.size 43 1 (.slice (some ⟨w9.heap.size,0,none⟩) 2 2) 2 [.slice (some ⟨gq0,0,none⟩) lq0 cq0,.slice (some ⟨gq1,0,none⟩) lq1 cq1]:=World.ownsRow_lit w9 #[.slice (some ⟨gq0,0,none⟩) lq0 cq0,.slice (some ⟨gq1,0,none⟩) lq1 cq1] 2 h9.out.sz (by unfold maxLen;omega) rfl
   have b9b:=(Below.refl w9.heap.size w9).alloc (Nat.le_refl _) (.cells #[.slice (some ⟨gq0,0,none⟩) lq0 cq0,.slice (some ⟨gq1,0,none⟩) lq1 cq1] 43)
   have b9a:Below w9.heap.size w9 (w9.alloc (.cells #[.slice (some ⟨gq0,0,none⟩) lq0 cq0,.slice (some ⟨gq1,0,none⟩) lq1 cq1] 43)).drew:=b9b.trans ((Below.refl _ _).drew.mono b9b.size)
   clear b9b
   have hsf9a:Hid (∀ j u,(ks.map Res.v)[j]? = some u→(w9.alloc (.cells #[.slice (some ⟨gq0,0,none⟩) lq0 cq0,.slice (some ⟨gq1,0,none⟩) lq1 cq1] 43)).drew.cell? ((⟨gf,0,none⟩:Addr).add j) = some u):=Lib.hid fun j u hj=>by
    rw [Addr.add_lit,Nat.zero_add]
    exact (b9a.cell (World.block_lt_of_cell? w9 _ (hsf9.out j u hj))).trans (hsf9.out j u hj)
   have hsz9:=h9.out.sz
   have h1v:∀ u∈ks.map Res.v,u.oneCell' = true:=fun u hu=>by
    obtain ⟨r,hr,rfl⟩:=List.mem_map.1 hu
    obtain ⟨g,c,_,e,_⟩:=h9.out.tab (r.v,r.f) (List.mem_map.2 ⟨r,hks.out r hr,rfl⟩)
    rw [show r.v = _ from e];rfl
   obtain ⟨z0,z1,z2,z3⟩:=box4 hbr9.out
   replace b9a:=Lib.hid b9a
   clear ofr hsf9
   go_wp2_with fail
   (refine wp_region_held_drew (S:=(fun _=>True)) (by kernel_rfl) ?_ (fun hHeld=>?_))
   ·trivial
   (refine takeL (i:=0) (v:=?_) rfl (by kernel_rfl) (by kernel_rfl) (by kernel_rfl) (fun _ _ _ h=>h) (Or.inl ⟨by rfl,?_⟩) (by assumption) ?_)
   rotate_left
   ·(intro w hSw;(try dsimp only at hSw);go_simp;first | done | with_reducible rfl)
   (try simp only [Act.put,List.setIfInBounds_toArray,List.set_cons_zero,List.set_cons_succ])
   (refine takeL (i:=4) (v:=?_) rfl (by kernel_rfl) (by kernel_rfl) (by kernel_rfl) (fun _ _ _ h=>h) (Or.inl ⟨by rfl,?_⟩) (by assumption) ?_)
   rotate_left
   ·(intro w hSw;(try dsimp only at hSw);go_simp;first | done | with_reducible rfl)
   (try simp only [Act.put,List.setIfInBounds_toArray,List.set_cons_zero,List.set_cons_succ])
   (refine takeL (i:=9) (v:=?_) rfl (by kernel_rfl) (by kernel_rfl) (by kernel_rfl) (fun _ _ _ h=>h) (Or.inl ⟨by rfl,?_⟩) (by assumption) ?_)
   rotate_left
   ·(intro w hSw;(try dsimp only at hSw);go_simp;first | done | with_reducible rfl)
   (try simp only [Act.put,List.setIfInBounds_toArray,List.set_cons_zero,List.set_cons_succ])
   (refine wpAnyH_ready (rs:=[1,5]) (by kernel_rfl) (by simp) ?_)
   (refine consL2 rfl rfl (fun K hK=>?_) (fun K hK=>?_))
   (rw [if_pos (by rfl)])
   go_simp
   (refine hK.out _ _ trivial (fun hT=>?_))
   (clear hT hK K)
   (try simp only [Act.put,List.setIfInBounds_toArray,List.set_cons_zero,List.set_cons_succ])
   (refine takeL (i:=2) (v:=?_) rfl (by kernel_rfl) (by kernel_rfl) (by kernel_rfl) (fun _ _ _ h=>h) (Or.inl ⟨by rfl,?_⟩) (by assumption) ?_)
   rotate_left
   ·(intro w hSw;(try dsimp only at hSw);go_simp;first | done | with_reducible rfl)
   (try simp only [Act.put,List.setIfInBounds_toArray,List.set_cons_zero,List.set_cons_succ])
   (refine wpAnyH_ready (rs:=[3,5]) (by kernel_rfl) (by simp) ?_)
   (refine consL2 rfl rfl (fun K hK=>?_) (fun K hK=>?_))
   (rw [if_pos (by rfl)])
   go_simp
   (refine hK.out _ _ trivial (fun hT=>?_))
   (clear hT hK K)
   (try simp only [Act.put,List.setIfInBounds_toArray,List.set_cons_zero,List.set_cons_succ])
   (refine wpAnyH_ready (rs:=[5]) (by kernel_rfl) (by simp) ?_)
   (refine consL rfl (fun K hK=>?_))
   (rw [if_pos (by rfl)])
   go_simp
   (refine hK.out _ _ trivial (fun hT=>?_))
   (clear hT hK K)
   (try simp only [Act.put,List.setIfInBounds_toArray,List.set_cons_zero,List.set_cons_succ])
   (refine takeL (i:=6) (v:=?_) rfl (by kernel_rfl) (by kernel_rfl) (by kernel_rfl) (fun _ _ _ h=>h) (Or.inl ⟨by rfl,?_⟩) (by assumption) ?_)
   rotate_left
   ·(intro w hSw;(try dsimp only at hSw);go_simp;first | done | with_reducible rfl)
   (try simp only [Act.put,List.setIfInBounds_toArray,List.set_cons_zero,List.set_cons_succ])
   (refine wpAnyH_ready (rs:=[7]) (by kernel_rfl) (by simp) ?_)
   (refine consL rfl (fun K hK=>?_))
   (rw [if_pos (by rfl)])
   go_simp
   (refine hK.out _ _ trivial (fun hT=>?_))
   (clear hT hK K)
   (try simp only [Act.put,List.setIfInBounds_toArray,List.set_cons_zero,List.set_cons_succ])
   refine ?hRest4
   rotate_left
   (rw [if_pos (by rfl)])
   go_simp
   (refine hK.out _ _ trivial (fun hT=>?_))
   (clear hT hK K)
   (try simp only [Act.put,List.setIfInBounds_toArray,List.set_cons_zero,List.set_cons_succ])
   (refine takeL (i:=6) (v:=?_) rfl (by kernel_rfl) (by kernel_rfl) (by kernel_rfl) (fun _ _ _ h=>h) (Or.inl ⟨by rfl,?_⟩) (by assumption) ?_)
   rotate_left
   ·(intro w hSw;(try dsimp only at hSw);go_simp;first | done | with_reducible rfl)
   (try simp only [Act.put,List.setIfInBounds_toArray,List.set_cons_zero,List.set_cons_succ])
   (refine wpAnyH_ready (rs:=[3,7]) (by kernel_rfl) (by simp) ?_)
   (refine consL2 rfl rfl (fun K hK=>?_) (fun K hK=>?_))
   (rw [if_pos (by rfl)])
   go_simp
   (refine hK.out _ _ trivial (fun hT=>?_))
   (clear hT hK K)
   (try simp only [Act.put,List.setIfInBounds_toArray,List.set_cons_zero,List.set_cons_succ])
   (refine wpAnyH_ready (rs:=[7]) (by kernel_rfl) (by simp) ?_)
   (refine consL rfl (fun K hK=>?_))
   (rw [if_pos (by rfl)])
   go_simp
   (refine hK.out _ _ trivial (fun hT=>?_))
   (clear hT hK K)
   (try simp only [Act.put,List.setIfInBounds_toArray,List.set_cons_zero,List.set_cons_succ])
   exact ?hRest4
   (rw [if_pos (by rfl)])
   go_simp
   (refine hK.out _ _ trivial (fun hT=>?_))
   (clear hT hK K)
   (try simp only [Act.put,List.setIfInBounds_toArray,List.set_cons_zero,List.set_cons_succ])
   (refine wpAnyH_ready (rs:=[3]) (by kernel_rfl) (by simp) ?_)
   (refine consL rfl (fun K hK=>?_))
   (rw [if_pos (by rfl)])
   go_simp
   (refine hK.out _ _ trivial (fun hT=>?_))
   (clear hT hK K)
   (try simp only [Act.put,List.setIfInBounds_toArray,List.set_cons_zero,List.set_cons_succ])
   exact ?hRest4
   (rw [if_pos (by rfl)])
   go_simp
   (refine hK.out _ _ trivial (fun hT=>?_))
   (clear hT hK K)
   (try simp only [Act.put,List.setIfInBounds_toArray,List.set_cons_zero,List.set_cons_succ])
   (refine takeL (i:=6) (v:=?_) rfl (by kernel_rfl) (by kernel_rfl) (by kernel_rfl) (fun _ _ _ h=>h) (Or.inl ⟨by rfl,?_⟩) (by assumption) ?_)
   rotate_left
   ·(intro w hSw;(try dsimp only at hSw);go_simp;first | done | with_reducible rfl)
   (try simp only [Act.put,List.setIfInBounds_toArray,List.set_cons_zero,List.set_cons_succ])
   (refine wpAnyH_ready (rs:=[1,7]) (by kernel_rfl) (by simp) ?_)
   (refine consL2 rfl rfl (fun K hK=>?_) (fun K hK=>?_))
   (rw [if_pos (by rfl)])
   go_simp
   (refine hK.out _ _ trivial (fun hT=>?_))
   (clear hT hK K)
   (try simp only [Act.put,List.setIfInBounds_toArray,List.set_cons_zero,List.set_cons_succ])
   (refine takeL (i:=2) (v:=?_) rfl (by kernel_rfl) (by kernel_rfl) (by kernel_rfl) (fun _ _ _ h=>h) (Or.inl ⟨by rfl,?_⟩) (by assumption) ?_)
   rotate_left
   ·(intro w hSw;(try dsimp only at hSw);go_simp;first | done | with_reducible rfl)
   (try simp only [Act.put,List.setIfInBounds_toArray,List.set_cons_zero,List.set_cons_succ])
   (refine wpAnyH_ready (rs:=[3,7]) (by kernel_rfl) (by simp) ?_)
   (refine consL2 rfl rfl (fun K hK=>?_) (fun K hK=>?_))
   (rw [if_pos (by rfl)])
   go_simp
   (refine hK.out _ _ trivial (fun hT=>?_))
   (clear hT hK K)
   (try simp only [Act.put,List.setIfInBounds_toArray,List.set_cons_zero,List.set_cons_succ])
   (refine wpAnyH_ready (rs:=[7]) (by kernel_rfl) (by simp) ?_)
   (refine consL rfl (fun K hK=>?_))
   (rw [if_pos (by rfl)])
   go_simp
   (refine hK.out _ _ trivial (fun hT=>?_))
   (clear hT hK K)
   (try simp only [Act.put,List.setIfInBounds_toArray,List.set_cons_zero,List.set_cons_succ])
   exact ?hRest4
   (rw [if_pos (by rfl)])
   go_simp
   (refine hK.out _ _ trivial (fun hT=>?_))
   (clear hT hK K)
   (try simp only [Act.put,List.setIfInBounds_toArray,List.set_cons_zero,List.set_cons_succ])
   (refine wpAnyH_ready (rs:=[3]) (by kernel_rfl) (by simp) ?_)
   (refine consL rfl (fun K hK=>?_))
   (rw [if_pos (by rfl)])
   go_simp
   (refine hK.out _ _ trivial (fun hT=>?_))
   (clear hT hK K)
   (try simp only [Act.put,List.setIfInBounds_toArray,List.set_cons_zero,List.set_cons_succ])
   exact ?hRest4
   (rw [if_pos (by rfl)])
   go_simp
   (refine hK.out _ _ trivial (fun hT=>?_))
   (clear hT hK K)
   (try simp only [Act.put,List.setIfInBounds_toArray,List.set_cons_zero,List.set_cons_succ])
   (refine wpAnyH_ready (rs:=[1]) (by kernel_rfl) (by simp) ?_)
   (refine consL rfl (fun K hK=>?_))
   (rw [if_pos (by rfl)])
   go_simp
   (refine hK.out _ _ trivial (fun hT=>?_))
   (clear hT hK K)
   (try simp only [Act.put,List.setIfInBounds_toArray,List.set_cons_zero,List.set_cons_succ])
   (refine takeL (i:=2) (v:=?_) rfl (by kernel_rfl) (by kernel_rfl) (by kernel_rfl) (fun _ _ _ h=>h) (Or.inl ⟨by rfl,?_⟩) (by assumption) ?_)
   rotate_left
   ·(intro w hSw;(try dsimp only at hSw);go_simp;first | done | with_reducible rfl)
   (try simp only [Act.put,List.setIfInBounds_toArray,List.set_cons_zero,List.set_cons_succ])
   (refine wpAnyH_ready (rs:=[3]) (by kernel_rfl) (by simp) ?_)
   (refine consL rfl (fun K hK=>?_))
   (rw [if_pos (by rfl)])
   go_simp
   (refine hK.out _ _ trivial (fun hT=>?_))
   (clear hT hK K)
   (try simp only [Act.put,List.setIfInBounds_toArray,List.set_cons_zero,List.set_cons_succ])
   exact ?hRest4
   (refine wpAnyH_ready (rs:=[8]) (by kernel_rfl) (by simp) ?_)
   (refine consL rfl (fun K hK=>?_))
   ((rw [if_pos (by rfl)]);go_simp;(refine hK.out _ _ trivial (fun hT=>?_));clear hT)
   (clear hK K)
   (try simp only [Act.put,List.setIfInBounds_toArray,List.set_cons_zero,List.set_cons_succ])
   (refine wpAnyH_ready (rs:=[10]) (by kernel_rfl) (by simp) ?_)
   (refine consL rfl (fun K hK=>?_))
   ((rw [if_pos (by rfl)]);refine wp_append_own _ _ _ 33 rfl wa.heap.size 43 j0 (.slice none 0 0) 1 24 Tryz.underlying33 hj0 hzj0 hzj1 hzj2 rfl (by decide) _ _ _ rfl hoF ⟨gf,0,none⟩ m cf (ks.map Res.v) rfl (by simp [hkn.out]) hsf9a.out h1v (by unfold maxLen;omega) (by omega) (by simp;omega) ?_;intro v10 w10 ho10 hg10 _;(refine hK.out _ _ trivial (fun hT=>?_));clear hT)
   (clear hK K)
   (try simp only [Act.put,List.setIfInBounds_toArray,List.set_cons_zero,List.set_cons_succ])
   obtain ⟨g10,p10,rfl,hg10N⟩:=own_at ho10 (by omega)
   have hb10:Below w9.heap.size w9 w10:=Below.grown b9a.out hg10 b9a.out.size (fun k e=>Nat.le_of_eq (Option.some.inj e))
   have hbr10:=(hb10.block x (Array.getElem?_eq_some_iff.1 hbr9.out).1).trans hbr9.out
   have hbz10:=(hb10.block (x+1) (Array.getElem?_eq_some_iff.1 hbz9.out).1).trans hbz9.out
   have h10:=Lib.hid ((h9.out.below hb10).swapF (own_cast ho10 (by simp [hkn.out] <;> omega) rfl))
   have hbel10:=Lib.hid (hbel9.out.trans (hb10.mono hsz9))
   obtain ⟨y0,y1,y2,y3⟩:=box4 hbr10
   obtain ⟨u0,u1,u2,u3⟩:=box4 hbz10
   have fz:w10.frozen? ⟨x,2,none⟩ = false:=by simp [World.frozen?,hbr10]
   have f0:w10.frozen? ⟨x+1,0,none⟩ = false:=by simp [World.frozen?,hbz10]
   have f1:w10.frozen? ⟨x+1,1,none⟩ = false:=by simp [World.frozen?,hbz10]
   have f2:w10.frozen? ⟨x+1,2,none⟩ = false:=by simp [World.frozen?,hbz10]
   have f3:w10.frozen? ⟨x+1,3,none⟩ = false:=by simp [World.frozen?,hbz10]
   replace hbr10:=Lib.hid hbr10
   replace hbz10:=Lib.hid hbz10
   clear h9 hbel9 hbr9 hbz9 hb10 hoF hsf9a h1v b9a ho10 hg10 z0 z1 z2 z3 e0 e1 hHeld
   have hT:True:=trivial
   (refine takeL (i:=11) (v:=?_) rfl (by kernel_rfl) (by kernel_rfl) (by kernel_rfl) (fun _ _ _ h=>h) (Or.inl ⟨by rfl,?_⟩) (by assumption) ?_)
   rotate_left
   ·(intro w hSw;(try dsimp only at hSw);go_simp;first | done | with_reducible rfl)
   (try simp only [Act.put,List.setIfInBounds_toArray,List.set_cons_zero,List.set_cons_succ])
   clear hT
   (refine wpAnyH_ready (rs:=[12]) (by kernel_rfl) (by simp) ?_)
   (refine consL rfl (fun K hK=>?_))
   ((rw [if_pos (by rfl)]);go_simp;(refine hK.out _ _ trivial (fun hT=>?_));clear hT)
   (clear hK K)
   (try simp only [Act.put,List.setIfInBounds_toArray,List.set_cons_zero,List.set_cons_succ])
   (refine wpAnyH_done (by kernel_rfl) ?_ _)
   go_wp2_with fail
   obtain ⟨h11,hb11,e0,e1,e2,e3⟩:=run_closeAt 2 h10.out hbr10.out hbz10.out (by omega) hNx (by omega) (fun p hp=>by have:=hnb.out p hp;omega) (fun p hp=>by have:=hnb.out p hp;omega) (.slice (some ⟨g10,0,none⟩) (2+m) p10) (.pointer (some ⟨sb,0,none⟩)) (.slice (some ⟨g8,0,none⟩) (2+m) p8) (.slice (some ⟨g10,0,none⟩) (2+m) p10) (.bool false) rfl
   obtain ⟨rs',hrs'⟩:∃ rs',rs' = kept bk r0 :: kept bk r1 :: ks.map (kept bk):=⟨_,rfl⟩
   have hmm:∀ r∈rs',∃ r'∈rs,r = kept bk r'∧r'.n∈bk:=fun r hr=>by
    rw [hrs'] at hr
    rcases List.mem_cons.1 hr with rfl | hr
    ·exact ⟨r0,List.mem_of_getElem? hg0.out,rfl,by rw [hr0];exact hcl.out.mem0⟩
    ·rcases List.mem_cons.1 hr with rfl | hr
     ·exact ⟨r1,List.mem_of_getElem? hg1.out,rfl,by rw [hr1];exact hcl.out.mem1⟩
     ·obtain ⟨r',hr',rfl⟩:=List.mem_map.1 hr
      exact ⟨r',hks.out r' hr',rfl,hmem.out _ (List.mem_map.2 ⟨r',hr',rfl⟩)⟩
   have eA:[Value.int .i64 0,Value.int .i64 1]++((ks.map Res.n).map (L.rankN bk)).map encI = (rs'.map fun r=>encI r.n):=by
    rw [hrs'];simp [kept,hr0,hr1,hcl.out.rank0,hcl.out.rank1,encI,Function.comp_def]
   have eF:[Value.slice (some ⟨gq0,0,none⟩) lq0 cq0,Value.slice (some ⟨gq1,0,none⟩) lq1 cq1]++ks.map Res.v = rs'.map Res.v:=by
    rw [hrs'];simp [kept,hq0.out,hq1.out,Function.comp_def]
   rw [eA,eF] at h11
   refine bodyPost_ret (v:=.agg #[.pointer (some ⟨sb,0,none⟩),.slice (some ⟨g8,0,none⟩) (2+m) p8,.slice (some ⟨g10,0,none⟩) (2+m) p10,.bool false]) (by simp [results,Tryz.results57,go_sem,e0,e1,e2,e3]) rfl ⟨_,_,L.keepS s bk,rs',rfl,⟨h11.tabs (fun p hp=>?_),hb11 _ hbel10.out,fun r hr=>?_,?_⟩,?_⟩
   ·obtain ⟨r,hr,rfl⟩:=List.mem_map.1 hp
    obtain ⟨r',hr',rfl,_⟩:=hmm r hr
    exact h11.tab (r'.v,r'.f) (List.mem_map.2 ⟨r',hr',rfl⟩)
   ·obtain ⟨r',hr',rfl,hn⟩:=hmm r hr
    exact ⟨(hok.out r' hr').1.keep hinv.out hcl.out hn,(hok.out r' hr').2⟩
   ·exact ⟨_,_,_,hrs',by show L.rankN bk r0.n = 0;rw [hr0];exact hcl.out.rank0,by show L.rankN bk r1.n = 1;rw [hr1];exact hcl.out.rank1⟩
   ·have:=hm.out
    rw [hrs'];simp [hkn.out];omega
  ·have d0:decide (Bz < 0) = false:=decide_eq_false hneg
   obtain ⟨ks,hke⟩:∃ ks:List Res,ks = [ra]:=⟨_,rfl⟩
   have hks:Hid (∀ r∈ks,r∈rs):=Lib.hid fun r hr=>by rw [hke] at hr;rw [List.mem_singleton.1 hr];exact List.mem_of_getElem? hra.out
   have hkn:Hid (ks.length = 1):=Lib.hid (by rw [hke];rfl)
   have hsa:Hid (∀ j u,(ks.map fun r=>encI r.n)[j]? = some u→w6.cell? ⟨x+2+1,j,none⟩ = some u):=Lib.hid fun j u hj=>by
    rw [hke] at hj
    match j,hj with
    | 0,hj=>obtain rfl:=Option.some.inj hj;simp [World.cell?,hp6,encI]
   have hsf:Hid (∀ j u,(ks.map Res.v)[j]? = some u→w6.cell? ⟨x+2,j,none⟩ = some u):=Lib.hid fun j u hj=>by
    rw [hke] at hj
    match j,hj with
    | 0,hj=>obtain rfl:=Option.some.inj hj;simp [World.cell?,hq6,hrv.out]
   have hqb:Hid (∃ cs,w6.heap[x+2]? = some (.cells cs 43 (0,0))):=Lib.hid ⟨_,hq6⟩
   clear hp6 hq6 hke
   obtain ⟨B,hB,hR,hmut⟩:=h6.out.sp
   have qk:=keep_v (h6.out.ssAt hR) (kept_slI hkn.out hsa.out (c:=1)) (by rw [List.length_map,hkn.out];omega) (fun a ha=>by
    obtain ⟨r,hr,rfl⟩:=List.mem_map.1 ha
    exact (hok.out r (hks.out r hr)).1.lt)
   rw [hB] at qk
   obtain ⟨c0,c1,c2,c3⟩:=box4 hbr6.out
   replace hB:=Lib.hid hB
   replace hR:=Lib.hid hR
   replace hmut:=Lib.hid hmut
   go_wp2_with fail
   refine qk.mono ?_
   rintro e w7 ⟨bk,v7,rfl,hcl,hmem,_,ho7,hS7⟩
   have ho7':=own_cast ho7 (show _ = 1 by rw [List.length_map,hkn.out]) rfl
   obtain ⟨g7,c7,rfl,hg7⟩:=own_at ho7' (by omega)
   obtain ⟨csq,hqb'⟩:=hqb.out
   have hqb7:=RunG.box hqb' (by decide) (by decide) hR.out hS7
   have hbr7:=RunG.box hbr6.out (by decide) (by decide) hR.out hS7
   have hbz7:=RunG.box hbz6.out (by decide) (by decide) hR.out hS7
   have hsf7:∀ j u,(ks.map Res.v)[j]? = some u→w7.cell? ⟨x+2,j,none⟩ = some u:=fun j u hj=>(World.cell?_of_block (a:=⟨x+2,j,none⟩) (hqb7.trans hqb'.symm)).trans (hsf.out j u hj)
   obtain ⟨h7,hbe7⟩:=h6.out.next hB.out hR.out hmut.out hS7
   have hbel7:=hbel6.out.trans hbe7
   have hcl7:=ho7'.cells (g:=g7) rfl
   have hoA:(w7.alloc (.cells #[.int .i64 0,.int .i64 1] 3)).ownsRow wa.heap.size 3 1 (.slice (some ⟨w7.heap.size,0,none⟩) 2 2) 2 [.int .i64 0,.int .i64 1]:=World.ownsRow_lit w7 #[.int .i64 0,.int .i64 1] 2 h7.sz (by unfold maxLen;omega) rfl
   have b7a:=(Below.refl w7.heap.size w7).alloc (Nat.le_refl _) (.cells #[.int .i64 0,.int .i64 1] 3)
   have hcl7a:∀ j u,(((ks.map Res.n).map (L.rankN bk)).map encI)[j]? = some u→(w7.alloc (.cells #[.int .i64 0,.int .i64 1] 3)).cell? ((⟨g7,0,none⟩:Addr).add j) = some u:=fun j u hj=>(b7a.cell (World.block_lt_of_cell? w7 _ (hcl7 j u hj))).trans (hcl7 j u hj)
   obtain ⟨z0,z1,z2,z3⟩:=box4 hbr7
   have hsz7:=h7.sz
   replace h7:=Lib.hid h7
   replace hbel7:=Lib.hid hbel7
   replace hbr7:=Lib.hid hbr7
   replace hbz7:=Lib.hid hbz7
   replace hqb7:=Lib.hid hqb7
   replace hsf7:=Lib.hid hsf7
   replace hcl:=Lib.hid hcl
   replace hmem:=Lib.hid hmem
   replace hcl7a:=Lib.hid hcl7a
   clear qk c0 c1 c2 c3 ho7 ho7' hS7 hqb' hbe7 hcl7 hR hmut hB h6 hbr6 hbz6 hbel6 hqb hsf hsa
   clear hHeld
   go_wp2_with (at_builtin;first
    | (refine wpList_append_own _ rfl _ _ 32 rfl wa.heap.size 3 i0 (.int .i64 0) 1 8 Tryz.underlying32 hi0 hz0 hz1 hz2 rfl (by decide) _ _ _ rfl hoA ⟨g7,0,none⟩ 1 c7 (((ks.map Res.n).map (L.rankN bk)).map encI) rfl (by simp [hkn.out]) hcl7a.out (fun u hu=>by obtain ⟨z,_,rfl⟩:=List.mem_map.1 hu;rfl) (by unfold maxLen;omega) (by omega) (by simp;omega) ?_
       intro v8 w8 ho8 hg8 _
       obtain ⟨g8,p8,rfl,hg8N⟩:=own_at ho8 (by omega)
       have hb8:Below w7.heap.size w7 w8:=Below.grown b7a hg8 b7a.size (fun k e=>Nat.le_of_eq (Option.some.inj e))
       have h8:=(h7.out.below hb8).swapA (own_cast ho8 (by simp [hkn.out] <;> omega) rfl)
       have hbr8:=(hb8.block x (Array.getElem?_eq_some_iff.1 hbr7.out).1).trans hbr7.out
       have hbz8:=(hb8.block (x+1) (Array.getElem?_eq_some_iff.1 hbz7.out).1).trans hbz7.out
       have hsf8:∀ j u,(ks.map Res.v)[j]? = some u→w8.cell? ⟨x+2,j,none⟩ = some u:=fun j u hj=>(hb8.cell (World.block_lt_of_cell? w7 _ (hsf7.out j u hj))).trans (hsf7.out j u hj)
       have hqb8:=(hb8.block (x+2) (Array.getElem?_eq_some_iff.1 hqb7.out).1).trans hqb7.out
       have hbel8:=hbel7.out.trans (hb8.mono hsz7)
       obtain ⟨y0,y1,y2,y3⟩:=box4 hbr8
       have hz8:w8.frozen? ⟨x,1,none⟩ = false:=by simp [World.frozen?,hbr8]
       have h9:=Lib.hid (h8.turn (w':=w8.setCell ⟨x,1,none⟩ (.slice (some ⟨g8,0,none⟩) (2+1) p8)) hbr8 hNx (fun p hp=>by have:=hnb.out p hp;omega) (by decide) (by decide) (by decide) (by decide) (by decide) (by decide) (by decide) (by simp) (fun k hk _=>heap_set_ne _ _ hk))
       have hbr9:Hid ((w8.setCell ⟨x,1,none⟩ (.slice (some ⟨g8,0,none⟩) (2+1) p8)).heap[x]? = some (.cells #[.pointer (some ⟨sb,0,none⟩),.slice (some ⟨g8,0,none⟩) (2+1) p8,.slice (some ⟨gf,0,none⟩) m cf,.bool false] 35 (0,0))):=Lib.hid (heap_set hbr8 1 _)
       have hbz9:Hid ((w8.setCell ⟨x,1,none⟩ (.slice (some ⟨g8,0,none⟩) (2+1) p8)).heap[x+1]? = some (.cells #[.pointer none,.slice none 0 0,.slice none 0 0,.bool false] 35 (0,0))):=Lib.hid ((heap_set_ne _ _ (by omega)).trans hbz8)
       have hbel9:Hid (Below wa.heap.size wa (w8.setCell ⟨x,1,none⟩ (.slice (some ⟨g8,0,none⟩) (2+1) p8))):=Lib.hid (hbel8.setCell hNx _)
       have hqx:(x+2)≠x:=fun e=>by rw [e,hbr8] at hqb8;simp at hqb8
       have hsf9:Hid (∀ j u,(ks.map Res.v)[j]? = some u→(w8.setCell ⟨x,1,none⟩ (.slice (some ⟨g8,0,none⟩) (2+1) p8)).cell? ⟨x+2,j,none⟩ = some u):=Lib.hid fun j u hj=>(World.cell?_of_block (a:=⟨x+2,j,none⟩) (heap_set_ne _ _ hqx)).trans (hsf8 j u hj)
       clear hb8 h8 hbz8 hsf8 hqb8 hbel8 ho8 hg8 hqx))
   clear h7 hbel7 hbr7 hbz7 hqb7 hsf7 hcl7a hoA b7a z0 z1 z2 z3 y0 y1 y2 y3 hz8 hbr8
   generalize w8.setCell ⟨x,1,none⟩ (.slice (some ⟨g8,0,none⟩) (2+1) p8) = w9 at *
   have ofr:=own_cast h9.out.of (show _ = m by rw [List.length_map,←hm.out]) rfl
   have e0:w9.cell? ⟨gf,0,none⟩ = some (.slice (some ⟨gq0,0,none⟩) lq0 cq0):=own_cellAt ofr (by rw [List.getElem?_map,hg0.out,←hq0.out];rfl)
   have e1:w9.cell? ⟨gf,1,none⟩ = some (.slice (some ⟨gq1,0,none⟩) lq1 cq1):=own_cellAt ofr (by rw [List.getElem?_map,hg1.out,←hq1.out];rfl)
   have hoF:((w9.alloc (.cells #[.slice (some ⟨gq0,0,none⟩) lq0 cq0,.slice (some ⟨gq1,0,none⟩) lq1 cq1] 43)).drew).ownsRow wa.heap.size 43 1 (.slice (some ⟨w9.heap.size,0,none⟩) 2 2) 2 [.slice (some ⟨gq0,0,none⟩) lq0 cq0,.slice (some ⟨gq1,0,none⟩) lq1 cq1]:=World.ownsRow_lit w9 #[.slice (some ⟨gq0,0,none⟩) lq0 cq0,.slice (some ⟨gq1,0,none⟩) lq1 cq1] 2 h9.out.sz (by unfold maxLen;omega) rfl
   have b9b:=(Below.refl w9.heap.size w9).alloc (Nat.le_refl _) (.cells #[.slice (some ⟨gq0,0,none⟩) lq0 cq0,.slice (some ⟨gq1,0,none⟩) lq1 cq1] 43)
   have b9a:Below w9.heap.size w9 (w9.alloc (.cells #[.slice (some ⟨gq0,0,none⟩) lq0 cq0,.slice (some ⟨gq1,0,none⟩) lq1 cq1] 43)).drew:=b9b.trans ((Below.refl _ _).drew.mono b9b.size)
   clear b9b
   have hsf9a:Hid (∀ j u,(ks.map Res.v)[j]? = some u→(w9.alloc (.cells #[.slice (some ⟨gq0,0,none⟩) lq0 cq0,.slice (some ⟨gq1,0,none⟩) lq1 cq1] 43)).drew.cell? ((⟨x+2,0,none⟩:Addr).add j) = some u):=Lib.hid fun j u hj=>by
    rw [Addr.add_lit,Nat.zero_add]
    exact (b9a.cell (World.block_lt_of_cell? w9 _ (hsf9.out j u hj))).trans (hsf9.out j u hj)
   have hsz9:=h9.out.sz
   have h1v:∀ u∈ks.map Res.v,u.oneCell' = true:=fun u hu=>by
    obtain ⟨r,hr,rfl⟩:=List.mem_map.1 hu
    obtain ⟨g,c,_,e,_⟩:=h9.out.tab (r.v,r.f) (List.mem_map.2 ⟨r,hks.out r hr,rfl⟩)
    rw [show r.v = _ from e];rfl
   obtain ⟨z0,z1,z2,z3⟩:=box4 hbr9.out
   replace b9a:=Lib.hid b9a
   clear ofr hsf9
   go_wp2_with fail
   (refine wp_region_held_drew (S:=(fun _=>True)) (by kernel_rfl) ?_ (fun hHeld=>?_))
   ·trivial
   (refine takeL (i:=0) (v:=?_) rfl (by kernel_rfl) (by kernel_rfl) (by kernel_rfl) (fun _ _ _ h=>h) (Or.inl ⟨by rfl,?_⟩) (by assumption) ?_)
   rotate_left
   ·(intro w hSw;(try dsimp only at hSw);go_simp;first | done | with_reducible rfl)
   (try simp only [Act.put,List.setIfInBounds_toArray,List.set_cons_zero,List.set_cons_succ])
   (refine takeL (i:=4) (v:=?_) rfl (by kernel_rfl) (by kernel_rfl) (by kernel_rfl) (fun _ _ _ h=>h) (Or.inl ⟨by rfl,?_⟩) (by assumption) ?_)
   rotate_left
   ·(intro w hSw;(try dsimp only at hSw);go_simp;first | done | with_reducible rfl)
   (try simp only [Act.put,List.setIfInBounds_toArray,List.set_cons_zero,List.set_cons_succ])
   (refine takeL (i:=9) (v:=?_) rfl (by kernel_rfl) (by kernel_rfl) (by kernel_rfl) (fun _ _ _ h=>h) (Or.inl ⟨by rfl,?_⟩) (by assumption) ?_)
   rotate_left
   ·(intro w hSw;(try dsimp only at hSw);go_simp;first | done | with_reducible rfl)
   (try simp only [Act.put,List.setIfInBounds_toArray,List.set_cons_zero,List.set_cons_succ])
   (refine wpAnyH_ready (rs:=[1,5]) (by kernel_rfl) (by simp) ?_)
   (refine consL2 rfl rfl (fun K hK=>?_) (fun K hK=>?_))
   (rw [if_pos (by rfl)])
   go_simp
   (refine hK.out _ _ trivial (fun hT=>?_))
   (clear hT hK K)
   (try simp only [Act.put,List.setIfInBounds_toArray,List.set_cons_zero,List.set_cons_succ])
   (refine takeL (i:=2) (v:=?_) rfl (by kernel_rfl) (by kernel_rfl) (by kernel_rfl) (fun _ _ _ h=>h) (Or.inl ⟨by rfl,?_⟩) (by assumption) ?_)
   rotate_left
   ·(intro w hSw;(try dsimp only at hSw);go_simp;first | done | with_reducible rfl)
   (try simp only [Act.put,List.setIfInBounds_toArray,List.set_cons_zero,List.set_cons_succ])
   (refine wpAnyH_ready (rs:=[3,5]) (by kernel_rfl) (by simp) ?_)
   (refine consL2 rfl rfl (fun K hK=>?_) (fun K hK=>?_))
   (rw [if_pos (by rfl)])
   go_simp
   (refine hK.out _ _ trivial (fun hT=>?_))
   (clear hT hK K)
   (try simp only [Act.put,List.setIfInBounds_toArray,List.set_cons_zero,List.set_cons_succ])
   (refine wpAnyH_ready (rs:=[5]) (by kernel_rfl) (by simp) ?_)
   (refine consL rfl (fun K hK=>?_))
   (rw [if_pos (by rfl)])
   go_simp
   (refine hK.out _ _ trivial (fun hT=>?_))
   (clear hT hK K)
   (try simp only [Act.put,List.setIfInBounds_toArray,List.set_cons_zero,List.set_cons_succ])
   (refine takeL (i:=6) (v:=?_) rfl (by kernel_rfl) (by kernel_rfl) (by kernel_rfl) (fun _ _ _ h=>h) (Or.inl ⟨by rfl,?_⟩) (by assumption) ?_)
   rotate_left
   ·(intro w hSw;(try dsimp only at hSw);go_simp;first | done | with_reducible rfl)
   (try simp only [Act.put,List.setIfInBounds_toArray,List.set_cons_zero,List.set_cons_succ])
   (refine wpAnyH_ready (rs:=[7]) (by kernel_rfl) (by simp) ?_)
   (refine consL rfl (fun K hK=>?_))
   (rw [if_pos (by rfl)])
   go_simp
   (refine hK.out _ _ trivial (fun hT=>?_))
   (clear hT hK K)
   (try simp only [Act.put,List.setIfInBounds_toArray,List.set_cons_zero,List.set_cons_succ])
   refine ?hRest5
   rotate_left
   (rw [if_pos (by rfl)])
   go_simp
   (refine hK.out _ _ trivial (fun hT=>?_))
   (clear hT hK K)
   (try simp only [Act.put,List.setIfInBounds_toArray,List.set_cons_zero,List.set_cons_succ])
   (refine takeL (i:=6) (v:=?_) rfl (by kernel_rfl) (by kernel_rfl) (by kernel_rfl) (fun _ _ _ h=>h) (Or.inl ⟨by rfl,?_⟩) (by assumption) ?_)
   rotate_left
   ·(intro w hSw;(try dsimp only at hSw);go_simp;first | done | with_reducible rfl)
   (try simp only [Act.put,List.setIfInBounds_toArray,List.set_cons_zero,List.set_cons_succ])
   (refine wpAnyH_ready (rs:=[3,7]) (by kernel_rfl) (by simp) ?_)
   (refine consL2 rfl rfl (fun K hK=>?_) (fun K hK=>?_))
   (rw [if_pos (by rfl)])
   go_simp
   (refine hK.out _ _ trivial (fun hT=>?_))
   (clear hT hK K)
   (try simp only [Act.put,List.setIfInBounds_toArray,List.set_cons_zero,List.set_cons_succ])
   (refine wpAnyH_ready (rs:=[7]) (by kernel_rfl) (by simp) ?_)
   (refine consL rfl (fun K hK=>?_))
   (rw [if_pos (by rfl)])
   go_simp
   (refine hK.out _ _ trivial (fun hT=>?_))
   (clear hT hK K)
   (try simp only [Act.put,List.setIfInBounds_toArray,List.set_cons_zero,List.set_cons_succ])
   exact ?hRest5
   (rw [if_pos (by rfl)])
   go_simp
   (refine hK.out _ _ trivial (fun hT=>?_))
   (clear hT hK K)
   (try simp only [Act.put,List.setIfInBounds_toArray,List.set_cons_zero,List.set_cons_succ])
   (refine wpAnyH_ready (rs:=[3]) (by kernel_rfl) (by simp) ?_)
   (refine consL rfl (fun K hK=>?_))
   (rw [if_pos (by rfl)])
   go_simp
   (refine hK.out _ _ trivial (fun hT=>?_))
   (clear hT hK K)
   (try simp only [Act.put,List.setIfInBounds_toArray,List.set_cons_zero,List.set_cons_succ])
   exact ?hRest5
   (rw [if_pos (by rfl)])
   go_simp
   (refine hK.out _ _ trivial (fun hT=>?_))
   (clear hT hK K)
   (try simp only [Act.put,List.setIfInBounds_toArray,List.set_cons_zero,List.set_cons_succ])
   (refine takeL (i:=6) (v:=?_) rfl (by kernel_rfl) (by kernel_rfl) (by kernel_rfl) (fun _ _ _ h=>h) (Or.inl ⟨by rfl,?_⟩) (by assumption) ?_)
   rotate_left
   ·(intro w hSw;(try dsimp only at hSw);go_simp;first | done | with_reducible rfl)
   (try simp only [Act.put,List.setIfInBounds_toArray,List.set_cons_zero,List.set_cons_succ])
   (refine wpAnyH_ready (rs:=[1,7]) (by kernel_rfl) (by simp) ?_)
   (refine consL2 rfl rfl (fun K hK=>?_) (fun K hK=>?_))
   (rw [if_pos (by rfl)])
   go_simp
   (refine hK.out _ _ trivial (fun hT=>?_))
   (clear hT hK K)
   (try simp only [Act.put,List.setIfInBounds_toArray,List.set_cons_zero,List.set_cons_succ])
   (refine takeL (i:=2) (v:=?_) rfl (by kernel_rfl) (by kernel_rfl) (by kernel_rfl) (fun _ _ _ h=>h) (Or.inl ⟨by rfl,?_⟩) (by assumption) ?_)
   rotate_left
   ·(intro w hSw;(try dsimp only at hSw);go_simp;first | done | with_reducible rfl)
   (try simp only [Act.put,List.setIfInBounds_toArray,List.set_cons_zero,List.set_cons_succ])
   (refine wpAnyH_ready (rs:=[3,7]) (by kernel_rfl) (by simp) ?_)
   (refine consL2 rfl rfl (fun K hK=>?_) (fun K hK=>?_))
   (rw [if_pos (by rfl)])
   go_simp
   (refine hK.out _ _ trivial (fun hT=>?_))
   (clear hT hK K)
   (try simp only [Act.put,List.setIfInBounds_toArray,List.set_cons_zero,List.set_cons_succ])
   (refine wpAnyH_ready (rs:=[7]) (by kernel_rfl) (by simp) ?_)
   (refine consL rfl (fun K hK=>?_))
   (rw [if_pos (by rfl)])
   go_simp
   (refine hK.out _ _ trivial (fun hT=>?_))
   (clear hT hK K)
   (try simp only [Act.put,List.setIfInBounds_toArray,List.set_cons_zero,List.set_cons_succ])
   exact ?hRest5
   (rw [if_pos (by rfl)])
   go_simp
   (refine hK.out _ _ trivial (fun hT=>?_))
   (clear hT hK K)
   (try simp only [Act.put,List.setIfInBounds_toArray,List.set_cons_zero,List.set_cons_succ])
   (refine wpAnyH_ready (rs:=[3]) (by kernel_rfl) (by simp) ?_)
   (refine consL rfl (fun K hK=>?_))
   (rw [if_pos (by rfl)])
   go_simp
   (refine hK.out _ _ trivial (fun hT=>?_))
   (clear hT hK K)
   (try simp only [Act.put,List.setIfInBounds_toArray,List.set_cons_zero,List.set_cons_succ])
   exact ?hRest5
   (rw [if_pos (by rfl)])
   go_simp
   (refine hK.out _ _ trivial (fun hT=>?_))
   (clear hT hK K)
   (try simp only [Act.put,List.setIfInBounds_toArray,List.set_cons_zero,List.set_cons_succ])
   (refine wpAnyH_ready (rs:=[1]) (by kernel_rfl) (by simp) ?_)
   (refine consL rfl (fun K hK=>?_))
   (rw [if_pos (by rfl)])
   go_simp
   (refine hK.out _ _ trivial (fun hT=>?_))
   (clear hT hK K)
   (try simp only [Act.put,List.setIfInBounds_toArray,List.set_cons_zero,List.set_cons_succ])
   (refine takeL (i:=2) (v:=?_) rfl (by kernel_rfl) (by kernel_rfl) (by kernel_rfl) (fun _ _ _ h=>h) (Or.inl ⟨by rfl,?_⟩) (by assumption) ?_)
   rotate_left
   ·(intro w hSw;(try dsimp only at hSw);go_simp;first | done | with_reducible rfl)
   (try simp only [Act.put,List.setIfInBounds_toArray,List.set_cons_zero,List.set_cons_succ])
   (refine wpAnyH_ready (rs:=[3]) (by kernel_rfl) (by simp) ?_)
   (refine consL rfl (fun K hK=>?_))
   (rw [if_pos (by rfl)])
   go_simp
   (refine hK.out _ _ trivial (fun hT=>?_))
   (clear hT hK K)
   (try simp only [Act.put,List.setIfInBounds_toArray,List.set_cons_zero,List.set_cons_succ])
   exact ?hRest5
   (refine wpAnyH_ready (rs:=[8]) (by kernel_rfl) (by simp) ?_)
   (refine consL rfl (fun K hK=>?_))
   ((rw [if_pos (by rfl)]);go_simp;(refine hK.out _ _ trivial (fun hT=>?_));clear hT)
   (clear hK K)
   (try simp only [Act.put,List.setIfInBounds_toArray,List.set_cons_zero,List.set_cons_succ])
   (refine wpAnyH_ready (rs:=[10]) (by kernel_rfl) (by simp) ?_)
   (refine consL rfl (fun K hK=>?_))
   ((rw [if_pos (by rfl)]);refine wp_append_own _ _ _ 33 rfl wa.heap.size 43 j0 (.slice none 0 0) 1 24 Tryz.underlying33 hj0 hzj0 hzj1 hzj2 rfl (by decide) _ _ _ rfl hoF ⟨x+2,0,none⟩ 1 1 (ks.map Res.v) rfl (by simp [hkn.out]) hsf9a.out h1v (by unfold maxLen;omega) (by omega) (by simp;omega) ?_;intro v10 w10 ho10 hg10 _;(refine hK.out _ _ trivial (fun hT=>?_));clear hT)
   (clear hK K)
   (try simp only [Act.put,List.setIfInBounds_toArray,List.set_cons_zero,List.set_cons_succ])
   obtain ⟨g10,p10,rfl,hg10N⟩:=own_at ho10 (by omega)
   have hb10:Below w9.heap.size w9 w10:=Below.grown b9a.out hg10 b9a.out.size (fun k e=>Nat.le_of_eq (Option.some.inj e))
   have hbr10:=(hb10.block x (Array.getElem?_eq_some_iff.1 hbr9.out).1).trans hbr9.out
   have hbz10:=(hb10.block (x+1) (Array.getElem?_eq_some_iff.1 hbz9.out).1).trans hbz9.out
   have h10:=Lib.hid ((h9.out.below hb10).swapF (own_cast ho10 (by simp [hkn.out] <;> omega) rfl))
   have hbel10:=Lib.hid (hbel9.out.trans (hb10.mono hsz9))
   obtain ⟨y0,y1,y2,y3⟩:=box4 hbr10
   obtain ⟨u0,u1,u2,u3⟩:=box4 hbz10
   have fz:w10.frozen? ⟨x,2,none⟩ = false:=by simp [World.frozen?,hbr10]
   have f0:w10.frozen? ⟨x+1,0,none⟩ = false:=by simp [World.frozen?,hbz10]
   have f1:w10.frozen? ⟨x+1,1,none⟩ = false:=by simp [World.frozen?,hbz10]
   have f2:w10.frozen? ⟨x+1,2,none⟩ = false:=by simp [World.frozen?,hbz10]
   have f3:w10.frozen? ⟨x+1,3,none⟩ = false:=by simp [World.frozen?,hbz10]
   replace hbr10:=Lib.hid hbr10
   replace hbz10:=Lib.hid hbz10
   clear h9 hbel9 hbr9 hbz9 hb10 hoF hsf9a h1v b9a ho10 hg10 z0 z1 z2 z3 e0 e1 hHeld
   have hT:True:=trivial
   (refine takeL (i:=11) (v:=?_) rfl (by kernel_rfl) (by kernel_rfl) (by kernel_rfl) (fun _ _ _ h=>h) (Or.inl ⟨by rfl,?_⟩) (by assumption) ?_)
   rotate_left
   ·(intro w hSw;(try dsimp only at hSw);go_simp;first | done | with_reducible rfl)
   (try simp only [Act.put,List.setIfInBounds_toArray,List.set_cons_zero,List.set_cons_succ])
   clear hT
   (refine wpAnyH_ready (rs:=[12]) (by kernel_rfl) (by simp) ?_)
   (refine consL rfl (fun K hK=>?_))
   ((rw [if_pos (by rfl)]);go_simp;(refine hK.out _ _ trivial (fun hT=>?_));clear hT)
   (clear hK K)
   (try simp only [Act.put,List.setIfInBounds_toArray,List.set_cons_zero,List.set_cons_succ])
   (refine wpAnyH_done (by kernel_rfl) ?_ _)
   go_wp2_with fail
   obtain ⟨h11,hb11,e0,e1,e2,e3⟩:=run_closeAt 2 h10.out hbr10.out hbz10.out (by omega) hNx (by omega) (fun p hp=>by have:=hnb.out p hp;omega) (fun p hp=>by have:=hnb.out p hp;omega) (.slice (some ⟨g10,0,none⟩) (2+1) p10) (.pointer (some ⟨sb,0,none⟩)) (.slice (some ⟨g8,0,none⟩) (2+1) p8) (.slice (some ⟨g10,0,none⟩) (2+1) p10) (.bool false) rfl
   obtain ⟨rs',hrs'⟩:∃ rs',rs' = kept bk r0 :: kept bk r1 :: ks.map (kept bk):=⟨_,rfl⟩
   have hmm:∀ r∈rs',∃ r'∈rs,r = kept bk r'∧r'.n∈bk:=fun r hr=>by
    rw [hrs'] at hr
    rcases List.mem_cons.1 hr with rfl | hr
    ·exact ⟨r0,List.mem_of_getElem? hg0.out,rfl,by rw [hr0];exact hcl.out.mem0⟩
    ·rcases List.mem_cons.1 hr with rfl | hr
     ·exact ⟨r1,List.mem_of_getElem? hg1.out,rfl,by rw [hr1];exact hcl.out.mem1⟩
     ·obtain ⟨r',hr',rfl⟩:=List.mem_map.1 hr
      exact ⟨r',hks.out r' hr',rfl,hmem.out _ (List.mem_map.2 ⟨r',hr',rfl⟩)⟩
   have eA:[Value.int .i64 0,Value.int .i64 1]++((ks.map Res.n).map (L.rankN bk)).map encI = (rs'.map fun r=>encI r.n):=by
    rw [hrs'];simp [kept,hr0,hr1,hcl.out.rank0,hcl.out.rank1,encI,Function.comp_def]
   have eF:[Value.slice (some ⟨gq0,0,none⟩) lq0 cq0,Value.slice (some ⟨gq1,0,none⟩) lq1 cq1]++ks.map Res.v = rs'.map Res.v:=by
    rw [hrs'];simp [kept,hq0.out,hq1.out,Function.comp_def]
   rw [eA,eF] at h11
   refine bodyPost_ret (v:=.agg #[.pointer (some ⟨sb,0,none⟩),.slice (some ⟨g8,0,none⟩) (2+1) p8,.slice (some ⟨g10,0,none⟩) (2+1) p10,.bool false]) (by simp [results,Tryz.results57,go_sem,e0,e1,e2,e3]) rfl ⟨_,_,L.keepS s bk,rs',rfl,⟨h11.tabs (fun p hp=>?_),hb11 _ hbel10.out,fun r hr=>?_,?_⟩,?_⟩
   ·obtain ⟨r,hr,rfl⟩:=List.mem_map.1 hp
    obtain ⟨r',hr',rfl,_⟩:=hmm r hr
    exact h11.tab (r'.v,r'.f) (List.mem_map.2 ⟨r',hr',rfl⟩)
   ·obtain ⟨r',hr',rfl,hn⟩:=hmm r hr
    exact ⟨(hok.out r' hr').1.keep hinv.out hcl.out hn,(hok.out r' hr').2⟩
   ·exact ⟨_,_,_,hrs',by show L.rankN bk r0.n = 0;rw [hr0];exact hcl.out.rank0,by show L.rankN bk r1.n = 1;rw [hr1];exact hcl.out.rank1⟩
   ·have:=hm.out
    rw [hrs'];simp [hkn.out];omega
end Go.Proofs.YteikmmfjhabijaaGreatDoor
