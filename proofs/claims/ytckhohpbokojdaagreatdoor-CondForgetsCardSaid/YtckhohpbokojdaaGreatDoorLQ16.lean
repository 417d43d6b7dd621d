import Derived.Test.YtckhohpbokojdaaGreatDoorLQ17
import Derived.Test.YtckhohpbokojdaaGreatDoorLN44
section
set_option linter.unusedSimpArgs false
set_option linter.unusedVariables false
namespace Go.Proofs.YtckhohpbokojdaaGreatDoor
open Go Go.RowKit Go.Shelf
theorem SlI.nilC (w:World):SlI w (.slice none 0 0) (castL []):=⟨none,0,rfl,.inl ⟨rfl,rfl,rfl⟩⟩
end Go.Proofs.YtckhohpbokojdaaGreatDoor
end
section
set_option linter.unusedSimpArgs false
set_option linter.unusedVariables false
namespace Go.Proofs.YtckhohpbokojdaaGreatDoor
open Go Go.RowKit Go.Shelf
theorem light_parts {C:List L.Gt} (h:lightN C = true):C.length≤80∧∀ g∈C,g.inp.length≤20:=by
 unfold lightN at h
 rw [Bool.and_eq_true,decide_eq_true_eq] at h
 exact ⟨h.2,fun g hg=>by have:=List.all_eq_true.1 h.1 g hg;simpa using this⟩
theorem nodes_of {n:Int} {C:List L.Gt} (hc:L.netChk n C = 0):∃ nl:List L.ND,C = nl.map L.ofND∧nl.length = C.length∧∀ y∈nl,∃ g∈C,g.inp.length = y.inp.length:=by
 refine ⟨C.map L.toND,(L.net_nok hc).2.2.symm,List.length_map ..,fun y hy=>?_⟩
 obtain ⟨g,hg,rfl⟩:=List.mem_map.1 hy
 exact ⟨g,hg,(by unfold L.toND;simp)⟩
end Go.Proofs.YtckhohpbokojdaaGreatDoor
end
section
set_option linter.unusedSimpArgs false
set_option linter.unusedVariables false
namespace Go.Proofs.YtckhohpbokojdaaGreatDoor
open Go Go.RowKit Go.Shelf
theorem gnodes_slC {w:World} {base:Nat} {vL:Value} {us:List Value} {C:List L.Gt} (ho:w.ownsRow base 40 3 vL C.length (gCells C us)) (h:RowsOf w base us (C.map (·.inp))):SlC w vL C:=by
 have hlen:us.length = C.length:=by have:=h.1;rwa [List.length_map] at this
 obtain ⟨_,⟨rfl,e⟩ | ⟨g,cap,cur,rfl,hgb,hgh,hn,hm,hcs,ht⟩⟩:=ho
 ·have:C = []:=List.length_eq_zero_iff.1 e
  subst this
  exact ⟨none,0,rfl,.inl rfl⟩
 ·refine ⟨_,cap,rfl,.inr ⟨g,0,rfl,fun j hj=>?_⟩⟩
  obtain ⟨h1,h2,h3⟩:=gCells_get hlen j hj (by omega)
  have hget:∀ i x,(gCells C us)[i]? = some x→w.cell? ⟨g,0+i,none⟩ = some x:=fun i x hx=>by
   have hil:=(List.getElem?_eq_some_iff.1 hx).1
   rw [gCells_len hlen] at hil
   rw [←ht,List.getElem?_take_of_lt (by omega)] at hx
   rw [World.cell?,hgh]
   show cur[0+i]? = some x
   rw [Nat.zero_add,←Array.getElem?_toList]
   exact hx
  refine ⟨hget _ _ h1,?_,us[j],?_,owns_slI (h.2 j us[j] C[j].inp (List.getElem?_eq_getElem (by omega)) (by rw [List.getElem?_map,List.getElem?_eq_getElem hj];rfl))⟩
  ·have:=hget _ _ h2;rwa [←Nat.add_assoc] at this
  ·have:=hget _ _ h3;rwa [←Nat.add_assoc] at this
def CpN35 (n:Int) (w:World) (C:List L.Gt) (k:Nat) (wr:World):Prop :=
 ∃ (vL:Value) (us:List Value),wr.heap[w.heap.size+1+1]? = some (.cells #[.int .i64 n,vL] 24 (0,0))∧wr.ownsRow w.heap.size 40 3 vL k (gCells (C.take k) us)∧RowsOf wr w.heap.size us ((C.take k).map (·.inp))∧wr.heap[w.heap.size+1]? = some (.cells #[.int .i64 0,.slice none 0 0] 24 (0,0))∧Below w.heap.size w wr
set_option maxRecDepth 100000 in
set_option maxHeartbeats 8000000 in
theorem copied35_any {n:Int} {C:List L.Gt} {v:Value} {w:World} (hv:SlC w v C) (hl:C.length≤5000) (hr:∀ g∈C,g.inp.length≤200) :
  Calls Tryz.prog 12 #[.agg #[.int .i64 n,v]] w fun e w'=>∃ vL,e = .returned (.agg #[.int .i64 n,vL])∧SlC w' vL C∧Below w.heap.size w w':=by
 obtain ⟨iv,hiv,hzv,hsv,hbv⟩:=info_parts nd_info
 obtain ⟨i0,hi0,hz0,hz1,hz2⟩:=info_parts int_info
 obtain ⟨ba,cp,rfl,hcs⟩:=hv.shape
 clear hv
 obtain ⟨e1,e2,e3⟩:=alloc3h w (.cells #[.int .i64 n,.slice ba C.length cp] 24) (.cells #[.int .i64 0,.slice none 0 0] 24) (.cells #[.int .i64 n,.slice none 0 0] 24)
 have hx3:Ext w (((w.alloc (.cells #[.int .i64 n,.slice ba C.length cp] 24)).alloc (.cells #[.int .i64 0,.slice none 0 0] 24)).alloc (.cells #[.int .i64 n,.slice none 0 0] 24)):=(((Ext.refl w).alloc _).alloc _).alloc _
 have hC:Hid (CpN35 n w C 0 (((w.alloc (.cells #[.int .i64 n,.slice ba C.length cp] 24)).alloc (.cells #[.int .i64 0,.slice none 0 0] 24)).alloc (.cells #[.int .i64 n,.slice none 0 0] 24))) :=
  Lib.hid ⟨.slice none 0 0,[],e3,⟨rfl,.inl ⟨rfl,rfl⟩⟩,RowsOf.nil _ _,e2,hx3.below⟩
 replace hcs:=Lib.hid hcs
 replace hr:=Lib.hid hr
 clear e1 e2 e3 hx3
 go_enter Tryz.func12,Tryz.ntmps12
 go_wp2_with fail
 go_loopw [12] (fun i wr=>∃ k:Nat,k≤C.length∧i = .int .i64 (k:Int)∧Hid (CpN35 n w C k wr)) (fun i _=>C.length - (intOf i).toNat)
 case atStart=>exact ⟨0,by omega,rfl,hC⟩
 case round =>
  clear hC
  obtain ⟨k,hk,rfl,hI⟩:=hrel
  obtain ⟨vL,us,hb,ho,hR,hz,hB⟩:=hI.out
  by_cases hlt:k < C.length
  ·have d0:decide ((k:Int) < (C.length:Int)) = true:=decide_eq_true (by omega)
   have g0:(0:Int)≤(k:Int):=by omega
   have g1:(k:Int) < (C.length:Int):=by omega
   obtain ⟨b,o,bb,cc,rfl,f0,f1,f2,fin⟩:=hcs.out k hlt
   have hcl:=hr.out _ (List.getElem_mem hlt)
   have r0:=(hB.cell (World.block_lt_of_cell? w _ f0)).trans f0
   have r1:=(hB.cell (World.block_lt_of_cell? w _ f1)).trans f1
   have r2:=(hB.cell (World.block_lt_of_cell? w _ f2)).trans f2
   have htk:C.take (k+1) = C.take k++[C[k]]:=List.take_succ_eq_append_getElem hlt
   have hul:us.length = (C.take k).length:=by have:=hR.1;rwa [List.length_map] at this
   generalize C[k] = g at *
   obtain ⟨kd,lt,c⟩:=g
   dsimp only at *
   have fin':=fin.ext hB
   have hcc:∀ j (hj:j < c.length),∃ b o,bb = some ⟨b,o,none⟩∧wr.cell? ⟨b,o+j,none⟩ = some (.int .i64 c[j]):=fun j hj=>by
    obtain ⟨ba,cp,e,h⟩:=fin'
    cases e
    rcases h with ⟨_,h,_⟩ | ⟨b,o,h1,h2⟩
    ·rw [h] at hj;simp at hj
    ·exact ⟨b,o,h1,h2 j hj⟩
   clear fin fin' f0 f1 f2 hcs
   have hga:Below wr.heap.size wr (wr.alloc (.cells #[.int .i64 kd,.int .i64 lt,.slice bb c.length cc] 40)):=(Below.refl _ wr).alloc (Nat.le_refl _) _
   have hgn:=heap_alloc_new wr (.cells #[.int .i64 kd,.int .i64 lt,.slice bb c.length cc] 40)
   obtain ⟨wo,hwo⟩:∃ W,W = wr.alloc (.cells #[.int .i64 kd,.int .i64 lt,.slice bb c.length cc] 40):=⟨_,rfl⟩
   rw [←hwo] at hga hgn
   replace hwo:=Lib.hid hwo
   obtain ⟨gb,hgb⟩:∃ x,x = wr.heap.size:=⟨_,rfl⟩
   rw [←hgb] at hgn
   replace hgb:=Lib.hid hgb
   have hbO:=(hga.block _ (Array.getElem?_eq_some_iff.1 hb).1).trans hb
   have hzO:=(hga.block _ (Array.getElem?_eq_some_iff.1 hz).1).trans hz
   have hoO:=ownsRow_keep ho (fun g c h=>hga.block g (Array.getElem?_eq_some_iff.1 h).1)
   have hRO:=hR.keep (fun g c h=>hga.block g (Array.getElem?_eq_some_iff.1 h).1)
   have hBO:=hB.trans (hga.mono hB.size)
   have hccO:∀ j (hj:j < c.length),∃ b o,bb = some ⟨b,o,none⟩∧wo.cell? ⟨b,o+j,none⟩ = some (.int .i64 c[j]):=fun j hj=>by
    obtain ⟨b,o,h1,h2⟩:=hcc j hj
    exact ⟨b,o,h1,(hga.cell (World.block_lt_of_cell? wr _ h2)).trans h2⟩
   have hSb:∀ V,Below wo.heap.size wo V→V.cell? ⟨w.heap.size+1+1,1,none⟩ = some vL∧(V.cell? ⟨gb,0,none⟩ = some (.int .i64 kd)∧V.cell? ⟨gb,1,none⟩ = some (.int .i64 lt)∧V.cell? ⟨gb,2,none⟩ = some (.slice bb c.length cc)):=fun V h=>by
    have x0:=(h.block _ (Array.getElem?_eq_some_iff.1 hbO).1).trans hbO
    have x1:=(h.block _ (Array.getElem?_eq_some_iff.1 hgn).1).trans hgn
    exact ⟨by rw [World.cell?,x0];rfl,by rw [World.cell?,x1];rfl,by rw [World.cell?,x1];rfl,by rw [World.cell?,x1];rfl⟩
   replace hSb:=Lib.hid hSb
   replace htk:=Lib.hid htk
   replace hul:=Lib.hid hul
   replace hb:=Lib.hid hb
   replace hz:=Lib.hid hz
   replace ho:=Lib.hid ho
   replace hbO:=Lib.hid hbO
   replace hzO:=Lib.hid hzO
   clear hcc
   go_wp2_with fail
   rw [←hwo.out,←hgb.out]
   clear r0 r1 r2
   try go_wp2_with fail
   (refine wp_region_z (S:=(fun V=>V.cell? ⟨w.heap.size+1+1,1,none⟩ = some vL∧(V.cell? ⟨gb,0,none⟩ = some (.int .i64 kd)∧V.cell? ⟨gb,1,none⟩ = some (.int .i64 lt)∧V.cell? ⟨gb,2,none⟩ = some (.slice bb c.length cc)))) 14 (by kernel_rfl) ?_ (fun hHeld=>?_))
   ·exact hSb.out _ ((Below.refl _ _).drew)
   (refine wpZ_take (i:=0) (v:=?_) rfl (by kernel_rfl) (by decide) (by kernel_rfl) (by kernel_rfl) (by kernel_rfl) (fun _ _ _ h=>h) (Or.inl ⟨by rfl,?_⟩) (by assumption) ?_)
   rotate_left
   ·(intro w hSw;(try dsimp only at hSw);skip;go_simp;first | done | with_reducible rfl)
   (try simp only [Act.put,List.setIfInBounds_toArray,List.set_cons_zero,List.set_cons_succ])
   (refine wpZ_take (i:=1) (v:=?_) rfl (by kernel_rfl) (by decide) (by kernel_rfl) (by kernel_rfl) (by kernel_rfl) (fun _ _ _ h=>h) (Or.inl ⟨by rfl,?_⟩) (by assumption) ?_)
   rotate_left
   ·(intro w hSw;(try dsimp only at hSw);skip;go_simp;first | done | with_reducible rfl)
   (try simp only [Act.put,List.setIfInBounds_toArray,List.set_cons_zero,List.set_cons_succ])
   (refine wpZ_take (i:=2) (v:=?_) rfl (by kernel_rfl) (by decide) (by kernel_rfl) (by kernel_rfl) (by kernel_rfl) (fun _ _ _ h=>h) (Or.inl ⟨by rfl,?_⟩) (by assumption) ?_)
   rotate_left
   ·(intro w hSw;(try dsimp only at hSw);skip;go_simp;first | done | with_reducible rfl)
   (try simp only [Act.put,List.setIfInBounds_toArray,List.set_cons_zero,List.set_cons_succ])
   (refine wpZ_take (i:=3) (v:=?_) rfl (by kernel_rfl) (by decide) (by kernel_rfl) (by kernel_rfl) (by kernel_rfl) (fun _ _ _ h=>h) (Or.inl ⟨by rfl,?_⟩) (by assumption) ?_)
   rotate_left
   ·(intro w hSw;(try dsimp only at hSw);skip;go_simp;first | done | with_reducible rfl)
   (try simp only [Act.put,List.setIfInBounds_toArray,List.set_cons_zero,List.set_cons_succ])
   (refine wpZ_take (i:=4) (v:=?_) rfl (by kernel_rfl) (by decide) (by kernel_rfl) (by kernel_rfl) (by kernel_rfl) (fun _ _ _ h=>h) (Or.inl ⟨by rfl,?_⟩) (by assumption) ?_)
   rotate_left
   ·(intro w hSw;(try dsimp only at hSw);skip;go_simp;first | done | with_reducible rfl)
   (try simp only [Act.put,List.setIfInBounds_toArray,List.set_cons_zero,List.set_cons_succ])
   (refine wpZ_take (i:=5) (v:=?_) rfl (by kernel_rfl) (by decide) (by kernel_rfl) (by kernel_rfl) (by kernel_rfl) (fun _ _ _ h=>h) (Or.inl ⟨by rfl,?_⟩) (by assumption) ?_)
   rotate_left
   ·(intro w hSw;(try dsimp only at hSw);skip;go_simp;first | done | with_reducible rfl)
   (try simp only [Act.put,List.setIfInBounds_toArray,List.set_cons_zero,List.set_cons_succ])
   (refine wpZ_take (i:=7) (v:=?_) rfl (by kernel_rfl) (by decide) (by kernel_rfl) (by kernel_rfl) (by kernel_rfl) (fun _ _ _ h=>h) (Or.inl ⟨by rfl,?_⟩) (by assumption) ?_)
   rotate_left
   ·(intro w hSw;(try dsimp only at hSw);skip;go_simp;first | done | with_reducible rfl)
   (try simp only [Act.put,List.setIfInBounds_toArray,List.set_cons_zero,List.set_cons_succ])
   (refine wpZ_take (i:=8) (v:=?_) rfl (by kernel_rfl) (by decide) (by kernel_rfl) (by kernel_rfl) (by kernel_rfl) (fun _ _ _ h=>h) (Or.inl ⟨by rfl,?_⟩) (by assumption) ?_)
   rotate_left
   ·(intro w hSw;(try dsimp only at hSw);skip;go_simp;first | done | with_reducible rfl)
   (try simp only [Act.put,List.setIfInBounds_toArray,List.set_cons_zero,List.set_cons_succ])
   (refine wpZ_one (i:=6) (by kernel_rfl) rfl (fun K hK=>?_))
   (rw [if_pos (by rfl)])
   go_simp
   have hro:((wo.alloc (.cells #[] 3)).drew).ownsRow w.heap.size 3 1 (.slice (some ⟨wo.heap.size,0,none⟩) 0 0) 0 []:=World.ownsRow_lit wo #[] 0 hBO.size (by unfold maxLen;omega) rfl
   have ha:Below wo.heap.size wo ((wo.alloc (.cells #[] 3)).drew):=((Below.refl _ wo).alloc (Nat.le_refl _) _).drew
   have hcc':∀ j (hj:j < c.length),∃ b o,bb = some ⟨b,o,none⟩∧((wo.alloc (.cells #[] 3)).drew).cell? ⟨b,o+j,none⟩ = some (.int .i64 c[j]):=fun j hj=>by
    obtain ⟨b',o',h1,h2⟩:=hccO j hj
    exact ⟨b',o',h1,(ha.cell (World.block_lt_of_cell? wo _ h2)).trans h2⟩
   refine hK.out _ _ (hSb.out _ ha) (fun hHeld=>?_)
   generalize hwa:(wo.alloc (.cells #[] 3)).drew = wa at *
   replace hwa:=Lib.hid hwa
   clear hK K hHeld hccO
   (try simp only [Act.put,List.setIfInBounds_toArray,List.set_cons_zero,List.set_cons_succ])
   (refine wpZ_one (i:=9) (by kernel_rfl) rfl (fun K hK=>?_))
   (rw [if_pos (by rfl)])
   refine wp_append_ints _ _ rfl w.heap.size i0 hi0 hz0 hz1 hz2 _ 0 [] rfl hro bb cc c rfl hcc' (by omega) (Nat.le_trans hBO.size ha.size) (fun v4 w4 ho4 hg4=>?_)
   rw [List.nil_append,Nat.zero_add] at ho4
   have hb4:Below wo.heap.size wo w4:=Below.grown ha hg4 ha.size (fun k e=>Nat.le_of_eq (Option.some.inj (show some wo.heap.size = some k from e)))
   refine hK.out _ _ (hSb.out _ hb4) (fun hHeld=>?_)
   clear hK K
   (try simp only [Act.put,List.setIfInBounds_toArray,List.set_cons_zero,List.set_cons_succ])
   obtain ⟨a4,c4,rfl⟩:∃ ba cp,v4 = .slice ba c.length cp:=by obtain ⟨ba,cp,h,_⟩:=owns_slI (l:=c) ho4;exact ⟨ba,cp,h⟩
   (refine wpZ_take (i:=10) (v:=?_) rfl (by kernel_rfl) (by decide) (by kernel_rfl) (by kernel_rfl) (by kernel_rfl) (fun _ _ _ h=>h) (Or.inl ⟨by rfl,?_⟩) (by assumption) ?_)
   rotate_left
   ·(intro w hSw;(try dsimp only at hSw);skip;go_simp;first | done | with_reducible rfl)
   (try simp only [Act.put,List.setIfInBounds_toArray,List.set_cons_zero,List.set_cons_succ])
   clear hHeld
   (refine wpZ_one (i:=11) (by kernel_rfl) rfl (fun K hK=>?_))
   (rw [if_pos (by rfl)])
   go_simp
   have h5:Below w4.heap.size w4 (w4.alloc (.cells #[.int .i64 kd,.int .i64 lt,.slice a4 c.length c4] 40)):=(Below.refl _ w4).alloc (Nat.le_refl _) _
   have hn5:(w4.alloc (.cells #[.int .i64 kd,.int .i64 lt,.slice a4 c.length c4] 40)).heap[w4.heap.size]? = some (.cells #[.int .i64 kd,.int .i64 lt,.slice a4 c.length c4] 40):=heap_alloc_new w4 _
   refine hK.out _ _ (hSb.out _ (hb4.trans (h5.mono hb4.size))) (fun hHeld=>?_)
   generalize hw5:w4.alloc (.cells #[.int .i64 kd,.int .i64 lt,.slice a4 c.length c4] 40) = w5 at *
   replace hw5:=Lib.hid hw5
   clear hK K hHeld
   (try simp only [Act.put,List.setIfInBounds_toArray,List.set_cons_zero,List.set_cons_succ])
   have hb5:=hb4.trans (h5.mono hb4.size)
   have ho5:=ownsRow_keep hoO (fun g c h=>hb5.block g (Array.getElem?_eq_some_iff.1 h).1)
   have hB5:Below w.heap.size w w5:=hBO.trans (hb5.mono hBO.size)
   have hn5':=World.news_of_block (cs:=#[.int .i64 kd,.int .i64 lt,.slice a4 c.length c4]) (t:=40) (fr:=(0,0)) hn5
   (refine wpZ_one (i:=12) (by kernel_rfl) rfl (fun K hK=>?_))
   (rw [if_pos (by rfl)])
   refine wp_append_own w5 _ _ 22 rfl w.heap.size 40 iv _ 3 40 Tryz.underlying22 hiv hzv hsv hbv rfl (by decide) vL k (gCells (C.take k) us) rfl ho5 ⟨w4.heap.size,0,none⟩ 1 1 [.int .i64 kd,.int .i64 lt,.slice a4 c.length c4] rfl rfl hn5' (by simp [Value.oneCell']) (by unfold maxLen;omega) (by omega) hB5.size (fun v6 w6 ho6 hg6 _=>?_)
   have hb6:w6.heap[w.heap.size+1+1]? = some (.cells #[.int .i64 n,vL] 24 (0,0)):=by
    have h:=(hb5.block _ (Array.getElem?_eq_some_iff.1 hbO.out).1).trans hbO.out
    exact (grown_other ho5 hg6 h (by decide)).trans h
   have hz6:w6.heap[w.heap.size+1]? = some (.cells #[.int .i64 0,.slice none 0 0] 24 (0,0)):=by
    have h:=(hb5.block _ (Array.getElem?_eq_some_iff.1 hzO.out).1).trans hzO.out
    exact (grown_other ho5 hg6 h (by decide)).trans h
   have hR6:RowsOf w6 w.heap.size us ((C.take k).map (·.inp)):=hRO.keep (fun g c h=>by
    have h':=hb5.block g (Array.getElem?_eq_some_iff.1 h).1
    exact (grown_other ho5 hg6 (h'.trans h) (by decide)).trans h')
   have ho46:w6.ownsRow w.heap.size 3 1 (.slice a4 c.length c4) c.length (c.map encZ):=ownsRow_keep ho4 (fun g c h=>by
    have h':=h5.block g (Array.getElem?_eq_some_iff.1 h).1
    exact (grown_other ho5 hg6 (h'.trans h) (by decide)).trans h')
   have hR7:=hR6.snoc ho46
   have hR8:RowsOf w6 w.heap.size (us++[.slice a4 c.length c4]) ((C.take (k+1)).map (·.inp)):=by rw [htk.out,List.map_append];exact hR7
   have hgc:gCells (C.take k) us++[.int .i64 kd,.int .i64 lt,.slice a4 c.length c4] = gCells (C.take (k+1)) (us++[.slice a4 c.length c4]):=by rw [htk.out,gCells_snoc hul.out]
   rw [hgc] at ho6
   have hB6:Below w.heap.size w w6:=Below.grown hB5 hg6 hB5.size (fun k e=>own_ge ho5 e)
   have hG6:w6.cell? ⟨gb,0,none⟩ = some (.int .i64 kd)∧w6.cell? ⟨gb,1,none⟩ = some (.int .i64 lt)∧w6.cell? ⟨gb,2,none⟩ = some (.slice bb c.length cc):=by
    have h5':=(hb5.block _ (Array.getElem?_eq_some_iff.1 hgn).1).trans hgn
    have h6':w6.heap[gb]? = w5.heap[gb]?:=hg6.block gb (Array.getElem?_eq_some_iff.1 h5').1 fun e=>by
     have hoo:=ho.out
     obtain ⟨_,⟨rfl,_⟩ | ⟨g',cap,cur,rfl,hgb',hgh',_⟩⟩:=hoo
     ·simp [Value.ownBlock] at e
     ·simp [Value.ownBlock] at e
      have:=(Array.getElem?_eq_some_iff.1 hgh').1
      have:=hgb.out
      omega
    rw [h5'] at h6'
    exact ⟨by rw [World.cell?,h6'];rfl,by rw [World.cell?,h6'];rfl,by rw [World.cell?,h6'];rfl⟩
   have hS6:w6.cell? ⟨w.heap.size+1+1,1,none⟩ = some vL:=by rw [World.cell?,hb6];rfl
   obtain ⟨g6,c6,rfl⟩:∃ g c,v6 = .slice (some ⟨g,0,none⟩) (k+1) c:=by
    obtain ⟨_,⟨_,e⟩ | ⟨g,cap,cur,h,_⟩⟩:=ho6
    ·omega
    ·exact ⟨g,cap,h⟩
   have hend:Hid (CpN35 n w C (k+1) (w6.setCell ⟨w.heap.size+1+1,1,none⟩ (.slice (some ⟨g6,0,none⟩) (k+1) c6))):=by
    have hne:∀ (g:Nat) (cs:Array Value) (ty:TypeId),w6.heap[g]? = some (.cells cs ty (0,0))→ty≠24→(w6.setCell ⟨w.heap.size+1+1,1,none⟩ (.slice (some ⟨g6,0,none⟩) (k+1) c6)).heap[g]? = w6.heap[g]?:=fun g cs ty h1 h2=>by
     refine Below.heap_setCell _ _ _ _ fun e=>?_
     rw [e,hb6] at h1
     simp only [Option.some.injEq,Obj.cells.injEq] at h1
     exact h2 h1.2.1.symm
    exact Lib.hid ⟨_,_,heap_set hb6 1 _,ownsRow_keep ho6 (fun g c h=>hne g c _ h (by decide)),hR8.keep (fun g c h=>hne g c _ h (by decide)),(Below.heap_setCell _ _ _ _ (by simp)).trans hz6,hB6.setCell (by show _≤w.heap.size+1+1;omega) _⟩
   have y2:w6.frozen? ⟨w.heap.size+1+1,1,none⟩ = false:=by simp [World.frozen?,hb6]
   refine hK.out _ _ ⟨hS6,hG6⟩ (fun hHeld=>?_)
   clear hK K ho6 hR6 hR7 hR8 ho46 ho5 ho4 hb6 hz6 hg6 hG6 hgc
   (try simp only [Act.put,List.setIfInBounds_toArray,List.set_cons_zero,List.set_cons_succ])
   (refine wpZ_take (i:=13) (v:=?_) rfl (by kernel_rfl) (by decide) (by kernel_rfl) (by kernel_rfl) (by kernel_rfl) (fun _ _ _ h=>h) (Or.inl ⟨by rfl,?_⟩) (by assumption) ?_)
   rotate_left
   ·(intro w hSw;(try dsimp only at hSw);skip;go_simp;first | done | with_reducible rfl)
   (try simp only [Act.put,List.setIfInBounds_toArray,List.set_cons_zero,List.set_cons_succ])
   (refine wpZ_last (by kernel_rfl) rfl (by kernel_rfl) (fun K hK=>?_))
   ((rw [if_pos (by rfl)]);go_simp;refine hK.out _ _ ?_)
   (clear hK K)
   (try simp only [Act.put,List.setIfInBounds_toArray,List.set_cons_zero,List.set_cons_succ])
   go_wp2_with fail
   go_roundw
   case rel=>exact ⟨k+1,by omega,by go_num,hend⟩
   case measure=>simp [intOf];omega
  ·obtain rfl:k = C.length:=by omega
   have d0:decide ((C.length:Int) < (C.length:Int)) = false:=decide_eq_false (by omega)
   obtain ⟨bL,nL,cL,rfl⟩:∃ b n c,vL = .slice b n c:=by
    obtain ⟨_,⟨rfl,_⟩ | ⟨g,cap,cur,rfl,_⟩⟩:=ho
    ·exact ⟨_,_,_,rfl⟩
    ·exact ⟨_,_,_,rfl⟩
   rw [List.take_length] at hR ho
   have p0:wr.cell? ⟨w.heap.size+1+1,0,none⟩ = some (.int .i64 n):=by rw [World.cell?,hb];rfl
   have p1:wr.cell? ⟨w.heap.size+1+1,1,none⟩ = some (.slice bL nL cL):=by rw [World.cell?,hb];rfl
   have x0:wr.cell? ⟨w.heap.size+1,0,none⟩ = some (.int .i64 0):=by rw [World.cell?,hz];rfl
   have x1:wr.cell? ⟨w.heap.size+1,1,none⟩ = some (.slice none 0 0):=by rw [World.cell?,hz];rfl
   have y0:wr.frozen? ⟨w.heap.size+1,0,none⟩ = false:=by simp [World.frozen?,hz]
   have y1:wr.frozen? ⟨w.heap.size+1,1,none⟩ = false:=by simp [World.frozen?,hz]
   obtain ⟨r0,r1⟩:=box2_set hz (.int .i64 n) (.slice bL nL cL)
   have hne:∀ (g:Nat) (cs:Array Value) (ty:TypeId),wr.heap[g]? = some (.cells cs ty (0,0))→ty≠24→((wr.setCell ⟨w.heap.size+1,0,none⟩ (.int .i64 n)).setCell ⟨w.heap.size+1,1,none⟩ (.slice bL nL cL)).heap[g]? = wr.heap[g]?:=fun g cs ty h1 h2=>by
    have hgf:g≠w.heap.size+1:=by
     intro e
     rw [e,hz] at h1
     simp only [Option.some.injEq,Obj.cells.injEq] at h1
     exact h2 h1.2.1.symm
    exact (Below.heap_setCell _ _ _ _ hgf).trans (Below.heap_setCell _ _ _ _ hgf)
   have hfin:=Lib.hid (And.intro (gnodes_slC (ownsRow_keep ho (fun g c h=>hne g c _ h (by decide))) (hR.keep (fun g c h=>hne g c _ h (by decide)))) ((hB.setCell (Nat.le_succ _) (.int .i64 n) (p:=⟨w.heap.size+1,0,none⟩)).setCell (Nat.le_succ _) (.slice bL nL cL) (p:=⟨w.heap.size+1,1,none⟩)))
   replace hb:=Lib.hid hb
   replace hz:=Lib.hid hz
   replace r0:=Lib.hid r0
   replace r1:=Lib.hid r1
   clear hne ho hR hB
   go_wp2_with fail
   exact bodyPost_ret (v:=.agg #[.int .i64 n,.slice bL nL cL]) (by simp [results,Tryz.results12,go_sem,r0.out,r1.out]) rfl ⟨_,rfl,hfin.out.1,hfin.out.2⟩
end Go.Proofs.YtckhohpbokojdaaGreatDoor
end
section
set_option linter.unusedSimpArgs false
set_option linter.unusedVariables false
namespace Go.Proofs.YtckhohpbokojdaaGreatDoor
open Go Go.RowKit Go.Shelf
theorem slC_nil (w:World):SlC w (.slice none 0 0) []:=⟨none,0,rfl,.inl rfl⟩
end Go.Proofs.YtckhohpbokojdaaGreatDoor
end
