import Derived.Test.YtckhohpbokojdaaGreatDoorMN27
set_option linter.unusedSimpArgs false
set_option linter.unusedVariables false
namespace Go.Proofs.YtckhohpbokojdaaGreatDoor
open Go Go.RowKit Go.Shelf
def rdV (ats:List Nat):Nat→Value:=fun k=>.int .i64 ((ats.getD k 0:Nat):Int)
theorem rdV_snoc (ats:List Nat) (x k:Nat):putF (rdV ats) ats.length (.int .i64 (x:Nat)) k = rdV (ats++[x]) k:=by
 unfold putF rdV
 by_cases h:k = ats.length
 ·subst h
  rw [if_pos rfl,List.getD_eq_getElem?_getD,List.getElem?_append_right (Nat.le_refl _)];simp
 ·rw [if_neg h]
  by_cases h2:k < ats.length
  ·rw [List.getD_eq_getElem?_getD,List.getD_eq_getElem?_getD,List.getElem?_append_left h2]
  ·rw [List.getD_eq_getElem?_getD,List.getD_eq_getElem?_getD,List.getElem?_eq_none (by omega),List.getElem?_eq_none (by simp;omega)]
theorem NOK_take {n:Int} {nl:List L.ND} (h:L.NOK n nl) (i:Nat):L.NOK n (nl.take i):=⟨fun j hj k hk=>by
  rw [List.getElem_take] at hk
  exact h.kids j (by simp at hj;omega) k hk,fun x hx=>h.form x (List.mem_of_mem_take hx)⟩
theorem redF_take {nl:List L.ND} {i:Nat} (hi:i < nl.length):L.redF (nl.take (i+1)) = ((L.addND (L.redF (nl.take i)).1 ⟨nl[i].kind,nl[i].lit,nl[i].inp.map fun k=>(L.redF (nl.take i)).2.getD k 0⟩).2,(L.redF (nl.take i)).2++[(L.addND (L.redF (nl.take i)).1 ⟨nl[i].kind,nl[i].lit,nl[i].inp.map fun k=>(L.redF (nl.take i)).2.getD k 0⟩).1]):=by
 rw [List.take_succ_eq_append_getElem hi,L.redF_snoc];rfl
theorem NB.setInt {lo base bx ga k:Nat} {n:Int} {bl:List L.ND} {W:World} {c:Array Value} {v:Value} (h:NB lo base bx n bl W) (hg:W.heap[ga]? = some (.cells c 3 (0,0))) (hlt:ga < base):NB lo base bx n bl (W.setCell ⟨ga,k,none⟩ v):=by
 obtain ⟨pm,vL,us,h1,h2,h3,h4,h5⟩:=h
 refine ⟨pm,vL,us,(Below.heap_setCell _ _ _ _ (ne_type h1 hg (by decide))).trans h1,ownsRow_setCell_below h2 hlt _,h3.setLow hlt _,h4.same ?_,h5⟩
 obtain ⟨_,_,hm,_⟩:=h4
 refine Below.heap_setCell _ _ _ _ fun e=>?_
 have e':pm = ga:=e
 rw [←e',hm] at hg
 simp at hg
theorem nodes_slC {w:World} {base:Nat} {vL:Value} {us:List Value} {nl:List L.ND} (ho:w.ownsRow base 40 3 vL nl.length (gCells (nl.map L.ofND) us)) (h:RowsOf w base us (nl.map fun y=>castL y.inp)):SlC w vL (nl.map L.ofND):=by
 have hlen:us.length = (nl.map L.ofND).length:=by have:=h.1;simpa using this
 have hnl:(nl.map L.ofND).length = nl.length:=List.length_map ..
 obtain ⟨_,⟨rfl,e⟩ | ⟨g,cap,cur,rfl,hgb,hgh,hn,hm,hcs,ht⟩⟩:=ho
 ·have:nl = []:=List.length_eq_zero_iff.1 e
  subst this
  exact ⟨none,0,rfl,.inl rfl⟩
 ·refine ⟨_,cap,by rw [hnl],.inr ⟨g,0,rfl,fun j hj=>?_⟩⟩
  obtain ⟨h1,h2,h3⟩:=gCells_get hlen j hj (by omega)
  have hget:∀ i x,(gCells (nl.map L.ofND) us)[i]? = some x→w.cell? ⟨g,0+i,none⟩ = some x:=fun i x hx=>by
   have hil:=(List.getElem?_eq_some_iff.1 hx).1
   rw [gCells_len hlen] at hil
   rw [←ht,List.getElem?_take_of_lt (by omega)] at hx
   rw [World.cell?,hgh]
   show cur[0+i]? = some x
   rw [Nat.zero_add,←Array.getElem?_toList]
   exact hx
  have hr:=h.2 j us[j] (castL (nl[j]'(by omega)).inp) (List.getElem?_eq_getElem (by omega)) (by rw [List.getElem?_map,List.getElem?_eq_getElem (by omega)];rfl)
  refine ⟨hget _ _ h1,?_,us[j],?_,?_⟩
  ·have:=hget _ _ h2;rwa [←Nat.add_assoc] at this
  ·have:=hget _ _ h3;rwa [←Nat.add_assoc] at this
  ·rw [List.getElem_map];exact owns_slI hr
def RedI (w3:World) (ga bx:Nat) (n:Int) (nl:List L.ND) (i:Nat) (V:World):Prop:=Below w3.heap.size w3 V∧NB w3.heap.size (ga+1) bx n (L.redF (nl.take i)).1 V∧RowF V ga 3 nl.length (rdV (L.redF (nl.take i)).2)∧(w3.heap.size≤ga∧ga+1≤V.heap.size)
set_option maxRecDepth 100000 in
set_option maxHeartbeats 40000000 in
theorem nreduce_any {n:Int} {nl:List L.ND} {v:Value} {w:World} (hv:SlC w v (nl.map L.ofND)) (hc:L.netChk n (nl.map L.ofND) = 0) (hl:nl.length≤2000) (h2:∀ y∈nl,y.inp.length≤100000) (hP:PowTab w) (hgP:gPow < w.heap.size) :
  Calls Tryz.prog 62 #[.agg #[.int .i64 n,v]] w fun e w'=>∃ vL us,e = .returned (.tuple #[.agg #[.int .i64 n,vL],.int .i64 0])∧w'.ownsRow w.heap.size 40 3 vL (L.reduceL nl).length (gCells ((L.reduceL nl).map L.ofND) us)∧RowsOf w' w.heap.size us ((L.reduceL nl).map fun y=>castL y.inp)∧Below w.heap.size w w':=by
 have hnok:L.NOK n nl:=by
  have:=(L.net_nok hc).1
  rwa [List.map_map,show (L.toND ∘ L.ofND) = id from funext L.toND_ofND,List.map_id] at this
 obtain ⟨hn,hl1,_⟩:=L.netChk_ok.1 hc
 rw [List.length_map] at hl1
 obtain ⟨ba,cp,rfl,hcs⟩:=hv.shape
 have hcell:∀ k (hk:k < nl.length),∃ b o bb cc,ba = some ⟨b,o,none⟩∧w.cell? ⟨b,o+k * 3,none⟩ = some (.int .i64 nl[k].kind)∧w.cell? ⟨b,o+k * 3+1,none⟩ = some (.int .i64 nl[k].lit)∧w.cell? ⟨b,o+k * 3+2,none⟩ = some (.slice bb nl[k].inp.length cc)∧SlI w (.slice bb nl[k].inp.length cc) (castL nl[k].inp):=fun k hk=>by
  obtain ⟨b,o,bb,cc,h1,f0,f1,f2,fin⟩:=hcs k (by rw [List.length_map];exact hk)
  rw [List.getElem_map] at f0 f1 f2 fin
  have e:(L.ofND nl[k]).inp.length = nl[k].inp.length:=castL_len nl[k].inp
  rw [e] at f2 fin
  exact ⟨b,o,bb,cc,h1,f0,f1,f2,fin⟩
 rw [List.length_map] at hv ⊢
 have hx2:Ext w ((w.alloc (.cells #[.int .i64 n,.slice ba nl.length cp] 24)).alloc (.cells #[.int .i64 0,.slice none 0 0] 24)):=((Ext.refl w).alloc _).alloc _
 obtain ⟨e0,e1⟩:=alloc2h w (.cells #[.int .i64 n,.slice ba nl.length cp] 24) (.cells #[.int .i64 0,.slice none 0 0] 24)
 have p0:((w.alloc (.cells #[.int .i64 n,.slice ba nl.length cp] 24)).alloc (.cells #[.int .i64 0,.slice none 0 0] 24)).cell? ⟨w.heap.size,0,none⟩ = some (.int .i64 n):=by rw [World.cell?,e0];rfl
 have p1:((w.alloc (.cells #[.int .i64 n,.slice ba nl.length cp] 24)).alloc (.cells #[.int .i64 0,.slice none 0 0] 24)).cell? ⟨w.heap.size,1,none⟩ = some (.slice ba nl.length cp):=by rw [World.cell?,e0];rfl
 have q1:=ncheck_any (n:=n) (hv.ext hx2.below) (fun g hg=>by
  obtain ⟨y,hy,rfl⟩:=List.mem_map.1 hg
  have:=h2 y hy
  have e:(L.ofND y).inp.length = y.inp.length:=castL_len y.inp
  omega) (by rw [List.length_map];omega)
 rw [hc] at q1
 have hspec:=fun i=>L.redF_ok (NOK_take hnok i)
 obtain ⟨root,hro⟩:∃ x,x = (L.redF nl).2.getD (nl.length - 1) 0:=⟨_,rfl⟩
 have hnet:L.reduceL nl = L.netL (L.redF nl).1 root:=by rw [hro];rfl
 rw [hnet]
 replace hro:=Lib.hid hro
 clear hnet
 replace hcell:=Lib.hid hcell
 replace hspec:=Lib.hid hspec
 replace h2:=Lib.hid h2
 replace hx2:=Lib.hid hx2
 replace e0:=Lib.hid e0
 replace e1:=Lib.hid e1
 replace hnok:=Lib.hid hnok
 replace hP:=Lib.hid hP
 clear hcs hc hv
 go_enter Tryz.func62,Tryz.ntmps62
 go_wp2_with fail
 refine q1.mono ?_
 rintro e w3 ⟨rfl,hx3⟩
 have p0':=hx3.cell p0
 have p1':=hx3.cell p1
 have hx03:=Lib.hid (hx2.out.trans hx3)
 have hres3:=(hx3.below.block _ (Array.getElem?_eq_some_iff.1 e1.out).1).trans e1.out
 have hs3:w.heap.size+2≤w3.heap.size:=by have:=hx3.size;simp at this;omega
 replace hres3:=Lib.hid hres3
 clear q1 p0 p1 e0 e1 hx2 hx3
 have q2:=newND_any (n:=n) (w:=w3) hn
 go_wp2_with fail
 refine q2.mono ?_
 rintro e w4 ⟨bx,rfl,hNB,hb4⟩
 have p1'':=(hb4.cell (World.block_lt_of_cell? w3 _ p1')).trans p1'
 have hx5:=(Ext.refl w4).alloc (.cells (madeCells #[.int .i64 0] nl.length) 3)
 have p15:=hx5.cell p1''
 have hrd0:Hid (RedI w3 w4.heap.size bx n nl 0 (w4.alloc (.cells (madeCells #[.int .i64 0] nl.length) 3))):=Lib.hid ⟨hb4.trans (hx5.below.mono hb4.size),(hNB (w4.heap.size+1) (Nat.le_succ_of_le hb4.size)).next hx5.below,rowNew w4 nl.length _ _ w4.heap.size rfl,hb4.size,by simp⟩
 have hmk:∀ W,(Instr.makeSlice 25 (.int .i64 (nl.length:Nat)) (.int .i64 (nl.length:Nat))).run Tryz.prog W = .ok (.slice (some ⟨W.heap.size,0,none⟩) nl.length nl.length) (W.alloc (.cells (madeCells #[.int .i64 0] nl.length) 3)):=fun W=>make_row (by_:=8) Tryz.underlying25 int_info rfl nl.length (by omega) (by omega) W
 replace hNB:=Lib.hid hNB
 replace hb4:=Lib.hid hb4
 clear q2 p0' p1' hx5
 go_wp2_with fail
 generalize hga:w4.heap.size = ga at *
 generalize (w4.alloc (.cells (madeCells #[.int .i64 0] nl.length) 3)) = w5 at *
 clear p1'' p15 hNB hb4 hga hmk
 go_loopw [30] (fun i wr=>∃ k:Nat,k≤nl.length∧i = .int .i64 (k:Nat)∧Hid (RedI w3 ga bx n nl k wr)) (fun i _=>nl.length - (intOf i).toNat)
 case atStart=>exact ⟨0,Nat.zero_le _,rfl,hrd0⟩
 case round =>
  clear hrd0
  obtain ⟨i,hi,rfl,hJ⟩:=hrel
  by_cases hlt:i < nl.length
  ·have q0:(0:Int)≤(i:Int):=by omega
   have q1:(i:Int) < (nl.length:Int):=by omega
   obtain ⟨b,o,bb,cc,rfl,f0,f1,f2,fin⟩:=hcell.out i hlt
   have hxw:Below w.heap.size w wr:=hx03.out.below.trans (hJ.out.1.mono (by omega))
   have k0:=(hxw.cell (World.block_lt_of_cell? w _ f0)).trans f0
   have k1:=(hxw.cell (World.block_lt_of_cell? w _ f1)).trans f1
   have k2:=(hxw.cell (World.block_lt_of_cell? w _ f2)).trans f2
   obtain ⟨hB,-,hal,hbl,hat,-⟩:=hspec.out i
   have hti:(nl.take i).length = i:=by rw [List.length_take];omega
   rw [hti] at hal hbl hat
   have hkid:=hnok.out.kids i hlt
   have hform:=hnok.out.form _ (List.getElem_mem hlt)
   have hilen:=h2.out _ (List.getElem_mem hlt)
   have hred:=redF_take hlt
   obtain ⟨bl,hbe⟩:∃ x,x = (L.redF (nl.take i)).1:=⟨_,rfl⟩
   obtain ⟨ats,hae⟩:∃ x,x = (L.redF (nl.take i)).2:=⟨_,rfl⟩
   unfold RedI at hJ
   rw [←hbe,←hae] at hJ
   rw [←hbe] at hB hbl hat
   rw [←hae] at hal hat
   rw [←hbe,←hae] at hred
   replace hbe:=Lib.hid hbe
   replace hae:=Lib.hid hae
   generalize nl[i] = y at *
   obtain ⟨kd,lt,ip⟩:=y
   dsimp only at *
   obtain ⟨F,hF⟩:∃ F:Nat→Nat,F = fun k=>ats.getD k 0:=⟨_,rfl⟩
   have hFk:∀ k,rdV ats k = .int .i64 (F k:Nat):=fun k=>by rw [hF];rfl
   have hFlt:∀ k∈ip,F k < bl.length:=fun k hk=>by rw [hF];exact hat k (hkid k hk)
   rw [←hF] at hred
   have hfm:L.fmOk n bl.length ⟨kd,lt,castL (ip.map F)⟩ = true:=L.ofND_ok (y:=⟨kd,lt,ip.map F⟩) (fun k hk=>by
    obtain ⟨z,hz,rfl⟩:=List.mem_map.1 hk
    exact hFlt z hz) (by
    rcases hform with h | h | h
    ·exact .inl ⟨h.1,h.2.1,by show ip.map F = [];rw [h.2.2];rfl⟩
    ·exact .inr (.inl ⟨h.1,h.2.1,by show ip.map F = [];rw [h.2.2];rfl⟩)
    ·exact .inr (.inr h))
   have hkd:0≤kd∧kd≤4:=by rcases hform with h | h | h <;> omega
   have hltb:-128≤lt∧lt≤128:=by rcases hform with h | h | h <;> omega
   have hxx:=(Ext.refl wr).alloc (.cells #[.int .i64 kd,.int .i64 lt,.slice bb ip.length cc] 40)
   have hxn:=heap_alloc_new wr (.cells #[.int .i64 kd,.int .i64 lt,.slice bb ip.length cc] 40)
   have b2:(wr.alloc (.cells #[.int .i64 kd,.int .i64 lt,.slice bb ip.length cc] 40)).cell? ⟨wr.heap.size,2,none⟩ = some (.slice bb ip.length cc):=by rw [World.cell?,hxn];rfl
   have q:=cloneI_any (l:=castL ip) (v:=.slice bb ip.length cc) (w:=wr.alloc (.cells #[.int .i64 kd,.int .i64 lt,.slice bb ip.length cc] 40)) ((fin.ext hxw).ext hxx.below) (by rw [castL_len];omega)
   rw [castL_len] at q
   replace hF:=Lib.hid hF
   replace hFk:=Lib.hid hFk
   replace hFlt:=Lib.hid hFlt
   replace hfm:=Lib.hid hfm
   replace hred:=Lib.hid hred
   replace hkid:=Lib.hid hkid
   replace hB:=Lib.hid hB
   replace hal:=Lib.hid hal
   replace hxn:=Lib.hid hxn
   clear f0 f1 f2 fin hxx hform hat hti hxw
   go_wp2_with fail
   refine q.mono ?_
   rintro e w6 ⟨v4,rfl,ho4,hb6⟩
   have hsz:(wr.alloc (.cells #[.int .i64 kd,.int .i64 lt,.slice bb ip.length cc] 40)).heap.size = wr.heap.size+1:=by simp
   rw [hsz] at ho4 hb6
   obtain ⟨b4,c4,e4⟩:∃ b c,v4 = .slice b ip.length c:=by
    obtain ⟨ba,cp,h,_⟩:=owns_slI (l:=castL ip) (by rw [castL_len];exact ho4)
    rw [castL_len] at h
    exact ⟨ba,cp,h⟩
   subst e4
   have hM0:=Lib.hid (MvI.start (f:=F) hb6 ho4)
   have hb6':Below (wr.alloc (.cells #[.int .i64 kd,.int .i64 lt,.slice bb ip.length cc] 40)).heap.size (wr.alloc (.cells #[.int .i64 kd,.int .i64 lt,.slice bb ip.length cc] 40)) w6:=by rw [hsz];exact hb6
   have e2:=(hb6'.block wr.heap.size (by rw [hsz];exact Nat.lt_succ_self _)).trans hxn.out
   have b2':w6.cell? ⟨wr.heap.size,2,none⟩ = some (.slice bb ip.length cc):=by rw [World.cell?,e2];rfl
   have bf:w6.frozen? ⟨wr.heap.size,2,none⟩ = false:=by simp [World.frozen?,e2]
   have b2s:=hM0.out.box.2.2
   clear q hsz hb6 hb6' ho4 e2 b2 k0 k1 k2 hxn
   go_wp2_with fail
   generalize (w6.setCell ⟨wr.heap.size,2,none⟩ (.slice b4 ip.length c4)) = W5 at *
   generalize wr = wo at *
   clear b2' bf b2s
   go_loopw [42] (fun j' wr=>∃ j:Nat,j≤ip.length∧j' = .int .i64 (j:Nat)∧Hid (MvI wo kd lt b4 c4 F ip j wr)) (fun j' _=>ip.length - (intOf j').toNat)
   case atStart=>exact ⟨0,Nat.zero_le _,rfl,hM0⟩
   case round =>
    clear hM0
    obtain ⟨j,hj,rfl,hM⟩:=hrel
    by_cases hjl:j < ip.length
    ·have p0:(0:Int)≤(j:Int):=by omega
     have p1:(j:Int) < (ip.length:Int):=by omega
     obtain ⟨g4,rfl,x0,xf⟩:=hM.out.at_ hjl
     have x2:=hM.out.box.2.2
     have hck:=hkid.out _ (List.getElem_mem hjl)
     have hnx:=Lib.hid ((hM.out.drew).set hjl)
     obtain ⟨c,hc⟩:∃ c,c = ip[j]:=⟨_,rfl⟩
     rw [←hc] at x0 hck hnx
     have y0:=((hJ.out.2.2.1.below hM.out.1).cell (j:=c) (by omega)).1
     rw [hFk.out] at y0
     have m0:(0:Int)≤(c:Int):=by omega
     have m1:(c:Int) < (nl.length:Int):=by omega
     replace hc:=Lib.hid hc
     generalize F c = fc at *
     go_wp2_with fail
     have z0:wr.drew.cell? ⟨g4,j,none⟩ = some (.int .i64 (c:Nat)):=x0
     have z1:wr.drew.frozen? ⟨g4,j,none⟩ = false:=xf
     (refine wp_region_z (S:=(fun V=>V.cell? ⟨wo.heap.size,2,none⟩ = some (.slice (some ⟨g4,0,none⟩) ip.length c4)∧V.cell? ⟨g4,j,none⟩ = some (.int .i64 (c:Nat))∧V.cell? ⟨ga,c,none⟩ = some (.int .i64 (fc:Nat)))) 12 (by kernel_rfl) ?_ (fun hHeld=>?_))
     ·exact ⟨x2,x0,y0⟩
     clear x2 x0 y0 xf
     (refine wpZ_take (i:=0) (v:=?_) rfl (by kernel_rfl) (by decide) (by kernel_rfl) (by kernel_rfl) (by kernel_rfl) (fun _ _ _ h=>h) (Or.inl ⟨by rfl,?_⟩) (by assumption) ?_)
     rotate_left
     ·(intro w hSw;(try dsimp only at hSw);skip;go_simp;first | done | with_reducible rfl)
     (try simp only [Act.put,List.setIfInBounds_toArray,List.set_cons_zero,List.set_cons_succ])
     (refine wpZ_take (i:=1) (v:=?_) rfl (by kernel_rfl) (by decide) (by kernel_rfl) (by kernel_rfl) (by kernel_rfl) (fun _ _ _ h=>h) (Or.inl ⟨by rfl,?_⟩) (by assumption) ?_)
     rotate_left
     ·(intro w hSw;(try dsimp only at hSw);obtain ⟨s0,s1,s2⟩:=hSw;go_simp;first | done | with_reducible rfl)
     (try simp only [Act.put,List.setIfInBounds_toArray,List.set_cons_zero,List.set_cons_succ])
     (refine wpZ_take (i:=2) (v:=?_) rfl (by kernel_rfl) (by decide) (by kernel_rfl) (by kernel_rfl) (by kernel_rfl) (fun _ _ _ h=>h) (Or.inl ⟨by rfl,?_⟩) (by assumption) ?_)
     rotate_left
     ·(intro w hSw;(try dsimp only at hSw);skip;go_simp;first | done | with_reducible rfl)
     (try simp only [Act.put,List.setIfInBounds_toArray,List.set_cons_zero,List.set_cons_succ])
     (refine wpZ_take (i:=3) (v:=?_) rfl (by kernel_rfl) (by decide) (by kernel_rfl) (by kernel_rfl) (by kernel_rfl) (fun _ _ _ h=>h) (Or.inl ⟨by rfl,?_⟩) (by assumption) ?_)
     rotate_left
     ·(intro w hSw;(try dsimp only at hSw);skip;go_simp;first | done | with_reducible rfl)
     (try simp only [Act.put,List.setIfInBounds_toArray,List.set_cons_zero,List.set_cons_succ])
     (refine wpZ_take (i:=4) (v:=?_) rfl (by kernel_rfl) (by decide) (by kernel_rfl) (by kernel_rfl) (by kernel_rfl) (fun _ _ _ h=>h) (Or.inl ⟨by rfl,?_⟩) (by assumption) ?_)
     rotate_left
     ·(intro w hSw;(try dsimp only at hSw);skip;go_simp;first | done | with_reducible rfl)
     (try simp only [Act.put,List.setIfInBounds_toArray,List.set_cons_zero,List.set_cons_succ])
     (refine wpZ_take (i:=5) (v:=?_) rfl (by kernel_rfl) (by decide) (by kernel_rfl) (by kernel_rfl) (by kernel_rfl) (fun _ _ _ h=>h) (Or.inl ⟨by rfl,?_⟩) (by assumption) ?_)
     rotate_left
     ·(intro w hSw;(try dsimp only at hSw);obtain ⟨s0,s1,s2⟩:=hSw;go_simp;first | done | with_reducible rfl)
     (try simp only [Act.put,List.setIfInBounds_toArray,List.set_cons_zero,List.set_cons_succ])
     (refine wpZ_take (i:=6) (v:=?_) rfl (by kernel_rfl) (by decide) (by kernel_rfl) (by kernel_rfl) (by kernel_rfl) (fun _ _ _ h=>h) (Or.inl ⟨by rfl,?_⟩) (by assumption) ?_)
     rotate_left
     ·(intro w hSw;(try dsimp only at hSw);skip;go_simp;first | done | with_reducible rfl)
     (try simp only [Act.put,List.setIfInBounds_toArray,List.set_cons_zero,List.set_cons_succ])
     (refine wpZ_take (i:=7) (v:=?_) rfl (by kernel_rfl) (by decide) (by kernel_rfl) (by kernel_rfl) (by kernel_rfl) (fun _ _ _ h=>h) (Or.inl ⟨by rfl,?_⟩) (by assumption) ?_)
     rotate_left
     ·(intro w hSw;(try dsimp only at hSw);skip;go_simp;first | done | with_reducible rfl)
     (try simp only [Act.put,List.setIfInBounds_toArray,List.set_cons_zero,List.set_cons_succ])
     (refine wpZ_take (i:=8) (v:=?_) rfl (by kernel_rfl) (by decide) (by kernel_rfl) (by kernel_rfl) (by kernel_rfl) (fun _ _ _ h=>h) (Or.inl ⟨by rfl,?_⟩) (by assumption) ?_)
     rotate_left
     ·(intro w hSw;(try dsimp only at hSw);obtain ⟨s0,s1,s2⟩:=hSw;go_simp;first | done | with_reducible rfl)
     (try simp only [Act.put,List.setIfInBounds_toArray,List.set_cons_zero,List.set_cons_succ])
     (refine wpZ_take (i:=9) (v:=?_) rfl (by kernel_rfl) (by decide) (by kernel_rfl) (by kernel_rfl) (by kernel_rfl) (fun _ _ _ h=>h) (Or.inl ⟨by rfl,?_⟩) (by assumption) ?_)
     rotate_left
     ·(intro w hSw;(try dsimp only at hSw);skip;go_simp;first | done | with_reducible rfl)
     (try simp only [Act.put,List.setIfInBounds_toArray,List.set_cons_zero,List.set_cons_succ])
     (refine wpZ_take (i:=10) (v:=?_) rfl (by kernel_rfl) (by decide) (by kernel_rfl) (by kernel_rfl) (by kernel_rfl) (fun _ _ _ h=>h) (Or.inl ⟨by rfl,?_⟩) (by assumption) ?_)
     rotate_left
     ·(intro w hSw;(try dsimp only at hSw);obtain ⟨s0,s1,s2⟩:=hSw;go_simp;first | done | with_reducible rfl)
     (try simp only [Act.put,List.setIfInBounds_toArray,List.set_cons_zero,List.set_cons_succ])
     (refine wpZ_take (i:=11) (v:=?_) rfl (by kernel_rfl) (by decide) (by kernel_rfl) (by kernel_rfl) (by kernel_rfl) (fun _ _ _ h=>h) (Or.inl ⟨by rfl,?_⟩) (by assumption) ?_)
     rotate_left
     ·(intro w hSw;(try dsimp only at hSw);skip;go_simp;first | done | with_reducible rfl)
     (try simp only [Act.put,List.setIfInBounds_toArray,List.set_cons_zero,List.set_cons_succ])
     clear hHeld
     (refine wpZ_last (by kernel_rfl) rfl (by kernel_rfl) (fun K hK=>?_))
     ((rw [if_pos (by rfl)]);go_simp;refine hK.out _ _ ?_)
     (clear hK K)
     (try simp only [Act.put,List.setIfInBounds_toArray,List.set_cons_zero,List.set_cons_succ])
     go_wp2_with fail
     go_roundw
     case rel=>exact ⟨j+1,by omega,by go_num,hnx⟩
     case measure=>simp [intOf];omega
    ·obtain rfl:j = ip.length:=by omega
     obtain ⟨hMb,hMx,hMo⟩:=hM.out
     rw [mvL_all] at hMo
     obtain ⟨r1,r2,r3,r4,r5⟩:=hJ.out
     have hN5:=r2.next hMb
     have hr5:=r3.below hMb
     have hsz5:ga+1≤wr.heap.size:=Nat.le_trans r5 hMb.size
     have hP5:PowTab wr:=(hP.out.below hx03.out.below).below (r1.trans (hMb.mono r1.size))
     have hsI5:SlI wr (.slice b4 ip.length c4) (castL (ip.map F)):=by
      have:=owns_slI (l:=castL (ip.map F)) (by rw [castL_len,List.length_map];exact hMo)
      exact this
     have q:=bnadd_any (bb:=b4) (cc:=c4) (ip:=ip.map F) hN5 hsz5 hP5 (by omega) hB.out hn (by omega) (by rw [List.length_map];exact hsI5) (by rw [List.length_map];exact hilen) hfm.out hkd hltb (fun k hk=>by
      obtain ⟨z,hz,rfl⟩:=List.mem_map.1 hk
      exact hFlt.out z hz)
     simp only [List.length_map] at q
     have x0:wr.cell? ⟨wo.heap.size,0,none⟩ = some (.int .i64 kd):=by rw [World.cell?,hMx];rfl
     have x1:wr.cell? ⟨wo.heap.size,1,none⟩ = some (.int .i64 lt):=by rw [World.cell?,hMx];rfl
     have x2:wr.cell? ⟨wo.heap.size,2,none⟩ = some (.slice b4 ip.length c4):=by rw [World.cell?,hMx];rfl
     have hr1:=Lib.hid (r1.trans (hMb.mono r1.size))
     obtain ⟨idx,hidx⟩:∃ x,x = (L.addND bl ⟨kd,lt,ip.map F⟩).1:=⟨_,rfl⟩
     rw [←hidx] at q
     replace hN5:=Lib.hid hN5
     replace hr5:=Lib.hid hr5
     replace hP5:=Lib.hid hP5
     replace hidx:=Lib.hid hidx
     clear r1 r2 r3 r5 hMb hMx hMo hsI5 hM hJ
     go_wp2_with fail
     refine q.mono ?_
     rintro e w7 ⟨rfl,hN7,hBI⟩
     obtain ⟨rc,rc1,rc2,rc3⟩:=hr5.out
     have hr7:RowF w7 ga 3 nl.length (rdV ats):=⟨rc,hBI.2 _ _ rc1,rc2,rc3⟩
     obtain ⟨z0,z1⟩:=hr7.cell (j:=i) hlt
     have hnx:Hid (RedI w3 ga bx n nl (i+1) (w7.setCell ⟨ga,i,none⟩ (.int .i64 (idx:Nat)))):=Lib.hid (by
      unfold RedI
      rw [hred.out]
      refine ⟨(hr1.out.trans hBI.1).setCell (p:=⟨ga,i,none⟩) r4 _,hN7.setInt (hBI.2 _ _ rc1) (Nat.lt_succ_self _),?_,r4,?_⟩
      ·refine (hr7.set i _).congr fun j _=>?_
       rw [hidx.out]
       have:=rdV_snoc ats (L.addND bl ⟨kd,lt,ip.map F⟩).1 j
       rw [hal.out] at this
       exact this
      ·have:=hBI.1.size
       show ga+1≤(w7.setCell _ _).heap.size
       simp only [World.setCell,Array.size_modify]
       have:=(Array.getElem?_eq_some_iff.1 (hBI.2 _ _ rc1)).1
       omega)
     clear q hN7 hBI rc1 rc2 rc3 hr7 x0 x1 x2
     go_wp2_with fail
     go_roundw
     case rel=>exact ⟨i+1,by omega,by go_num,hnx⟩
     case measure=>simp [intOf];omega
  ·obtain rfl:i = nl.length:=by omega
   obtain ⟨r1,r2,r3,r4,r5⟩:=hJ.out
   obtain ⟨hB,-,hal,hbl,hat,-⟩:=hspec.out nl.length
   rw [List.take_length] at hB hal hbl hat r2 r3
   have hroot:=hat (nl.length - 1) (by omega)
   have y0:=(r3.cell (j:=nl.length - 1) (by omega)).1
   have ey:rdV (L.redF nl).2 (nl.length - 1) = .int .i64 (root:Nat):=by rw [hro.out];rfl
   rw [ey] at y0
   rw [←hro.out] at hroot
   have q:=bnet_any r2 hB hroot (by omega)
   have ei:((nl.length:Int) - 1) = ((nl.length - 1:Nat):Int):=by omega
   obtain ⟨m,hm⟩:∃ m,m = nl.length - 1:=⟨_,rfl⟩
   rw [←hm] at y0 ei
   have m0:(0:Int)≤(m:Int):=by omega
   have m1:(m:Int) < (nl.length:Int):=by omega
   have hwr:IntKind.i64.wrap ((nl.length:Int) - 1) = (m:Int):=by rw [ei];exact IntWalk.i64_in _ (by omega)
   have hr1:=Lib.hid r1
   replace hJ:=Lib.hid hJ.out
   replace hm:=Lib.hid hm
   clear r1 r2 r3 hB hal hbl hat ey
   go_wp2_with fail
   refine q.mono ?_
   rintro e w9 ⟨vL,us,rfl,ho9,hR9,hb9⟩
   obtain ⟨O,hO⟩:∃ O,O = L.netL (L.redF nl).1 root:=⟨_,rfl⟩
   rw [←hO] at ho9 hR9
   replace hO:=Lib.hid hO
   have hz:w9.heap[w.heap.size+1]? = some (.cells #[.int .i64 0,.slice none 0 0] 24 (0,0)):=by
    have h1:=(hr1.out.block _ (Array.getElem?_eq_some_iff.1 hres3.out).1).trans hres3.out
    exact (hb9.block _ (Array.getElem?_eq_some_iff.1 h1).1).trans h1
   obtain ⟨bL,cL,rfl⟩:∃ b c,vL = .slice b O.length c:=by
    obtain ⟨_,⟨rfl,e⟩ | ⟨g,cap,cur,rfl,_⟩⟩:=ho9
    ·rw [e];exact ⟨_,_,rfl⟩
    ·exact ⟨_,_,rfl⟩
   have z0:w9.cell? ⟨w.heap.size+1,0,none⟩ = some (.int .i64 0):=by rw [World.cell?,hz];rfl
   have z1:w9.cell? ⟨w.heap.size+1,1,none⟩ = some (.slice none 0 0):=by rw [World.cell?,hz];rfl
   have y0:w9.frozen? ⟨w.heap.size+1,0,none⟩ = false:=by simp [World.frozen?,hz]
   have y1:w9.frozen? ⟨w.heap.size+1,1,none⟩ = false:=by simp [World.frozen?,hz]
   obtain ⟨t0,t1⟩:=box2_set hz (.int .i64 n) (.slice bL O.length cL)
   have hws:w.heap.size+1 < wr.heap.size+2:=by have:=hr1.out.size;omega
   have hwl:w.heap.size≤wr.heap.size+2:=by omega
   have hBw:Below w.heap.size w w9:=hx03.out.below.trans ((hr1.out.mono (by omega)).trans (hb9.mono (by omega)))
   have hfin:=Lib.hid (And.intro (own_weak (ownsRow_setCell_below (ownsRow_setCell_below ho9 (a:=⟨w.heap.size+1,0,none⟩) hws (.int .i64 n)) (a:=⟨w.heap.size+1,1,none⟩) hws (.slice bL O.length cL)) hwl) (And.intro (((hR9.setLow (a:=⟨w.heap.size+1,0,none⟩) hws (.int .i64 n)).setLow (a:=⟨w.heap.size+1,1,none⟩) hws (.slice bL O.length cL)).weak hwl) ((hBw.setCell (Nat.le_succ _) (.int .i64 n) (p:=⟨w.heap.size+1,0,none⟩)).setCell (Nat.le_succ _) (.slice bL O.length cL) (p:=⟨w.heap.size+1,1,none⟩))))
   replace t0:=Lib.hid t0
   replace t1:=Lib.hid t1
   clear q hz ho9 hR9 hb9 hBw
   go_wp2_with fail
   have hOo:=hO.out
   subst hOo
   exact bodyPost_ret (v:=.tuple #[.agg #[.int .i64 n,.slice bL (L.netL (L.redF nl).1 root).length cL],.int .i64 0]) (by simp [results,Tryz.results62,go_sem,t0.out,t1.out]) rfl ⟨_,us,rfl,hfin.out.1,hfin.out.2.1,hfin.out.2.2⟩
end Go.Proofs.YtckhohpbokojdaaGreatDoor
