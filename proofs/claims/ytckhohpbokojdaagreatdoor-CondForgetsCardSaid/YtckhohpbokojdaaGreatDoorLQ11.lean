import Derived.Test.YtckhohpbokojdaaGreatDoorLQ10
import Derived.Test.YtckhohpbokojdaaGreatDoorLN28
import Derived.Maps.AppendAt
set_option linter.unusedSimpArgs false
set_option linter.unusedVariables false
namespace Go.Proofs.YtckhohpbokojdaaGreatDoor
open Go Go.RowKit Go.Shelf
theorem flat_len {bl:List L.ND} {kd:Int} {m:Nat} (hm:1≤m):∀ {l:List Nat},(∀ i∈l,(L.ndAt bl i).inp.length≤m)→(L.flatND bl kd l).length≤l.length * m
 | [],_=>Nat.zero_le _
 | a :: r,h=>by
   have ih:=flat_len (bl:=bl) (kd:=kd) (l:=r) hm fun i hi=>h i (List.mem_cons_of_mem _ hi)
   have ha:=h a (List.mem_cons_self ..)
   unfold L.flatND at ih ⊢
   rw [List.flatMap_cons,List.length_append,List.length_cons,Nat.add_mul,Nat.one_mul]
   have:(if (L.ndAt bl a).kind = kd then (L.ndAt bl a).inp else [a]).length≤m:=by
    split
    ·exact ha
    ·simpa using hm
   omega
def RedR (w3:World) (bx:Nat) (n:Int) (nl:List L.ND) (i:Nat) (vat:Value) (V:World):Prop :=
 Below w3.heap.size w3 V∧(∃ fb,fb < V.heap.size∧(∀ k,vat.ownBlock = some k→k = fb)∧RB fb w3.heap.size (w3.heap.size+1) bx n (L.redF (nl.take i)).1 V)∧V.ownsRow (w3.heap.size+1) 3 1 vat i ((castL (L.redF (nl.take i)).2).map encZ)∧w3.heap.size+1≤V.heap.size
set_option maxRecDepth 100000 in
set_option maxHeartbeats 3000000 in
theorem rreduce_any {n:Int} {nl:List L.ND} {v:Value} {w:World} (hv:SlC w v (nl.map L.ofND)) (hc:L.netChk n (nl.map L.ofND) = 0) (hl:nl.length≤2000) (h2:∀ y∈nl,y.inp.length≤400) :
  Calls Tryz.prog 43 #[.agg #[.int .i64 n,v]] w fun e w'=>∃ vL us,e = .returned (.tuple #[.agg #[.int .i64 n,vL],.bool true])∧w'.ownsRow w.heap.size 40 3 vL (L.reduceL nl).length (gCells ((L.reduceL nl).map L.ofND) us)∧RowsOf w' w.heap.size us ((L.reduceL nl).map fun y=>castL y.inp)∧Below w.heap.size w w':=by
 have hnok:L.NOK n nl:=by
  have:=(L.net_nok hc).1
  rwa [List.map_map,show (L.toND ∘ L.ofND) = id from funext L.toND_ofND,List.map_id] at this
 obtain ⟨hn,hl1,_⟩:=L.netChk_ok.1 hc
 rw [List.length_map] at hl1
 obtain ⟨i0,hi0,hz0,hz1,hz2⟩:=info_parts int_info
 obtain ⟨ba,cp,rfl,hcell⟩:=slC_nd hv
 have hx2:Ext w ((w.alloc (.cells #[.int .i64 n,.slice ba nl.length cp] 24)).alloc (.cells #[.int .i64 0,.slice none 0 0] 24)):=((Ext.refl w).alloc _).alloc _
 obtain ⟨e0,e1⟩:=alloc2h w (.cells #[.int .i64 n,.slice ba nl.length cp] 24) (.cells #[.int .i64 0,.slice none 0 0] 24)
 have p0:((w.alloc (.cells #[.int .i64 n,.slice ba nl.length cp] 24)).alloc (.cells #[.int .i64 0,.slice none 0 0] 24)).cell? ⟨w.heap.size,0,none⟩ = some (.int .i64 n):=by rw [World.cell?,e0];rfl
 have p1:((w.alloc (.cells #[.int .i64 n,.slice ba nl.length cp] 24)).alloc (.cells #[.int .i64 0,.slice none 0 0] 24)).cell? ⟨w.heap.size,1,none⟩ = some (.slice ba nl.length cp):=by rw [World.cell?,e0];rfl
 have q1:=rvalid20_any (n:=n) (hv.ext hx2.below) (fun g hg=>by
  obtain ⟨y,hy,rfl⟩:=List.mem_map.1 hg
  have:=h2 y hy
  have e:(L.ofND y).inp.length = y.inp.length:=castL_len y.inp
  omega) (by rw [List.length_map];omega)
 rw [hc,show decide ((0:Int) = 0) = true from rfl] at q1
 have hspec:=fun i=>L.redF_ok (NOK_take hnok i)
 obtain ⟨root,hro⟩:∃ x,x = (L.redF nl).2.getD (nl.length - 1) 0:=⟨_,rfl⟩
 have hnet:L.reduceL nl = L.netL (L.redF nl).1 root:=by rw [hro];rfl
 rw [hnet]
 replace hro:=Lib.hid hro
 clear hnet
 replace hcell:=Lib.hid hcell
 replace hspec:=Lib.hid hspec
 replace h2:=Lib.hid h2
 replace hx2:=Lib.hid hx2
 replace e0:=Lib.hid e0
 replace e1:=Lib.hid e1
 replace hnok:=Lib.hid hnok
 clear hc hv
 go_enter Tryz.func43,Tryz.ntmps43
 go_wp2_with fail
 refine q1.mono ?_
 rintro e w3 ⟨rfl,hx3⟩
 have p0':=hx3.cell p0
 have p1':=hx3.cell p1
 have hx03:=Lib.hid (hx2.out.trans hx3)
 have hres3:=(hx3.below.block _ (Array.getElem?_eq_some_iff.1 e1.out).1).trans e1.out
 have hs3:w.heap.size+2≤w3.heap.size:=by have:=hx3.size;simp at this;omega
 replace hres3:=Lib.hid hres3
 clear q1 p0 p1 e0 e1 hx2 hx3
 have hxB:=(Ext.refl w3).alloc (.cells #[.int .i64 n,.slice none 0 0] 92)
 have hnB:=heap_alloc_new w3 (.cells #[.int .i64 n,.slice none 0 0] 92)
 have hrd0:Hid (RedR w3 w3.heap.size n nl 0 (.slice none 0 0) (w3.alloc (.cells #[.int .i64 n,.slice none 0 0] 92))):=Lib.hid ⟨hxB.below,⟨w3.heap.size,by simp,fun k e=>by simp [Value.ownBlock] at e,.slice none 0 0,[],hnB,⟨rfl,.inl ⟨rfl,rfl⟩⟩,RowsOf.nil _ _,Nat.le_refl _,Nat.le_succ _,fun u hu=>absurd hu (List.not_mem_nil)⟩,⟨rfl,.inl ⟨rfl,rfl⟩⟩,by simp⟩
 have p1'':=hxB.cell p1'
 have hnet:Hid (∀ V,Below w3.heap.size w3 V→V.cell? ⟨w.heap.size,1,none⟩ = some (.slice ba nl.length cp)):=Lib.hid fun V hV=>(hV.cell (World.block_lt_of_cell? w3 _ p1')).trans p1'
 clear hxB hnB
 go_wp2_with fail
 obtain ⟨bx,hbx⟩:∃ bx,bx = w3.heap.size:=⟨_,rfl⟩
 simp only [←hbx]
 have hrd1:Hid (RedR w3 bx n nl 0 (.slice none 0 0) (w3.alloc (.cells #[.int .i64 n,.slice none 0 0] 92))):=by rw [hbx];exact hrd0
 clear hrd0 p0' p1' p1''
 generalize (w3.alloc (.cells #[.int .i64 n,.slice none 0 0] 92)) = w5 at *
 replace hbx:=Lib.hid hbx
 go_loopw [5,6] (fun vat i wr=>∃ k:Nat,k≤nl.length∧i = .int .i64 (k:Nat)∧Hid (RedR w3 bx n nl k vat wr)) (fun _ i _=>nl.length - (intOf i).toNat)
 case atStart=>exact ⟨0,Nat.zero_le _,rfl,hrd1⟩
 case round =>
  clear hrd1
  obtain ⟨i,hi,rfl,hJ⟩:=hrel
  have pn:=hnet.out _ hJ.out.1
  by_cases hlt:i < nl.length
  ·have q0:(0:Int)≤(i:Int):=by omega
   have q1:(i:Int) < (nl.length:Int):=by omega
   have di:decide ((i:Int) < (nl.length:Int)) = true:=decide_eq_true q1
   obtain ⟨b,o,bb,cc,rfl,f0,f1,f2,fin⟩:=hcell.out i hlt
   have hxw:∀ V,Below w3.heap.size w3 V→Below w.heap.size w V:=fun V hV=>hx03.out.below.trans (hV.mono (by omega))
   have kp:∀ V,Below w3.heap.size w3 V→∀ {a:Addr} {v:Value},w.cell? a = some v→V.cell? a = some v:=fun V hV {a v} e=>((hxw V hV).cell (World.block_lt_of_cell? w _ e)).trans e
   obtain ⟨hB,-,hal,hbl,hat,-⟩:=hspec.out i
   have hti:(nl.take i).length = i:=by rw [List.length_take];omega
   rw [hti] at hal hbl hat
   have hkid:=hnok.out.kids i hlt
   have hform:=hnok.out.form _ (List.getElem_mem hlt)
   have hilen:=h2.out _ (List.getElem_mem hlt)
   have hred:=redF_take hlt
   obtain ⟨bl,hbe⟩:∃ x,x = (L.redF (nl.take i)).1:=⟨_,rfl⟩
   obtain ⟨ats,hae⟩:∃ x,x = (L.redF (nl.take i)).2:=⟨_,rfl⟩
   unfold RedR at hJ
   rw [←hbe,←hae] at hJ
   rw [←hbe] at hB hbl hat
   rw [←hae] at hal hat
   rw [←hbe,←hae] at hred
   replace hbe:=Lib.hid hbe
   replace hae:=Lib.hid hae
   have fin2:∀ V,Below w3.heap.size w3 V→SlI V (.slice bb nl[i].inp.length cc) (castL nl[i].inp):=fun V hV=>fin.ext (hxw V hV)
   generalize nl[i] = y at *
   obtain ⟨kd,lt,ip⟩:=y
   dsimp only at *
   obtain ⟨F,hF⟩:∃ F:Nat→Nat,F = fun k=>ats.getD k 0:=⟨_,rfl⟩
   have hFat:∀ k (hk:k < ats.length),ats[k] = F k:=fun k hk=>by rw [hF];show _ = ats.getD k 0;rw [List.getD_eq_getElem?_getD,List.getElem?_eq_getElem hk];rfl
   have hFlt:∀ k∈ip,F k < bl.length:=fun k hk=>by rw [hF];exact hat k (hkid k hk)
   rw [←hF] at hred
   have hfm:L.fmOk n bl.length ⟨kd,lt,castL (ip.map F)⟩ = true:=L.ofND_ok (y:=⟨kd,lt,ip.map F⟩) (fun k hk=>by
    obtain ⟨z,hz,rfl⟩:=List.mem_map.1 hk
    exact hFlt z hz) (by
    rcases hform with h | h | h
    ·exact .inl ⟨h.1,h.2.1,by show ip.map F = [];rw [h.2.2];rfl⟩
    ·exact .inr (.inl ⟨h.1,h.2.1,by show ip.map F = [];rw [h.2.2];rfl⟩)
    ·exact .inr (.inr h))
   have hkd:0≤kd∧kd≤4:=by rcases hform with h | h | h <;> omega
   rename World=>wr
   have hJm:∀ V,Below wr.heap.size wr V→Below w3.heap.size w3 V:=fun V hV=>hJ.out.1.trans (hV.mono hJ.out.1.size)
   have hS:∀ V,Below wr.heap.size wr V→V.cell? ⟨w.heap.size,1,none⟩ = some (.slice (some ⟨b,o,none⟩) nl.length cp)∧V.cell? ⟨b,o+i * 3,none⟩ = some (.int .i64 kd)∧V.cell? ⟨b,o+i * 3+1,none⟩ = some (.int .i64 lt):=fun V hV=>⟨hnet.out V (hJm V hV),kp V (hJm V hV) f0,kp V (hJm V hV) f1⟩
   have hf2:=Lib.hid fun V (hV:Below wr.heap.size wr V)=>And.intro (kp V (hJm V hV) f2) (hnet.out V (hJm V hV))
   have hE:=Lib.hid ((Below.refl wr.heap.size wr).drew)
   obtain ⟨k3,k0,k1⟩:=hS wr.drew hE.out
   have hip2:Hid (∀ V,Below wr.heap.size wr V→∀ (j:Nat) (hj:j < ip.length),∃ b o,bb = some ⟨b,o,none⟩∧V.cell? ⟨b,o+j,none⟩ = some (.int .i64 ((ip[j]:Nat):Int))):=Lib.hid fun V hV j hj=>by
    obtain ⟨_,_,e,hip⟩:=slI_castN (fin2 V (hJm V hV))
    simp only [Value.slice.injEq] at e
    obtain ⟨rfl,-,-⟩:=e
    obtain ⟨b,o,e,hb,hc⟩:=hip j hj
    exact ⟨b,o,e,hc⟩
   obtain ⟨fb,hfb1,hfb2,hRB⟩:=hJ.out.2.1
   have hown:=hJ.out.2.2.1
   have hszJ:=hJ.out.2.2.2
   have hJ1:=Lib.hid hJ.out.1
   replace hS:=Lib.hid hS
   replace hF:=Lib.hid hF
   replace hFat:=Lib.hid hFat
   replace hFlt:=Lib.hid hFlt
   replace hfm:=Lib.hid hfm
   replace hred:=Lib.hid hred
   replace hkid:=Lib.hid hkid
   replace hB:=Lib.hid hB
   replace hal:=Lib.hid hal
   replace hJm:=Lib.hid hJm
   replace hfb2:=Lib.hid hfb2
   replace hRB:=Lib.hid hRB
   replace hown:=Lib.hid hown
   clear f0 f1 f2 fin fin2 hform hat hti hxw kp hJ
   go_wp2_with fail
   clear pn
   (refine wp_region_held_drew (S:=(fun V=>V.cell? ⟨w.heap.size,1,none⟩ = some (.slice (some ⟨b,o,none⟩) nl.length cp)∧V.cell? ⟨b,o+i * 3,none⟩ = some (.int .i64 kd)∧V.cell? ⟨b,o+i * 3+1,none⟩ = some (.int .i64 lt))) (by kernel_rfl) ?_ (fun hHeld=>?_))
   ·exact hS.out _ hE.out
   (refine takeL (i:=0) (v:=?_) rfl (by kernel_rfl) (by kernel_rfl) (by kernel_rfl) (fun _ _ _ h=>h) (Or.inl ⟨by rfl,?_⟩) (by assumption) ?_)
   rotate_left
   ·(intro w hSw;(try dsimp only at hSw);go_simp;first | done | with_reducible rfl)
   (try simp only [Act.put,List.setIfInBounds_toArray,List.set_cons_zero,List.set_cons_succ])
   (refine takeL (i:=1) (v:=?_) rfl (by kernel_rfl) (by kernel_rfl) (by kernel_rfl) (fun _ _ _ h=>h) (Or.inl ⟨by rfl,?_⟩) (by assumption) ?_)
   rotate_left
   ·(intro w hSw;(try dsimp only at hSw);go_simp;first | done | with_reducible rfl)
   (try simp only [Act.put,List.setIfInBounds_toArray,List.set_cons_zero,List.set_cons_succ])
   (refine takeL (i:=2) (v:=?_) rfl (by kernel_rfl) (by kernel_rfl) (by kernel_rfl) (fun _ _ _ h=>h) (Or.inl ⟨by rfl,?_⟩) (by assumption) ?_)
   rotate_left
   ·(intro w hSw;(try dsimp only at hSw);go_simp;first | done | with_reducible rfl)
   (try simp only [Act.put,List.setIfInBounds_toArray,List.set_cons_zero,List.set_cons_succ])
   (refine takeL (i:=3) (v:=?_) rfl (by kernel_rfl) (by kernel_rfl) (by kernel_rfl) (fun _ _ _ h=>h) (Or.inl ⟨by rfl,?_⟩) (by assumption) ?_)
   rotate_left
   ·(intro w hSw;(try dsimp only at hSw);go_simp;first | done | with_reducible rfl)
   (try simp only [Act.put,List.setIfInBounds_toArray,List.set_cons_zero,List.set_cons_succ])
   (refine takeL (i:=4) (v:=?_) rfl (by kernel_rfl) (by kernel_rfl) (by kernel_rfl) (fun _ _ _ h=>h) (Or.inl ⟨by rfl,?_⟩) (by assumption) ?_)
   rotate_left
   ·(intro w hSw;(try dsimp only at hSw);go_simp;first | done | with_reducible rfl)
   (try simp only [Act.put,List.setIfInBounds_toArray,List.set_cons_zero,List.set_cons_succ])
   (refine takeL (i:=5) (v:=?_) rfl (by kernel_rfl) (by kernel_rfl) (by kernel_rfl) (fun _ _ _ h=>h) (Or.inl ⟨by rfl,?_⟩) (by assumption) ?_)
   rotate_left
   ·(intro w hSw;(try dsimp only at hSw);go_simp;first | done | with_reducible rfl)
   (try simp only [Act.put,List.setIfInBounds_toArray,List.set_cons_zero,List.set_cons_succ])
   (refine takeL (i:=6) (v:=?_) rfl (by kernel_rfl) (by kernel_rfl) (by kernel_rfl) (fun _ _ _ h=>h) (Or.inl ⟨by rfl,?_⟩) (by assumption) ?_)
   rotate_left
   ·(intro w hSw;(try dsimp only at hSw);go_simp;first | done | with_reducible rfl)
   (try simp only [Act.put,List.setIfInBounds_toArray,List.set_cons_zero,List.set_cons_succ])
   (refine takeL (i:=7) (v:=?_) rfl (by kernel_rfl) (by kernel_rfl) (by kernel_rfl) (fun _ _ _ h=>h) (Or.inl ⟨by rfl,?_⟩) (by assumption) ?_)
   rotate_left
   ·(intro w hSw;(try dsimp only at hSw);go_simp;first | done | with_reducible rfl)
   (try simp only [Act.put,List.setIfInBounds_toArray,List.set_cons_zero,List.set_cons_succ])
   (refine takeL (i:=8) (v:=?_) rfl (by kernel_rfl) (by kernel_rfl) (by kernel_rfl) (fun _ _ _ h=>h) (Or.inl ⟨by rfl,?_⟩) (by assumption) ?_)
   rotate_left
   ·(intro w hSw;(try dsimp only at hSw);go_simp;first | done | with_reducible rfl)
   (try simp only [Act.put,List.setIfInBounds_toArray,List.set_cons_zero,List.set_cons_succ])
   (refine takeL (i:=9) (v:=?_) rfl (by kernel_rfl) (by kernel_rfl) (by kernel_rfl) (fun _ _ _ h=>h) (Or.inl ⟨by rfl,?_⟩) (by assumption) ?_)
   rotate_left
   ·(intro w hSw;(try dsimp only at hSw);go_simp;first | done | with_reducible rfl)
   (try simp only [Act.put,List.setIfInBounds_toArray,List.set_cons_zero,List.set_cons_succ])
   (refine takeL (i:=10) (v:=?_) rfl (by kernel_rfl) (by kernel_rfl) (by kernel_rfl) (fun _ _ _ h=>h) (Or.inl ⟨by rfl,?_⟩) (by assumption) ?_)
   rotate_left
   ·(intro w hSw;(try dsimp only at hSw);go_simp;first | done | with_reducible rfl)
   (try simp only [Act.put,List.setIfInBounds_toArray,List.set_cons_zero,List.set_cons_succ])
   (refine takeL (i:=11) (v:=?_) rfl (by kernel_rfl) (by kernel_rfl) (by kernel_rfl) (fun _ _ _ h=>h) (Or.inl ⟨by rfl,?_⟩) (by assumption) ?_)
   rotate_left
   ·(intro w hSw;(try dsimp only at hSw);go_simp;first | done | with_reducible rfl)
   (try simp only [Act.put,List.setIfInBounds_toArray,List.set_cons_zero,List.set_cons_succ])
   (refine takeL (i:=12) (v:=?_) rfl (by kernel_rfl) (by kernel_rfl) (by kernel_rfl) (fun _ _ _ h=>h) (Or.inl ⟨by rfl,?_⟩) (by assumption) ?_)
   rotate_left
   ·(intro w hSw;(try dsimp only at hSw);go_simp;first | done | with_reducible rfl)
   (try simp only [Act.put,List.setIfInBounds_toArray,List.set_cons_zero,List.set_cons_succ])
   clear k0 k1 k3
   generalize wr.drew = wd at *
   (refine wpAnyH_ready (rs:=[13]) (by kernel_rfl) (by simp) ?_)
   (refine consL rfl (fun K hK=>?_))
   ((rw [if_pos (by rfl)]);go_simp;obtain ⟨xb,wv,hx',hW,hE2,hobxb,hoblxb,hbv⟩:=belAllocQ hE.out (.cells #[.int .i64 0,.int .i64 0,.slice none 0 0] 40);rw [←hW,←hx'];replace hE:=Lib.hid hE2;replace hx':=Lib.hid hx';replace hW:=Lib.hid hW;refine hK.out _ _ (hS.out _ hE.out) (fun hHeld=>?_);clear hE2 hbv)
   (clear hK K)
   (try simp only [Act.put,List.setIfInBounds_toArray,List.set_cons_zero,List.set_cons_succ])
   obtain ⟨⟨z0,z1,z2⟩,y0,y1,y2⟩:=bx3q hobxb
   obtain ⟨hF1,hF2⟩:=store3q (a0:=.int .i64 kd) (a1:=.int .i64 lt) (a2:=.slice none 0 0) hE.out hoblxb hobxb
   have hXs:=Lib.hid (XIn.start hF1 hF2 hoblxb)
   replace hF1:=Lib.hid hF1
   replace hF2:=Lib.hid hF2
   replace hobxb:=Lib.hid hobxb
   (refine wpAnyH_ready (rs:=[14]) (by kernel_rfl) (by simp) ?_)
   (refine consL rfl (fun K hK=>?_))
   ((rw [if_pos (by rfl)]);go_simp;refine hK.out _ _ (hS.out _ hF1.out) (fun hHeld=>?_))
   (clear hK K)
   (try simp only [Act.put,List.setIfInBounds_toArray,List.set_cons_zero,List.set_cons_succ])
   (refine wpAnyH_done (by kernel_rfl) ?_ _)
   clear z0 z1 z2 y0 y1 y2 hHeld hF1 hF2 hW hobxb hx'
   go_wp2_with fail
   generalize wr = wo at *
   generalize (((wv.setCell ⟨xb,0,none⟩ (.int .i64 kd)).setCell ⟨xb,1,none⟩ (.int .i64 lt)).setCell ⟨xb,2,none⟩ (.slice none 0 0)) = w4 at *
   clear hE
   go_loopw [8] (fun j' wr=>∃ (j:Nat) (vx:Value),j≤ip.length∧j' = .int .i64 (j:Nat)∧Hid (XIn wo xb kd lt ((ip.take j).map F) vx wr)) (fun j' _=>ip.length - (intOf j').toNat)
   case atStart=>exact ⟨0,_,Nat.zero_le _,rfl,hXs⟩
   case round =>
    clear hXs
    obtain ⟨j,vx,hj,rfl,hM⟩:=hrel
    obtain ⟨f2w,c1w⟩:=hf2.out _ hM.out.1
    by_cases hjl:j < ip.length
    ·have p0:(0:Int)≤(j:Int):=by omega
     have p1:(j:Int) < (ip.length:Int):=by omega
     have dj:decide ((j:Int) < (ip.length:Int)) = true:=decide_eq_true p1
     obtain ⟨lj,hlj0⟩:∃ lj,lj = (ip.take j).map F:=⟨_,rfl⟩
     have hlj:Hid (lj.length = j):=Lib.hid (by rw [hlj0,List.length_map,List.length_take];omega)
     have hck:=hkid.out _ (List.getElem_mem hjl)
     have hnl:(ip.take (j+1)).map F = lj++[F ip[j]]:=by rw [List.take_succ_eq_append_getElem hjl,List.map_append,hlj0];rfl
     rw [←hlj0] at hM
     replace hlj0:=Lib.hid hlj0
     have hip3:=fun V hV=>hip2.out V hV j hjl
     obtain ⟨b2,o2,hbb,-⟩:=hip3 wo (Below.refl _ _)
     have hx0:∀ V,Below wo.heap.size wo V→V.cell? ⟨b2,o2+j,none⟩ = some (.int .i64 ((ip[j]:Nat):Int)):=fun V hV=>by
      obtain ⟨b',o',e,h⟩:=hip3 V hV
      rw [hbb] at e
      simp only [Option.some.injEq,Addr.mk.injEq] at e
      rw [e.1,e.2.1];exact h
     clear hip3
     generalize ip[j] = c at *
     have hcl:c < ats.length:=by have:=hal.out;omega
     obtain ⟨gat,cat,hvat,hca⟩:=ownsRow_cellN hown.out (k:=c) (by rw [List.length_map,castL_len];exact hcl)
     have hac:wo.cell? ⟨gat,c,none⟩ = some (.int .i64 ((F c:Nat):Int)):=by
      have:=hca c (by rw [List.length_map,castL_len];exact hcl)
      rw [Nat.zero_add] at this
      rw [this,←hFat.out c hcl]
      simp [castL,encZ]
     clear hca
     obtain ⟨fc,hfc⟩:∃ fc,fc = F c:=⟨_,rfl⟩
     rw [←hfc] at hnl hac
     subst hbb
     subst hvat
     obtain ⟨vb,vc,hvx⟩:=hM.out.shape
     rw [hlj.out] at hvx
     subst hvx
     have hS2:∀ V,Below wo.heap.size wo V→V.heap[xb]? = some (.cells #[.int .i64 kd,.int .i64 lt,.slice vb j vc] 40 (0,0))→V.cell? ⟨xb,2,none⟩ = some (.slice vb j vc)∧V.cell? ⟨w.heap.size,1,none⟩ = some (.slice (some ⟨b,o,none⟩) nl.length cp)∧V.cell? ⟨b,o+i * 3+2,none⟩ = some (.slice (some ⟨b2,o2,none⟩) ip.length cc)∧V.cell? ⟨b2,o2+j,none⟩ = some (.int .i64 (c:Nat))∧V.cell? ⟨gat,c,none⟩ = some (.int .i64 (fc:Nat)):=fun V hV hx=>by
      obtain ⟨a1,a2⟩:=hf2.out V hV
      exact ⟨(bx3q hx).1.2.2,a2,a1,hx0 V hV,(hV.cell (World.block_lt_of_cell? wo _ hac)).trans hac⟩
     have hS:∀ V,XIn wo xb kd lt lj (.slice vb j vc) V→V.cell? ⟨xb,2,none⟩ = some (.slice vb j vc)∧V.cell? ⟨w.heap.size,1,none⟩ = some (.slice (some ⟨b,o,none⟩) nl.length cp)∧V.cell? ⟨b,o+i * 3+2,none⟩ = some (.slice (some ⟨b2,o2,none⟩) ip.length cc)∧V.cell? ⟨b2,o2+j,none⟩ = some (.int .i64 (c:Nat))∧V.cell? ⟨gat,c,none⟩ = some (.int .i64 (fc:Nat)):=fun V hV=>hS2 V hV.1 hV.2.1
     have hMd:=Lib.hid (hM.out.next (Below.refl wr.heap.size wr).drew)
     obtain ⟨x2,-,f2j,x0,-⟩:=hS _ hMd.out
     have m0:(0:Int)≤(c:Int):=by omega
     have m1:(c:Int) < (i:Int):=by omega
     replace hS:=Lib.hid hS
     replace hS2:=Lib.hid hS2
     replace hfc:=Lib.hid hfc
     replace hnl:=Lib.hid hnl
     replace hx0:=Lib.hid hx0
     replace hac:=Lib.hid hac
     go_wp2_with fail
     clear f2w c1w
     (refine wp_region_z (S:=(fun V=>V.cell? ⟨xb,2,none⟩ = some (.slice vb j vc)∧V.cell? ⟨w.heap.size,1,none⟩ = some (.slice (some ⟨b,o,none⟩) nl.length cp)∧V.cell? ⟨b,o+i * 3+2,none⟩ = some (.slice (some ⟨b2,o2,none⟩) ip.length cc)∧V.cell? ⟨b2,o2+j,none⟩ = some (.int .i64 (c:Nat))∧V.cell? ⟨gat,c,none⟩ = some (.int .i64 (fc:Nat)))) 17 (by kernel_rfl) ?_ (fun hHeld=>?_))
     ·exact hS.out _ hMd.out
     clear x2 f2j x0
     (refine wpZ_take (i:=0) (v:=?_) rfl (by kernel_rfl) (by decide) (by kernel_rfl) (by kernel_rfl) (by kernel_rfl) (fun _ _ _ h=>h) (Or.inl ⟨by rfl,?_⟩) (by assumption) ?_)
     rotate_left
     ·(intro w hSw;(try dsimp only at hSw);skip;go_simp;first | done | with_reducible rfl)
     (try simp only [Act.put,List.setIfInBounds_toArray,List.set_cons_zero,List.set_cons_succ])
     (refine wpZ_take (i:=1) (v:=?_) rfl (by kernel_rfl) (by decide) (by kernel_rfl) (by kernel_rfl) (by kernel_rfl) (fun _ _ _ h=>h) (Or.inl ⟨by rfl,?_⟩) (by assumption) ?_)
     rotate_left
     ·(intro w hSw;(try dsimp only at hSw);obtain ⟨s0,s1,s2,s3,s4⟩:=hSw;go_simp;first | done | with_reducible rfl)
     (try simp only [Act.put,List.setIfInBounds_toArray,List.set_cons_zero,List.set_cons_succ])
     (refine wpZ_take (i:=2) (v:=?_) rfl (by kernel_rfl) (by decide) (by kernel_rfl) (by kernel_rfl) (by kernel_rfl) (fun _ _ _ h=>h) (Or.inl ⟨by rfl,?_⟩) (by assumption) ?_)
     rotate_left
     ·(intro w hSw;(try dsimp only at hSw);skip;go_simp;first | done | with_reducible rfl)
     (try simp only [Act.put,List.setIfInBounds_toArray,List.set_cons_zero,List.set_cons_succ])
     (refine wpZ_take (i:=3) (v:=?_) rfl (by kernel_rfl) (by decide) (by kernel_rfl) (by kernel_rfl) (by kernel_rfl) (fun _ _ _ h=>h) (Or.inl ⟨by rfl,?_⟩) (by assumption) ?_)
     rotate_left
     ·(intro w hSw;(try dsimp only at hSw);skip;go_simp;first | done | with_reducible rfl)
     (try simp only [Act.put,List.setIfInBounds_toArray,List.set_cons_zero,List.set_cons_succ])
     (refine wpZ_take (i:=4) (v:=?_) rfl (by kernel_rfl) (by decide) (by kernel_rfl) (by kernel_rfl) (by kernel_rfl) (fun _ _ _ h=>h) (Or.inl ⟨by rfl,?_⟩) (by assumption) ?_)
     rotate_left
     ·(intro w hSw;(try dsimp only at hSw);obtain ⟨s0,s1,s2,s3,s4⟩:=hSw;go_simp;first | done | with_reducible rfl)
     (try simp only [Act.put,List.setIfInBounds_toArray,List.set_cons_zero,List.set_cons_succ])
     (refine wpZ_take (i:=5) (v:=?_) rfl (by kernel_rfl) (by decide) (by kernel_rfl) (by kernel_rfl) (by kernel_rfl) (fun _ _ _ h=>h) (Or.inl ⟨by rfl,?_⟩) (by assumption) ?_)
     rotate_left
     ·(intro w hSw;(try dsimp only at hSw);skip;go_simp;first | done | with_reducible rfl)
     (try simp only [Act.put,List.setIfInBounds_toArray,List.set_cons_zero,List.set_cons_succ])
     (refine wpZ_take (i:=6) (v:=?_) rfl (by kernel_rfl) (by decide) (by kernel_rfl) (by kernel_rfl) (by kernel_rfl) (fun _ _ _ h=>h) (Or.inl ⟨by rfl,?_⟩) (by assumption) ?_)
     rotate_left
     ·(intro w hSw;(try dsimp only at hSw);skip;go_simp;first | done | with_reducible rfl)
     (try simp only [Act.put,List.setIfInBounds_toArray,List.set_cons_zero,List.set_cons_succ])
     (refine wpZ_take (i:=7) (v:=?_) rfl (by kernel_rfl) (by decide) (by kernel_rfl) (by kernel_rfl) (by kernel_rfl) (fun _ _ _ h=>h) (Or.inl ⟨by rfl,?_⟩) (by assumption) ?_)
     rotate_left
     ·(intro w hSw;(try dsimp only at hSw);skip;go_simp;first | done | with_reducible rfl)
     (try simp only [Act.put,List.setIfInBounds_toArray,List.set_cons_zero,List.set_cons_succ])
     (refine wpZ_take (i:=8) (v:=?_) rfl (by kernel_rfl) (by decide) (by kernel_rfl) (by kernel_rfl) (by kernel_rfl) (fun _ _ _ h=>h) (Or.inl ⟨by rfl,?_⟩) (by assumption) ?_)
     rotate_left
     ·(intro w hSw;(try dsimp only at hSw);obtain ⟨s0,s1,s2,s3,s4⟩:=hSw;go_simp;first | done | with_reducible rfl)
     (try simp only [Act.put,List.setIfInBounds_toArray,List.set_cons_zero,List.set_cons_succ])
     (refine wpZ_take (i:=9) (v:=?_) rfl (by kernel_rfl) (by decide) (by kernel_rfl) (by kernel_rfl) (by kernel_rfl) (fun _ _ _ h=>h) (Or.inl ⟨by rfl,?_⟩) (by assumption) ?_)
     rotate_left
     ·(intro w hSw;(try dsimp only at hSw);skip;go_simp;first | done | with_reducible rfl)
     (try simp only [Act.put,List.setIfInBounds_toArray,List.set_cons_zero,List.set_cons_succ])
     (refine wpZ_take (i:=10) (v:=?_) rfl (by kernel_rfl) (by decide) (by kernel_rfl) (by kernel_rfl) (by kernel_rfl) (fun _ _ _ h=>h) (Or.inl ⟨by rfl,?_⟩) (by assumption) ?_)
     rotate_left
     ·(intro w hSw;(try dsimp only at hSw);skip;go_simp;first | done | with_reducible rfl)
     (try simp only [Act.put,List.setIfInBounds_toArray,List.set_cons_zero,List.set_cons_succ])
     (refine wpZ_take (i:=11) (v:=?_) rfl (by kernel_rfl) (by decide) (by kernel_rfl) (by kernel_rfl) (by kernel_rfl) (fun _ _ _ h=>h) (Or.inl ⟨by rfl,?_⟩) (by assumption) ?_)
     rotate_left
     ·(intro w hSw;(try dsimp only at hSw);obtain ⟨s0,s1,s2,s3,s4⟩:=hSw;go_simp;first | done | with_reducible rfl)
     (try simp only [Act.put,List.setIfInBounds_toArray,List.set_cons_zero,List.set_cons_succ])
     (refine wpZ_take (i:=12) (v:=?_) rfl (by kernel_rfl) (by decide) (by kernel_rfl) (by kernel_rfl) (by kernel_rfl) (fun _ _ _ h=>h) (Or.inl ⟨by rfl,?_⟩) (by assumption) ?_)
     rotate_left
     ·(intro w hSw;(try dsimp only at hSw);skip;go_simp;first | done | with_reducible rfl)
     (try simp only [Act.put,List.setIfInBounds_toArray,List.set_cons_zero,List.set_cons_succ])
     (refine wpZ_take (i:=13) (v:=?_) rfl (by kernel_rfl) (by decide) (by kernel_rfl) (by kernel_rfl) (by kernel_rfl) (fun _ _ _ h=>h) (Or.inl ⟨by rfl,?_⟩) (by assumption) ?_)
     rotate_left
     ·(intro w hSw;(try dsimp only at hSw);obtain ⟨s0,s1,s2,s3,s4⟩:=hSw;go_simp;first | done | with_reducible rfl)
     (try simp only [Act.put,List.setIfInBounds_toArray,List.set_cons_zero,List.set_cons_succ])
     generalize hwd:wr.drew = wd at *
     clear hwd
     have hMa:=Lib.hid (hMd.out.next ((Below.refl _ wd).alloc (Nat.le_refl _) (.cells #[.int .i64 (fc:Nat)] 3)))
     (refine wpZ_one (i:=14) (by kernel_rfl) rfl (fun K hK=>?_))
     ((rw [if_pos (by rfl)]);go_simp;refine hK.out _ _ (hS.out _ hMa.out) (fun hHeld=>?_))
     (clear hK K)
     (try simp only [Act.put,List.setIfInBounds_toArray,List.set_cons_zero,List.set_cons_succ])
     clear hHeld
     (refine wpZ_one (i:=15) (by kernel_rfl) rfl (fun K hK=>?_))
     (rw [if_pos (by rfl)])
     refine wp_append_own _ _ _ 25 rfl wo.heap.size 3 i0 (.int .i64 0) 1 8 Tryz.underlying25 hi0 hz0 hz1 hz2 rfl (by decide) (.slice vb j vc) j ((castL lj).map encZ) rfl (by have:=hMa.out.2.2.1;rwa [hlj.out] at this) ⟨wd.heap.size,0,none⟩ 1 1 [.int .i64 (fc:Nat)] rfl rfl (cell_one_at _ _ _ _ rfl) (by simp [Value.oneCell']) (by unfold maxLen;omega) (by omega) hMa.out.1.size (fun v6 w6 ho6 hg6 _=>?_)
     obtain ⟨hb6,h26,hM6⟩:=hMd.out.push (x:=fc) (by rw [hlj.out];exact ho6) hg6
     obtain ⟨g6,c6,rfl⟩:∃ g c,v6 = .slice (some ⟨g,0,none⟩) (j+1) c:=by
      obtain ⟨_,⟨_,e⟩ | ⟨g,cap,cur,h,_⟩⟩:=ho6
      ·omega
      ·exact ⟨g,cap,h⟩
     have y2:w6.frozen? ⟨xb,2,none⟩ = false:=by simp [World.frozen?,h26]
     have hS6:=Lib.hid (hS2.out w6 hb6 h26)
     replace hb6:=Lib.hid hb6
     replace h26:=Lib.hid h26
     replace hM6:=Lib.hid hM6
     refine hK.out _ _ hS6.out (fun hHeld=>?_)
     clear hK K ho6 hg6
     (try simp only [Act.put,List.setIfInBounds_toArray,List.set_cons_zero,List.set_cons_succ])
     (refine wpZ_take (i:=16) (v:=?_) rfl (by kernel_rfl) (by decide) (by kernel_rfl) (by kernel_rfl) (by kernel_rfl) (fun _ _ _ h=>h) (Or.inl ⟨by rfl,?_⟩) (by assumption) ?_)
     rotate_left
     ·(intro w hSw;(try dsimp only at hSw);skip;go_simp;first | done | with_reducible rfl)
     (try simp only [Act.put,List.setIfInBounds_toArray,List.set_cons_zero,List.set_cons_succ])
     clear hHeld
     have z6:w6.cell? ⟨xb,2,none⟩ = some (.slice vb j vc):=hS6.out.1
     (refine wpZ_last (by kernel_rfl) rfl (by kernel_rfl) (fun K hK=>?_))
     ((rw [if_pos (by rfl)]);go_simp;refine hK.out _ _ ?_)
     (clear hK K)
     (try simp only [Act.put,List.setIfInBounds_toArray,List.set_cons_zero,List.set_cons_succ])
     go_wp2_with fail
     go_roundw
     case rel=>exact ⟨j+1,_,by omega,by go_num,by rw [hnl.out];exact hM6⟩
     case measure=>simp [intOf];omega
    ·obtain rfl:j = ip.length:=by omega
     have dj:decide ((ip.length:Int) < (ip.length:Int)) = false:=decide_eq_false (by omega)
     rw [List.take_length] at hM
     obtain ⟨hMb,hMx,hMo,-⟩:=hM.out
     have hN5:=hRB.out.next hMb
     have hwsz:=hMb.size
     have ho5:=ownsRow_keep hown.out (fun g c h=>hMb.block g (Array.getElem?_eq_some_iff.1 h).1)
     have hsz5:w3.heap.size+1≤wr.heap.size:=Nat.le_trans hszJ hMb.size
     obtain ⟨b4,c4,rfl⟩:=hM.out.shape
     have hml:((ip.map F).length) = ip.length:=List.length_map ..
     have hsI5:SlI wr (.slice b4 (ip.map F).length c4) (castL (ip.map F)):=by
      have:=owns_slI (l:=castL (ip.map F)) (by rw [castL_len];exact hMo)
      exact this
     have q:=radd_any (kd:=kd) (lt:=lt) (bb:=b4) (cc:=c4) (ip:=ip.map F) hN5 (Nat.lt_of_lt_of_le hfb1 hMb.size) hsz5 hB.out hn (by omega) hsI5 (by omega) (by
      have h1:=flat_len (bl:=bl) (kd:=kd) (m:=2000) (by omega) (l:=ip.map F) (fun k hk=>by
       obtain ⟨z,hz,rfl⟩:=List.mem_map.1 hk
       have h3:=hFlt.out z hz
       rw [L.ndAt_lt h3]
       have:=L.bok_inp hB.out h3
       omega)
      rw [hml] at h1
      omega) hfm.out hkd (fun k hk=>by
      obtain ⟨z,hz,rfl⟩:=List.mem_map.1 hk
      exact hFlt.out z hz)
     obtain ⟨⟨x0,x1,x2⟩,-⟩:=bx3q hMx
     have hr1:=Lib.hid (hJ1.out.trans (hMb.mono hJ1.out.size))
     obtain ⟨idx,hidx⟩:∃ x,x = (L.addND bl ⟨kd,lt,ip.map F⟩).1:=⟨_,rfl⟩
     rw [←hidx] at q
     simp only [List.length_map] at q
     replace hN5:=Lib.hid hN5
     replace ho5:=Lib.hid ho5
     replace hidx:=Lib.hid hidx
     clear hMb hMx hMo hsI5 hM
     go_wp2_with fail
     refine q.mono ?_
     rintro e w7 ⟨rfl,hN7,hBI⟩
     have ho7:=ownsRow_keep ho5.out (fun g c h=>(hBI.2 g c h).trans h.symm)
     have hr7:=hr1.out.trans hBI.1
     have hfb7:fb < w7.heap.size:=by have:=hBI.1.size;have:=hr1.out.size;omega
     obtain ⟨vL7,us7,hR7⟩:=hN7
     have hsz7:w3.heap.size+1≤w7.heap.size:=Nat.le_trans hsz5 hBI.1.size
     obtain ⟨ab,ac,hvat⟩:=own_shp ho7
     subst hvat
     have hoa:=Lib.hid (ho7.alloc (.cells #[.int .i64 (idx:Nat)] 3))
     have hba:=(Below.refl _ w7).alloc (Nat.le_refl _) (.cells #[.int .i64 (idx:Nat)] 3)
     have hra:=Lib.hid (hr7.trans (hba.mono hr7.size))
     have hRa:=Lib.hid (hR7.next hba)
     have hsza:w3.heap.size+1≤(w7.alloc (.cells #[.int .i64 (idx:Nat)] 3)).heap.size:=Nat.le_trans hsz7 hba.size
     have hfba:fb < (w7.alloc (.cells #[.int .i64 (idx:Nat)] 3)).heap.size:=Nat.lt_of_lt_of_le hfb7 hba.size
     have hnx:∀ v4 w4,w4.ownsRow (w3.heap.size+1) 3 1 v4 (i+1) ((castL ats).map encZ++[.int .i64 (idx:Nat)])→(w7.alloc (.cells #[.int .i64 (idx:Nat)] 3)).grownBy w4 (Value.slice ab i ac).ownBlock→(v4.ownBlock = (Value.slice ab i ac).ownBlock∨v4.ownBlock = some (w7.alloc (.cells #[.int .i64 (idx:Nat)] 3)).heap.size)→Hid (RedR w3 bx n nl (i+1) v4 w4):=fun v4 w4 ho4 hg4 hat4=>Lib.hid (by
      obtain ⟨fb',f1,f2,f3⟩:=hRa.out.grow hoa.out hfb2.out hg4 hat4 ho4 hfba
      unfold RedR
      rw [hred.out]
      refine ⟨Below.grown hra.out hg4 hra.out.size (fun k e=>by have:=own_ge hoa.out e;omega),⟨fb',f2,f1,_,_,f3⟩,?_,Nat.le_trans hsza hg4.size⟩
      exact own_cast ho4 rfl (by rw [hidx.out];simp [castL,encZ]))
     replace hnx:=Lib.hid hnx
     clear q hBI hR7 hr7 x0 x1 x2 ho7 hba
     go_wp2_with (at_builtin;go_loud (refine wpList_append_own_at _ rfl _ _ 25 rfl (w3.heap.size+1) 3 i0 (.int .i64 0) 1 8 Tryz.underlying25 hi0 hz0 hz1 hz2 rfl (by decide) _ i ((castL ats).map encZ) rfl hoa.out ⟨w7.heap.size,0,none⟩ 1 1 [.int .i64 (idx:Nat)] rfl rfl (cell_one_at _ _ _ _ rfl) (by simp [Value.oneCell']) (by unfold maxLen;omega) (by omega) hsza ?_);intro v4 w4 ho4 hg4 _ hat4;replace hnx:=hnx.out v4 w4 ho4 hg4 hat4;clear ho4 hg4 hat4)
     go_roundw
     case rel=>exact ⟨i+1,by omega,by go_num,hnx⟩
     case measure=>simp [intOf];omega
  ·obtain rfl:i = nl.length:=by omega
   have di:decide ((nl.length:Int) < (nl.length:Int)) = false:=decide_eq_false (by omega)
   obtain ⟨r1,⟨fb,r2,r3,r4⟩,r5,r6⟩:=hJ.out
   obtain ⟨hB,-,hal,hbl,hat,-⟩:=hspec.out nl.length
   rw [List.take_length] at hB hal hbl hat r4 r5
   have hroot:=hat (nl.length - 1) (by omega)
   have hil:nl.length - 1 < (L.redF nl).2.length:=by omega
   obtain ⟨gat,cat,hvat,hca⟩:=ownsRow_cellN r5 (k:=nl.length - 1) (by rw [List.length_map,castL_len];exact hil)
   have y0:wr.cell? ⟨gat,nl.length - 1,none⟩ = some (.int .i64 ((root:Nat):Int)):=by
    have:=hca (nl.length - 1) (by rw [List.length_map,castL_len];exact hil)
    rw [Nat.zero_add] at this
    rw [this,hro.out,List.getD_eq_getElem?_getD,List.getElem?_eq_getElem hil]
    simp [castL,encZ]
   subst hvat
   rw [←hro.out] at hroot
   have q:=rnet_any r4 hB hroot (by omega)
   have ei:((nl.length:Int) - 1) = ((nl.length - 1:Nat):Int):=by omega
   obtain ⟨m,hm⟩:∃ m,m = nl.length - 1:=⟨_,rfl⟩
   rw [←hm] at y0 ei
   have m0:(0:Int)≤(m:Int):=by omega
   have m1:(m:Int) < (nl.length:Int):=by omega
   have hwr:IntKind.i64.wrap ((nl.length:Int) - 1) = (m:Int):=by rw [ei];exact IntWalk.i64_in _ (by omega)
   have hr1:=Lib.hid r1
   replace hJ:=Lib.hid hJ.out
   replace hm:=Lib.hid hm
   clear r1 r2 r3 r4 r5 hB hal hbl hat hca hil
   go_wp2_with fail
   refine q.mono ?_
   rintro e w9 ⟨vL,us,rfl,ho9,hR9,hb9⟩
   obtain ⟨O,hO⟩:∃ O,O = L.netL (L.redF nl).1 root:=⟨_,rfl⟩
   rw [←hO] at ho9 hR9
   replace hO:=Lib.hid hO
   have hz:w9.heap[w.heap.size+1]? = some (.cells #[.int .i64 0,.slice none 0 0] 24 (0,0)):=by
    have h1:=(hr1.out.block _ (Array.getElem?_eq_some_iff.1 hres3.out).1).trans hres3.out
    exact (hb9.block _ (Array.getElem?_eq_some_iff.1 h1).1).trans h1
   obtain ⟨bL,cL,rfl⟩:∃ b c,vL = .slice b O.length c:=by
    obtain ⟨_,⟨rfl,e⟩ | ⟨g,cap,cur,rfl,_⟩⟩:=ho9
    ·rw [e];exact ⟨_,_,rfl⟩
    ·exact ⟨_,_,rfl⟩
   have z0:w9.cell? ⟨w.heap.size+1,0,none⟩ = some (.int .i64 0):=by rw [World.cell?,hz];rfl
   have z1:w9.cell? ⟨w.heap.size+1,1,none⟩ = some (.slice none 0 0):=by rw [World.cell?,hz];rfl
   have y0:w9.frozen? ⟨w.heap.size+1,0,none⟩ = false:=by simp [World.frozen?,hz]
   have y1:w9.frozen? ⟨w.heap.size+1,1,none⟩ = false:=by simp [World.frozen?,hz]
   obtain ⟨t0,t1⟩:=box2_set hz (.int .i64 n) (.slice bL O.length cL)
   have hws:w.heap.size+1 < wr.heap.size+2:=by have:=hr1.out.size;omega
   have hwl:w.heap.size≤wr.heap.size+2:=by omega
   have hBw:Below w.heap.size w w9:=hx03.out.below.trans ((hr1.out.mono (by omega)).trans (hb9.mono (by omega)))
   have hfin:=Lib.hid (And.intro (own_weak (ownsRow_setCell_below (ownsRow_setCell_below ho9 (a:=⟨w.heap.size+1,0,none⟩) hws (.int .i64 n)) (a:=⟨w.heap.size+1,1,none⟩) hws (.slice bL O.length cL)) hwl) (And.intro (((hR9.setLow (a:=⟨w.heap.size+1,0,none⟩) hws (.int .i64 n)).setLow (a:=⟨w.heap.size+1,1,none⟩) hws (.slice bL O.length cL)).weak hwl) ((hBw.setCell (Nat.le_succ _) (.int .i64 n) (p:=⟨w.heap.size+1,0,none⟩)).setCell (Nat.le_succ _) (.slice bL O.length cL) (p:=⟨w.heap.size+1,1,none⟩))))
   replace t0:=Lib.hid t0
   replace t1:=Lib.hid t1
   clear q hz ho9 hR9 hb9 hBw
   go_wp2_with fail
   have hOo:=hO.out
   subst hOo
   exact bodyPost_ret (v:=.tuple #[.agg #[.int .i64 n,.slice bL (L.netL (L.redF nl).1 root).length cL],.bool true]) (by simp [results,Tryz.results43,go_sem,t0.out,t1.out]) rfl ⟨_,us,rfl,hfin.out.1,hfin.out.2.1,hfin.out.2.2⟩
end Go.Proofs.YtckhohpbokojdaaGreatDoor
