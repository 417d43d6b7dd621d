import Derived.Test.YtckhohpbokojdaaGreatDoorMN30
set_option linter.unusedSimpArgs false
set_option linter.unusedVariables false
namespace Go.Proofs.YtckhohpbokojdaaGreatDoor
open Go Go.RowKit Go.Shelf
def sepF (f:Nat→VSet):List Nat→VSet→Bool
 | [],_=>true
 | k :: l,s=>decide (s &&& f k = 0) && sepF f l (s ||| f k)
def decN (nl:List L.ND) (y:L.ND):Bool:=if y.kind = 3 then sepF (L.vset nl) y.inp 0 else true
def decF (nl:List L.ND):Bool:=nl.all (decN nl)
theorem decF_bad {nl:List L.ND} {k:Nat} (hk:k < nl.length) (h:decN nl nl[k] = false):decF nl = false:=by
 unfold decF
 rw [List.all_eq_false]
 exact ⟨nl[k],List.getElem_mem hk,by rw [h];decide⟩
theorem decF_good {nl:List L.ND} (h:∀ k (hk:k < nl.length),decN nl nl[k] = true):decF nl = true:=by
 unfold decF
 rw [List.all_eq_true]
 intro y hy
 obtain ⟨k,hk,rfl⟩:=List.getElem_of_mem hy
 exact h k hk
theorem setZ (s:VSet) (w:World):(Op.equalIn 10000 37 (.agg #[.int .u64 (lo s),.int .u64 (hi s)]) (.agg #[.int .u64 0,.int .u64 0])).run Tryz.prog w = .ok (decide (s = 0)) w:=by
 have h:=setEqS s 0 w
 rw [show lo 0 = 0 from rfl,show hi 0 = 0 from rfl] at h
 exact h
set_option maxRecDepth 100000 in
set_option maxHeartbeats 40000000 in
theorem decomp_ok {n:Int} {nl:List L.ND} {v:Value} {w:World} (hv:SlC w v (nl.map L.ofND)) (hc:L.netChk n (nl.map L.ofND) = 0) (hl:nl.length≤65536) (h2:∀ y∈nl,y.inp.length≤100000) :
  Calls Tryz.prog 20 #[.agg #[.int .i64 n,v]] w fun e w'=>e = .returned (.bool (decF nl))∧Below w.heap.size w w':=by
 have hnok:L.NOK n nl:=by
  have:=(L.net_nok hc).1
  rwa [List.map_map,show (L.toND ∘ L.ofND) = id from funext L.toND_ofND,List.map_id] at this
 obtain ⟨hn,hl1,hall⟩:=L.netChk_ok.1 hc
 rw [List.length_map] at hl1
 have hx1g:∀ x,Ext w (w.alloc x):=fun x=>(Ext.refl w).alloc _
 have qv:=fun (W:World) (hW:Ext w W)=>nvars_any (n:=n) (hv.ext hW.below) hc hl h2
 have qc:=fun (W:World) (hW:Ext w W)=>ncheck_any (n:=n) (hv.ext hW.below) (fun g hg=>by
  obtain ⟨y,hy,rfl⟩:=List.mem_map.1 hg
  have:=h2 y hy
  have e:(L.ofND y).inp.length = y.inp.length:=castL_len y.inp
  omega) (by rw [List.length_map];omega)
 simp only [hc] at qc
 obtain ⟨ba,cp,rfl,hcs⟩:=hv.shape
 have hcell:∀ k (hk:k < nl.length),∃ b o bb cc,ba = some ⟨b,o,none⟩∧w.cell? ⟨b,o+k * 3,none⟩ = some (.int .i64 nl[k].kind)∧w.cell? ⟨b,o+k * 3+1,none⟩ = some (.int .i64 nl[k].lit)∧w.cell? ⟨b,o+k * 3+2,none⟩ = some (.slice bb nl[k].inp.length cc)∧SlI w (.slice bb nl[k].inp.length cc) (castL nl[k].inp):=fun k hk=>by
  obtain ⟨b,o,bb,cc,h1,f0,f1,f2,fin⟩:=hcs k (by rw [List.length_map];exact hk)
  rw [List.getElem_map] at f0 f1 f2 fin
  have e:(L.ofND nl[k]).inp.length = nl[k].inp.length:=castL_len nl[k].inp
  rw [e] at f2 fin
  exact ⟨b,o,bb,cc,h1,f0,f1,f2,fin⟩
 rw [List.length_map] at hv qv qc ⊢
 have hx1:Ext w (w.alloc (.cells #[.int .i64 n,.slice ba nl.length cp] 24)):=(Ext.refl w).alloc _
 have e0:=heap_alloc_new w (.cells #[.int .i64 n,.slice ba nl.length cp] 24)
 have p0:(w.alloc (.cells #[.int .i64 n,.slice ba nl.length cp] 24)).cell? ⟨w.heap.size,0,none⟩ = some (.int .i64 n):=by rw [World.cell?,e0];rfl
 have p1:(w.alloc (.cells #[.int .i64 n,.slice ba nl.length cp] 24)).cell? ⟨w.heap.size,1,none⟩ = some (.slice ba nl.length cp):=by rw [World.cell?,e0];rfl
 have q1:=qc _ hx1
 obtain ⟨T,hT⟩:∃ T,T = decF nl:=⟨_,rfl⟩
 rw [←hT]
 have hbad:∀ k (hk:k < nl.length),decN nl nl[k] = false→T = false:=fun k hk h=>hT.trans (decF_bad hk h)
 have hgood:(∀ k (hk:k < nl.length),decN nl nl[k] = true)→T = true:=fun h=>hT.trans (decF_good h)
 replace hT:=Lib.hid hT
 replace hbad:=Lib.hid hbad
 replace hgood:=Lib.hid hgood
 replace qv:=Lib.hid qv
 replace hcell:=Lib.hid hcell
 replace h2:=Lib.hid h2
 replace hx1:=Lib.hid hx1
 replace e0:=Lib.hid e0
 replace hnok:=Lib.hid hnok
 clear hcs hc hv hall qc hx1g
 go_enter Tryz.func20,Tryz.ntmps20
 go_wp2_with fail
 refine q1.mono ?_
 rintro e w3 ⟨rfl,hx3⟩
 have p0':=hx3.cell p0
 have p1':=hx3.cell p1
 have q2:=qv.out w3 (hx1.out.trans hx3)
 have hx03:=Lib.hid (hx1.out.trans hx3)
 clear q1 p0 p1 e0 hx1 hx3
 go_wp2_with fail
 refine q2.mono ?_
 rintro e w4 ⟨g,hg,rfl,hS,hb4⟩
 have p1'':=(hb4.cell (World.block_lt_of_cell? w3 _ p1')).trans p1'
 have hb04:Below w.heap.size w w4:=hx03.out.below.trans (hb4.mono hx03.out.size)
 replace hb04:=Lib.hid hb04
 replace hS:=Lib.hid hS
 clear q2 p0' p1' hb4 hg hx03
 go_wp2_with fail
 clear p1''
 go_loopw [17] (fun i wr=>∃ k:Nat,k≤nl.length∧i = .int .i64 (k:Nat)∧Hid (∀ j (hj:j < nl.length),j < k→decN nl nl[j] = true)∧Hid (Below w4.heap.size w4 wr)) (fun i _=>nl.length - (intOf i).toNat)
 case atStart=>exact ⟨0,Nat.zero_le _,rfl,Lib.hid (fun j hj h=>absurd h (Nat.not_lt_zero _)),Lib.hid (Below.refl _ _)⟩
 case round =>
  obtain ⟨k,hk,rfl,hgd,hI⟩:=hrel
  by_cases hlt:k < nl.length
  ·have q0:(0:Int)≤(k:Int):=by omega
   have q1:(k:Int) < (nl.length:Int):=by omega
   obtain ⟨b,o,bb,cc,rfl,f0,f1,f2,fin⟩:=hcell.out k hlt
   have hxw:Below w.heap.size w wr:=hb04.out.trans (hI.out.mono hb04.out.size)
   have k0:=(hxw.cell (World.block_lt_of_cell? w _ f0)).trans f0
   have k1:=(hxw.cell (World.block_lt_of_cell? w _ f1)).trans f1
   have k2:=(hxw.cell (World.block_lt_of_cell? w _ f2)).trans f2
   have hkid:=hnok.out.kids k hlt
   have hb1:=hbad.out k hlt
   have hilen:=h2.out _ (List.getElem_mem hlt)
   have hnext:∀ (P:Prop),(decN nl nl[k] = true)→∀ j (hj:j < nl.length),j < k+1→decN nl nl[j] = true:=fun _ h j hj hjk=>by
    by_cases e:j = k
    ·subst e;exact h
    ·exact hgd.out j hj (by omega)
   replace hnext:=hnext True
   generalize nl[k] = y at *
   obtain ⟨kd,lt,ip⟩:=y
   dsimp only at *
   have hxx:=(Ext.refl wr).alloc (.cells #[.int .i64 kd,.int .i64 lt,.slice bb ip.length cc] 40)
   have hxn:=heap_alloc_new wr (.cells #[.int .i64 kd,.int .i64 lt,.slice bb ip.length cc] 40)
   have u0:(wr.alloc (.cells #[.int .i64 kd,.int .i64 lt,.slice bb ip.length cc] 40)).cell? ⟨wr.heap.size,0,none⟩ = some (.int .i64 kd):=by rw [World.cell?,hxn];rfl
   have hI6:=hI.out.trans (hxx.below.mono hI.out.size)
   by_cases hk3:kd = 3
   ·subst hk3
    have hdn:decN nl ⟨3,lt,ip⟩ = sepF (L.vset nl) ip 0:=by unfold decN;rw [if_pos rfl]
    rw [hdn] at hnext hb1
    have hip:∀ j (hj:j < ip.length),∃ b o,bb = some ⟨b,o,none⟩∧w.cell? ⟨b,o+j,none⟩ = some (.int .i64 (ip[j]:Nat)):=fun j hj=>by
     obtain ⟨b,o,h1,h2⟩:=slI_cell fin (k:=j) (by rw [castL_len];exact hj)
     rw [castL_at _ hj] at h2
     exact ⟨b,o,h1,h2⟩
    have hxz:=(Ext.refl (wr.alloc (.cells #[.int .i64 3,.int .i64 lt,.slice bb ip.length cc] 40))).alloc (.cells #[.int .u64 0,.int .u64 0] 37)
    have hzn:=heap_alloc_new (wr.alloc (.cells #[.int .i64 3,.int .i64 lt,.slice bb ip.length cc] 40)) (.cells #[.int .u64 0,.int .u64 0] 37)
    rw [show (wr.alloc (.cells #[.int .i64 3,.int .i64 lt,.slice bb ip.length cc] 40)).heap.size = wr.heap.size+1 by simp] at hzn
    have u2:((wr.alloc (.cells #[.int .i64 3,.int .i64 lt,.slice bb ip.length cc] 40)).alloc (.cells #[.int .u64 0,.int .u64 0] 37)).cell? ⟨wr.heap.size,2,none⟩ = some (.slice bb ip.length cc):=hxz.cell (by rw [World.cell?,hxn];rfl)
    have hI7:=Lib.hid (And.intro (hI6.trans (hxz.below.mono hI6.size)) hzn)
    have hwsz:w4.heap.size≤wr.heap.size:=hI.out.size
    replace hip:=Lib.hid hip
    replace hnext:=Lib.hid hnext
    replace hb1:=Lib.hid hb1
    replace hkid:=Lib.hid hkid
    clear f0 f1 f2 fin hxx hxn hxw hxz hzn hI6 hI hdn hgd
    go_wp2_with fail
    generalize hab:wr.heap.size+1 = ab at *
    generalize ((wr.alloc (.cells #[.int .i64 3,.int .i64 lt,.slice bb ip.length cc] 40)).alloc (.cells #[.int .u64 0,.int .u64 0] 37)) = w7 at *
    have habl:w4.heap.size≤ab:=by omega
    clear u0 u2 k0 k1 k2 hab hwsz
    go_loopw [27] (fun i wr=>∃ (j:Nat) (s:VSet),j≤ip.length∧i = .int .i64 (j:Nat)∧Hid (sepF (L.vset nl) ip 0 = sepF (L.vset nl) (ip.drop j) s)∧Hid (Below w4.heap.size w4 wr∧wr.heap[ab]? = some (.cells #[.int .u64 (lo s),.int .u64 (hi s)] 37 (0,0)))) (fun i _=>ip.length - (intOf i).toNat)
    case atStart=>exact ⟨0,0,Nat.zero_le _,rfl,Lib.hid rfl,hI7⟩
    case round =>
     clear hI7
     obtain ⟨j,s,hj,rfl,hsep,hJ⟩:=hrel
     by_cases hjl:j < ip.length
     ·have p0:(0:Int)≤(j:Int):=by omega
      have p1:(j:Int) < (ip.length:Int):=by omega
      obtain ⟨b2,o2,rfl,x0⟩:=hip.out j hjl
      have hxw:Below w.heap.size w wr:=hb04.out.trans (hJ.out.1.mono hb04.out.size)
      have x1:=(hxw.cell (World.block_lt_of_cell? w _ x0)).trans x0
      have hck:=hkid.out _ (List.getElem_mem hjl)
      have hs1:sepF (L.vset nl) (ip.drop j) s = (decide (s &&& L.vset nl ip[j] = 0) && sepF (L.vset nl) (ip.drop (j+1)) (s ||| L.vset nl ip[j])):=by rw [List.drop_eq_getElem_cons hjl];rfl
      obtain ⟨c,hc⟩:∃ c,c = ip[j]:=⟨_,rfl⟩
      rw [←hc] at x1 hck hs1
      obtain ⟨⟨y0,y1⟩,-,-⟩:=(hS.out.below hJ.out.1).cell (j:=c) (by omega)
      obtain ⟨t,ht⟩:∃ t,t = L.vset nl c:=⟨_,rfl⟩
      rw [←ht] at y0 y1 hs1
      have m0:(0:Int)≤(c:Int):=by omega
      have m1:(c:Int) < (nl.length:Int):=by omega
      have hSt:∀ V,Ext wr V→(V.cell? ⟨ab,0,none⟩ = some (.int .u64 (lo s))∧V.cell? ⟨ab,1,none⟩ = some (.int .u64 (hi s)))∧V.cell? ⟨g,c * 2,none⟩ = some (.int .u64 (lo t))∧V.cell? ⟨g,c * 2+1,none⟩ = some (.int .u64 (hi t)):=fun V hV=>by
       have f:=(hV.below.block _ (Array.getElem?_eq_some_iff.1 hJ.out.2).1).trans hJ.out.2
       exact ⟨⟨by rw [World.cell?,f];rfl,by rw [World.cell?,f];rfl⟩,hV.cell y0,hV.cell y1⟩
      have qcut:=fun V=>cut_any s t V
      have hz:=fun V=>setZ (s &&& t) V
      obtain ⟨r,hr⟩:∃ r,r = s &&& t:=⟨_,rfl⟩
      rw [←hr] at hz hs1
      simp only [←hr] at qcut
      replace hSt:=Lib.hid hSt
      replace qcut:=Lib.hid qcut
      replace hc:=Lib.hid hc
      replace ht:=Lib.hid ht
      replace hr:=Lib.hid hr
      clear x0 y0 y1 hxw
      by_cases hr0:r = 0
      ·have hz2:∀ V,(Op.equalIn 10000 37 (.agg #[.int .u64 (lo r),.int .u64 (hi r)]) (.agg #[.int .u64 0,.int .u64 0])).run Tryz.prog V = .ok true V:=fun V=>by rw [hz V,decide_eq_true hr0]
       have hs2:Hid (sepF (L.vset nl) ip 0 = sepF (L.vset nl) (ip.drop (j+1)) (s ||| t)):=Lib.hid (by rw [hsep.out,hs1,decide_eq_true hr0,Bool.true_and])
       replace hr0:=Lib.hid hr0
       have qu:=Lib.hid fun V=>union_agg' s t V
       clear hz hs1
       go_wp2_with fail
       clear x1
       (refine wp_region_below (by kernel_rfl) (by kernel_rfl) ?_
        repeat (refine wpQuiet_step (fun K hK=>?_)
                go_simp
                first
                 | (refine hK _ ?_;clear hK K)
                 | (replace hK:=Lib.hid hK
                    apply Exists.intro
                    refine ⟨fun wq hq=>?_,hK.out _ ?_⟩
                    ·(obtain ⟨⟨f1,f2⟩,f3,f4⟩:=hSt.out wq hq)
                     go_simp
                     first
                      | done
                      | (refine (qcut.out wq).mono ?_;rintro e w' ⟨rfl,hb⟩;exact ⟨rfl,hq.trans hb⟩)
                      | rfl
                      | exact ⟨rfl,rfl⟩
                    clear hK K))
        refine wpQuiet_nil ?_)
       intro w8 hw8
       obtain ⟨⟨f1,f2⟩,f3,f4⟩:=hSt.out w8 hw8
       go_wp2_with fail
       (refine wp_region_z (S:=(fun V=>(V.cell? ⟨ab,0,none⟩ = some (.int .u64 (lo s))∧V.cell? ⟨ab,1,none⟩ = some (.int .u64 (hi s)))∧V.cell? ⟨g,c * 2,none⟩ = some (.int .u64 (lo t))∧V.cell? ⟨g,c * 2+1,none⟩ = some (.int .u64 (hi t)))) 6 (by kernel_rfl) ?_ (fun hHeld=>?_))
       ·exact ⟨⟨f1,f2⟩,f3,f4⟩
       clear f1 f2 f3 f4
       (refine wpZ_take (i:=0) (v:=?_) rfl (by kernel_rfl) (by decide) (by kernel_rfl) (by kernel_rfl) (by kernel_rfl) (fun _ _ _ h=>h) (Or.inl ⟨by rfl,?_⟩) (by assumption) ?_)
       rotate_left
       ·(intro w hSw;(try dsimp only at hSw);obtain ⟨⟨s0,s1⟩,s2,s3⟩:=hSw;go_simp;first | done | with_reducible rfl)
       (try simp only [Act.put,List.setIfInBounds_toArray,List.set_cons_zero,List.set_cons_succ])
       (refine wpZ_take (i:=1) (v:=?_) rfl (by kernel_rfl) (by decide) (by kernel_rfl) (by kernel_rfl) (by kernel_rfl) (fun _ _ _ h=>h) (Or.inl ⟨by rfl,?_⟩) (by assumption) ?_)
       rotate_left
       ·(intro w hSw;(try dsimp only at hSw);skip;go_simp;first | done | with_reducible rfl)
       (try simp only [Act.put,List.setIfInBounds_toArray,List.set_cons_zero,List.set_cons_succ])
       (refine wpZ_take (i:=2) (v:=?_) rfl (by kernel_rfl) (by decide) (by kernel_rfl) (by kernel_rfl) (by kernel_rfl) (fun _ _ _ h=>h) (Or.inl ⟨by rfl,?_⟩) (by assumption) ?_)
       rotate_left
       ·(intro w hSw;(try dsimp only at hSw);skip;go_simp;first | done | with_reducible rfl)
       (try simp only [Act.put,List.setIfInBounds_toArray,List.set_cons_zero,List.set_cons_succ])
       (refine wpZ_take (i:=3) (v:=?_) rfl (by kernel_rfl) (by decide) (by kernel_rfl) (by kernel_rfl) (by kernel_rfl) (fun _ _ _ h=>h) (Or.inl ⟨by rfl,?_⟩) (by assumption) ?_)
       rotate_left
       ·(intro w hSw;(try dsimp only at hSw);skip;go_simp;first | done | with_reducible rfl)
       (try simp only [Act.put,List.setIfInBounds_toArray,List.set_cons_zero,List.set_cons_succ])
       (refine wpZ_take (i:=4) (v:=?_) rfl (by kernel_rfl) (by decide) (by kernel_rfl) (by kernel_rfl) (by kernel_rfl) (fun _ _ _ h=>h) (Or.inl ⟨by rfl,?_⟩) (by assumption) ?_)
       rotate_left
       ·(intro w hSw;(try dsimp only at hSw);obtain ⟨⟨s0,s1⟩,s2,s3⟩:=hSw;go_simp;first | done | with_reducible rfl)
       (try simp only [Act.put,List.setIfInBounds_toArray,List.set_cons_zero,List.set_cons_succ])
       (refine wpZ_one (i:=5) (by kernel_rfl) rfl (fun K hK=>?_))
       ((rw [if_pos (by rfl)]);go_simp;(go_at_call 21);refine (qu.out _).mono ?_;rintro e w9 ⟨rfl,hx9⟩;refine hK.out _ _ ⟨⟨hx9.cell hHeld.1.1,hx9.cell hHeld.1.2⟩,hx9.cell hHeld.2.1,hx9.cell hHeld.2.2⟩ (fun hHeld=>?_))
       (clear hK K)
       (try simp only [Act.put,List.setIfInBounds_toArray,List.set_cons_zero,List.set_cons_succ])
       have hx19:=hw8.trans ((Ext.refl _).drew.trans hx9)
       have f9:=(hx19.below.block _ (Array.getElem?_eq_some_iff.1 hJ.out.2).1).trans hJ.out.2
       obtain ⟨⟨z0,z1⟩,-,-⟩:=hHeld
       have fz0:w9.frozen? ⟨ab,0,none⟩ = false:=by simp [World.frozen?,f9]
       have fz1:w9.frozen? ⟨ab,1,none⟩ = false:=by simp [World.frozen?,f9]
       have hnx:Hid (Below w4.heap.size w4 ((w9.setCell ⟨ab,0,none⟩ (.int .u64 (lo (s ||| t)))).setCell ⟨ab,1,none⟩ (.int .u64 (hi (s ||| t))))∧((w9.setCell ⟨ab,0,none⟩ (.int .u64 (lo (s ||| t)))).setCell ⟨ab,1,none⟩ (.int .u64 (hi (s ||| t)))).heap[ab]? = some (.cells #[.int .u64 (lo (s ||| t)),.int .u64 (hi (s ||| t))] 37 (0,0))):=Lib.hid ⟨((hJ.out.1.trans (hx19.below.mono hJ.out.1.size)).setCell (p:=⟨ab,0,none⟩) habl _).setCell (p:=⟨ab,1,none⟩) habl _,heap_set2 f9 _ _⟩
       clear hx19 f9 hx9 hw8
       (refine wpZ_last (by kernel_rfl) rfl (by kernel_rfl) (fun K hK=>?_))
       ((rw [if_pos (by rfl)]);go_simp;refine hK.out _ _ ?_)
       (clear hK K)
       (try simp only [Act.put,List.setIfInBounds_toArray,List.set_cons_zero,List.set_cons_succ])
       go_wp2_with fail
       go_roundw
       case rel=>exact ⟨j+1,s ||| t,by omega,by go_num,hs2,hnx⟩
       case measure=>simp [intOf];omega
      ·have hz2:∀ V,(Op.equalIn 10000 37 (.agg #[.int .u64 (lo r),.int .u64 (hi r)]) (.agg #[.int .u64 0,.int .u64 0])).run Tryz.prog V = .ok false V:=fun V=>by rw [hz V,decide_eq_false hr0]
       have hTf:Hid (T = false):=Lib.hid (hb1.out (by rw [hsep.out,hs1,decide_eq_false hr0,Bool.false_and]))
       have hBw:=Lib.hid (hb04.out.trans (hJ.out.1.mono hb04.out.size))
       replace hr0:=Lib.hid hr0
       clear hz hs1
       go_wp2_with fail
       clear x1
       (refine wp_region_below (by kernel_rfl) (by kernel_rfl) ?_
        repeat (refine wpQuiet_step (fun K hK=>?_)
                go_simp
                first
                 | (refine hK _ ?_;clear hK K)
                 | (replace hK:=Lib.hid hK
                    apply Exists.intro
                    refine ⟨fun wq hq=>?_,hK.out _ ?_⟩
                    ·(obtain ⟨⟨f1,f2⟩,f3,f4⟩:=hSt.out wq hq)
                     go_simp
                     first
                      | done
                      | (refine (qcut.out wq).mono ?_;rintro e w' ⟨rfl,hb⟩;exact ⟨rfl,hq.trans hb⟩)
                      | rfl
                      | exact ⟨rfl,rfl⟩
                    clear hK K))
        refine wpQuiet_nil ?_)
       intro w8 hw8
       go_wp2_with fail
       go_ret
       exact ⟨by rw [hTf.out] <;> rfl,hBw.out.trans (hw8.below.mono hBw.out.size)⟩
     ·obtain rfl:j = ip.length:=by omega
      have hs2:=hsep.out
      rw [List.drop_length] at hs2
      have hnx:=Lib.hid (hnext.out hs2)
      have hJ1:=Lib.hid hJ.out.1
      clear hs2
      go_wp2_with fail
      go_roundw
      case rel=>exact ⟨k+1,by omega,by go_num,hnx,hJ1⟩
      case measure=>simp [intOf];omega
   ·have hdn:decN nl ⟨kd,lt,ip⟩ = true:=by unfold decN;rw [if_neg hk3]
    have hnx:=Lib.hid (hnext hdn)
    have hI7:=Lib.hid hI6
    have d3:(kd == 3) = false:=beq_eq_false_iff_ne.2 hk3
    clear f0 f1 f2 fin hxx hxn hxw hI6 hdn hnext hb1 hkid hI hgd
    go_wp2_with fail
    go_roundw
    case rel=>exact ⟨k+1,by omega,by go_num,hnx,hI7⟩
    case measure=>simp [intOf];omega
  ·obtain rfl:k = nl.length:=by omega
   have hTt:Hid (T = true):=Lib.hid (hgood.out fun j hj=>hgd.out j hj hj)
   have hBw:=Lib.hid (hb04.out.trans (hI.out.mono hb04.out.size))
   go_wp2_with fail
   go_ret
   exact ⟨by rw [hTt.out] <;> rfl,hBw.out⟩
end Go.Proofs.YtckhohpbokojdaaGreatDoor
