import Derived.Test.YtckhohpbokojdaaGreatDoorMN28
set_option linter.unusedSimpArgs false
set_option linter.unusedVariables false
namespace Go.Proofs.YtckhohpbokojdaaGreatDoor
open Go Go.RowKit Go.Shelf
def vvF (nl:List L.ND) (k:Nat) (s:VSet):Nat→VSet:=fun j=>if j < k then L.vset nl j else if j = k then s else 0
theorem vvF_set (nl:List L.ND) (k:Nat) (s t:VSet):setVS (vvF nl k s) k t = vvF nl k t:=by
 funext j
 unfold setVS vvF
 by_cases h:j = k
 ·subst h;rw [if_pos rfl,if_neg (Nat.lt_irrefl _),if_pos rfl]
 ·rw [if_neg h,if_neg h,if_neg h]
theorem vvF_next (nl:List L.ND) (k:Nat):vvF nl k (L.vset nl k) = vvF nl (k+1) 0:=by
 funext j
 unfold vvF
 by_cases h:j = k
 ·subst h;rw [if_neg (Nat.lt_irrefl _),if_pos rfl,if_pos (Nat.lt_succ_self _)]
 ·by_cases h2:j < k
  ·rw [if_pos h2,if_pos (by omega)]
  ·rw [if_neg h2,if_neg h,if_neg (by omega)];split <;> rfl
theorem withS_zero:withS 0 0 = 0:=by
 unfold withS
 rfl
theorem ofS_lit {n:Int} {y:L.ND} (hn:n≤128) (h:(y.kind = 0∨y.kind = 1)∧y.lit = 0∧y.inp = []∨y.kind = 2∧(y.lit≠0∧-n≤y.lit∧y.lit≤n)∧y.inp = []∨(y.kind = 3∨y.kind = 4)∧y.lit = 0):ofS [varF y.lit] = if y.kind = 2 then withS 0 (y.lit.natAbs:Int) else 0:=by
 show withS 0 (varF y.lit) = _
 rcases h with h | h | h
 ·rw [if_neg (by omega),h.2.1]
  exact withS_zero
 ·rw [if_pos h.1,varF_abs (by omega)]
 ·rw [if_neg (by omega),h.2]
  exact withS_zero
def NvI (w3:World) (g m:Nat) (f:Nat→VSet) (V:World):Prop:=Below w3.heap.size w3 V∧SetsAt V g m f∧w3.heap.size≤g
theorem NvI.next {w3 V V':World} {g m:Nat} {f:Nat→VSet} (h:NvI w3 g m f V) (hb:Below V.heap.size V V'):NvI w3 g m f V':=⟨h.1.trans (hb.mono h.1.size),h.2.1.below hb,h.2.2⟩
theorem NvI.set {w3 V:World} {g m:Nat} {f:Nat→VSet} (h:NvI w3 g m f V) (k:Nat) (s:VSet):NvI w3 g m (setVS f k s) ((V.setCell ⟨g,k * 2,none⟩ (.int .u64 (lo s))).setCell ⟨g,k * 2+1,none⟩ (.int .u64 (hi s))):=⟨(h.1.setCell (p:=⟨g,k * 2,none⟩) h.2.2 _).setCell (p:=⟨g,k * 2+1,none⟩) h.2.2 _,h.2.1.set k s,h.2.2⟩
set_option maxRecDepth 100000 in
set_option maxHeartbeats 40000000 in
theorem nvars_any {n:Int} {nl:List L.ND} {v:Value} {w:World} (hv:SlC w v (nl.map L.ofND)) (hc:L.netChk n (nl.map L.ofND) = 0) (hl:nl.length≤65536) (h2:∀ y∈nl,y.inp.length≤100000) :
  Calls Tryz.prog 23 #[.agg #[.int .i64 n,v]] w fun e w'=>∃ g,w.heap.size≤g∧e = .returned (.slice (some ⟨g,0,none⟩) nl.length nl.length)∧SetsAt w' g nl.length (L.vset nl)∧Below w.heap.size w w':=by
 have hnok:L.NOK n nl:=by
  have:=(L.net_nok hc).1
  rwa [List.map_map,show (L.toND ∘ L.ofND) = id from funext L.toND_ofND,List.map_id] at this
 obtain ⟨hn,hl1,hall⟩:=L.netChk_ok.1 hc
 rw [List.length_map] at hl1
 obtain ⟨ba,cp,rfl,hcs⟩:=hv.shape
 have hcell:∀ k (hk:k < nl.length),∃ b o bb cc,ba = some ⟨b,o,none⟩∧w.cell? ⟨b,o+k * 3,none⟩ = some (.int .i64 nl[k].kind)∧w.cell? ⟨b,o+k * 3+1,none⟩ = some (.int .i64 nl[k].lit)∧w.cell? ⟨b,o+k * 3+2,none⟩ = some (.slice bb nl[k].inp.length cc)∧SlI w (.slice bb nl[k].inp.length cc) (castL nl[k].inp):=fun k hk=>by
  obtain ⟨b,o,bb,cc,h1,f0,f1,f2,fin⟩:=hcs k (by rw [List.length_map];exact hk)
  rw [List.getElem_map] at f0 f1 f2 fin
  have e:(L.ofND nl[k]).inp.length = nl[k].inp.length:=castL_len nl[k].inp
  rw [e] at f2 fin
  exact ⟨b,o,bb,cc,h1,f0,f1,f2,fin⟩
 rw [List.length_map] at hv ⊢
 have hx1:Ext w (w.alloc (.cells #[.int .i64 n,.slice ba nl.length cp] 24)):=(Ext.refl w).alloc _
 have e0:=heap_alloc_new w (.cells #[.int .i64 n,.slice ba nl.length cp] 24)
 have p0:(w.alloc (.cells #[.int .i64 n,.slice ba nl.length cp] 24)).cell? ⟨w.heap.size,0,none⟩ = some (.int .i64 n):=by rw [World.cell?,e0];rfl
 have p1:(w.alloc (.cells #[.int .i64 n,.slice ba nl.length cp] 24)).cell? ⟨w.heap.size,1,none⟩ = some (.slice ba nl.length cp):=by rw [World.cell?,e0];rfl
 have q1:=ncheck_any (n:=n) (hv.ext hx1.below) (fun g hg=>by
  obtain ⟨y,hy,rfl⟩:=List.mem_map.1 hg
  have:=h2 y hy
  have e:(L.ofND y).inp.length = y.inp.length:=castL_len y.inp
  omega) (by rw [List.length_map];omega)
 rw [hc] at q1
 have hstep:∀ k (hk:k < nl.length),L.vset nl k = nl[k].inp.foldl (fun s c=>s ||| L.vset nl c) (ofS [varF nl[k].lit]):=fun k hk=>by
  rw [L.vset_at hnok.kids (List.getElem?_eq_getElem hk),ofS_lit hn.2 (hnok.form _ (List.getElem_mem hk))];rfl
 have hmk:∀ w:World,(Instr.makeSlice 46 (.int .i64 (nl.length:Nat)) (.int .i64 (nl.length:Nat))).run Tryz.prog w = .ok (.slice (some ⟨w.heap.size,0,none⟩) nl.length nl.length) (w.alloc (.cells (madeCells #[.int .u64 0,.int .u64 0] (nl.length * 2)) 37)):=fun w=>by
  obtain ⟨i,hi,hz,hs,hb⟩:=info_parts (show (Tryz.prog.info? 37).map (fun i=>(i.zero,i.size,i.bytes)) = some (some (.agg #[.int .u64 0,.int .u64 0]),2,16) by kernel_rfl)
  have hr:=run_make (P:=Tryz.prog) w 46 37 i _ Tryz.underlying46 hi hz .i64 .i64 nl.length nl.length (by omega) (Int.le_refl _) (by rw [hb];omega) (by omega)
  rw [hs] at hr
  simpa [Value.cells] using hr
 replace hcell:=Lib.hid hcell
 replace hstep:=Lib.hid hstep
 replace h2:=Lib.hid h2
 replace hx1:=Lib.hid hx1
 replace e0:=Lib.hid e0
 replace hnok:=Lib.hid hnok
 clear hcs hc hv hall
 go_enter Tryz.func23,Tryz.ntmps23
 go_wp2_with fail
 refine q1.mono ?_
 rintro e w3 ⟨rfl,hx3⟩
 have p1':=hx3.cell p1
 have hx03:=Lib.hid (hx1.out.trans hx3)
 have hx5:Ext w3 (w3.alloc (.cells (madeCells #[.int .u64 0,.int .u64 0] (nl.length * 2)) 37)):=(Ext.refl w3).alloc _
 have p15:=hx5.cell p1'
 have hI0:Hid (NvI w3 w3.heap.size nl.length (vvF nl 0 0) (w3.alloc (.cells (madeCells #[.int .u64 0,.int .u64 0] (nl.length * 2)) 37))):=Lib.hid ⟨hx5.below,by
  have e:vvF nl 0 0 = fun _=>0:=by
   funext j
   unfold vvF
   rw [if_neg (Nat.not_lt_zero _)];split <;> rfl
  rw [e]
  exact setsNew w3 nl.length _ rfl,Nat.le_refl _⟩
 clear q1 p0 p1 e0 hx1 hx3 hx5
 go_wp2_with fail
 have hg3:w.heap.size≤w3.heap.size:=hx03.out.size
 generalize hgg:w3.heap.size = g at *
 generalize (w3.alloc (.cells (madeCells #[.int .u64 0,.int .u64 0] (nl.length * 2)) 37)) = w5 at *
 clear p1' p15
 go_loopw [18] (fun i wr=>∃ k:Nat,k≤nl.length∧i = .int .i64 (k:Nat)∧Hid (NvI w3 g nl.length (vvF nl k 0) wr)) (fun i _=>nl.length - (intOf i).toNat)
 case atStart=>exact ⟨0,Nat.zero_le _,rfl,hI0⟩
 case round =>
  clear hI0
  obtain ⟨k,hk,rfl,hI⟩:=hrel
  by_cases hlt:k < nl.length
  ·have q0:(0:Int)≤(k:Int):=by omega
   have q1:(k:Int) < (nl.length:Int):=by omega
   obtain ⟨b,o,bb,cc,rfl,f0,f1,f2,fin⟩:=hcell.out k hlt
   have hxw:Below w.heap.size w wr:=hx03.out.below.trans (hI.out.1.mono hx03.out.size)
   have k0:=(hxw.cell (World.block_lt_of_cell? w _ f0)).trans f0
   have k1:=(hxw.cell (World.block_lt_of_cell? w _ f1)).trans f1
   have k2:=(hxw.cell (World.block_lt_of_cell? w _ f2)).trans f2
   have hkid:=hnok.out.kids k hlt
   have hilen:=h2.out _ (List.getElem_mem hlt)
   have hst:=hstep.out k hlt
   generalize nl[k] = y at *
   obtain ⟨kd,lt,ip⟩:=y
   dsimp only at *
   have hxx:=(Ext.refl wr).alloc (.cells #[.int .i64 kd,.int .i64 lt,.slice bb ip.length cc] 40)
   have hxn:=heap_alloc_new wr (.cells #[.int .i64 kd,.int .i64 lt,.slice bb ip.length cc] 40)
   have hI6:=hI.out.next hxx.below
   have u1:(wr.alloc (.cells #[.int .i64 kd,.int .i64 lt,.slice bb ip.length cc] 40)).cell? ⟨wr.heap.size,1,none⟩ = some (.int .i64 lt):=by rw [World.cell?,hxn];rfl
   have hip:∀ j (hj:j < ip.length),∃ b o,bb = some ⟨b,o,none⟩∧w.cell? ⟨b,o+j,none⟩ = some (.int .i64 (ip[j]:Nat)):=fun j hj=>by
    obtain ⟨b,o,h1,h2⟩:=slI_cell fin (k:=j) (by rw [castL_len];exact hj)
    rw [castL_at _ hj] at h2
    exact ⟨b,o,h1,h2⟩
   have qv:=fun V=>var_any lt V
   obtain ⟨z,hz⟩:∃ z,z = varF lt:=⟨_,rfl⟩
   rw [←hz] at hst
   have qv2:Calls Tryz.prog 25 #[.int .i64 lt] (wr.alloc (.cells #[.int .i64 kd,.int .i64 lt,.slice bb ip.length cc] 40)) fun e w'=>e = .returned (.int .i64 z)∧(wr.alloc (.cells #[.int .i64 kd,.int .i64 lt,.slice bb ip.length cc] 40)) = w':=by rw [hz];exact var_any lt _
   have hxy:=(Ext.refl (wr.alloc (.cells #[.int .i64 kd,.int .i64 lt,.slice bb ip.length cc] 40))).alloc (.cells #[.int .i64 z] 3)
   have hyn:=heap_alloc_new (wr.alloc (.cells #[.int .i64 kd,.int .i64 lt,.slice bb ip.length cc] 40)) (.cells #[.int .i64 z] 3)
   have hS1:SlI ((wr.alloc (.cells #[.int .i64 kd,.int .i64 lt,.slice bb ip.length cc] 40)).alloc (.cells #[.int .i64 z] 3)) (.slice (some ⟨wr.heap.size+1,0,none⟩) 1 1) [z]:=⟨_,_,rfl,.inr ⟨_,_,rfl,fun j hj=>by
    have:j = 0:=by simp at hj;omega
    subst this
    have e:(wr.alloc (.cells #[.int .i64 kd,.int .i64 lt,.slice bb ip.length cc] 40)).heap.size = wr.heap.size+1:=by simp
    rw [e] at hyn
    rw [World.cell?,hyn];rfl⟩⟩
   have qo:=of_any [z] _ _ hS1 (by simp)
   unfold encS at qo
   obtain ⟨s0,hs0⟩:∃ s,s = ofS [z]:=⟨_,rfl⟩
   rw [←hs0] at qo hst
   have hxn2:=(hxy.below.block _ (Array.getElem?_eq_some_iff.1 hxn).1).trans hxn
   have hIy:=hI6.next hxy.below
   replace hs0:=Lib.hid hs0
   replace hz:=Lib.hid hz
   replace hst:=Lib.hid hst
   replace hip:=Lib.hid hip
   replace hI6:=Lib.hid hI6
   replace hI:=Lib.hid hI.out
   replace hkid:=Lib.hid hkid
   replace hIy:=Lib.hid hIy
   replace hxn2:=Lib.hid hxn2
   clear f0 f1 f2 fin hxx hxw hxn qv hxy hyn hS1
   go_wp2_with fail
   refine qv2.mono ?_
   rintro e w' ⟨rfl,rfl⟩
   clear qv2
   go_wp2_with fail
   refine qo.mono ?_
   rintro e w7 ⟨rfl,hx7⟩
   have hI7:=hIy.out.next hx7.below
   obtain ⟨⟨c0,c1⟩,fz0,fz1⟩:=hI7.2.1.cell (j:=k) hlt
   have hxn7:=(hx7.below.block _ (Array.getElem?_eq_some_iff.1 hxn2.out).1).trans hxn2.out
   have hI8:=Lib.hid (vvF_set nl k 0 s0 ▸ hI7.set k s0)
   have u2:((w7.setCell ⟨g,k * 2,none⟩ (.int .u64 (lo s0))).setCell ⟨g,k * 2+1,none⟩ (.int .u64 (hi s0))).cell? ⟨wr.heap.size,2,none⟩ = some (.slice bb ip.length cc):=by
    have hlt0:g < wr.heap.size:=hI.out.2.1.lt
    rw [World.cell?,Below.heap_setCell _ _ _ _ (show wr.heap.size≠g by omega),Below.heap_setCell _ _ _ _ (show wr.heap.size≠g by omega),hxn7];rfl
   clear qo hI7 hx7 hxn7 u1
   go_wp2_with fail
   generalize ((w7.setCell ⟨g,k * 2,none⟩ (.int .u64 (lo s0))).setCell ⟨g,k * 2+1,none⟩ (.int .u64 (hi s0))) = w8 at *
   clear c0 c1 fz0 fz1 u2 k0 k1 k2
   have hIs:Hid (NvI w3 g nl.length (vvF nl k ((ip.take 0).foldl (fun s c=>s ||| L.vset nl c) s0)) w8):=hI8
   go_loopw [34] (fun i wr=>∃ j:Nat,j≤ip.length∧i = .int .i64 (j:Nat)∧Hid (NvI w3 g nl.length (vvF nl k ((ip.take j).foldl (fun s c=>s ||| L.vset nl c) s0)) wr)) (fun i _=>ip.length - (intOf i).toNat)
   case atStart=>exact ⟨0,Nat.zero_le _,rfl,hIs⟩
   case round =>
    clear hI hI6 hI8 hIs hIy
    obtain ⟨j,hj,rfl,hJ⟩:=hrel
    by_cases hjl:j < ip.length
    ·have p0:(0:Int)≤(j:Int):=by omega
     have p1:(j:Int) < (ip.length:Int):=by omega
     obtain ⟨b2,o2,rfl,x0⟩:=hip.out j hjl
     have hxw:Below w.heap.size w wr:=hx03.out.below.trans (hJ.out.1.mono hx03.out.size)
     have x1:=(hxw.cell (World.block_lt_of_cell? w _ x0)).trans x0
     have hck:=hkid.out _ (List.getElem_mem hjl)
     have htk:(ip.take (j+1)).foldl (fun s c=>s ||| L.vset nl c) s0 = (ip.take j).foldl (fun s c=>s ||| L.vset nl c) s0 ||| L.vset nl ip[j]:=by
      rw [List.take_succ_eq_append_getElem hjl,List.foldl_append];rfl
     obtain ⟨c,hc⟩:∃ c,c = ip[j]:=⟨_,rfl⟩
     rw [←hc] at x1 hck htk
     obtain ⟨s,hs⟩:∃ s,s = (ip.take j).foldl (fun s c=>s ||| L.vset nl c) s0:=⟨_,rfl⟩
     rw [←hs] at htk hJ
     obtain ⟨⟨y0,y1⟩,-,-⟩:=hJ.out.2.1.cell (j:=c) (by omega)
     obtain ⟨⟨y2,y3⟩,-,-⟩:=hJ.out.2.1.cell (j:=k) hlt
     have ec:vvF nl k s c = L.vset nl c:=by unfold vvF;rw [if_pos hck]
     have ek:vvF nl k s k = s:=by unfold vvF;rw [if_neg (Nat.lt_irrefl _),if_pos rfl]
     rw [ec] at y0 y1
     rw [ek] at y2 y3
     obtain ⟨t,ht⟩:∃ t,t = L.vset nl c:=⟨_,rfl⟩
     rw [←ht] at y0 y1 htk
     have m0:(0:Int)≤(c:Int):=by omega
     have m1:(c:Int) < (nl.length:Int):=by omega
     have q:=fun V=>union_agg' s t V
     replace hc:=Lib.hid hc
     replace hs:=Lib.hid hs
     replace ht:=Lib.hid ht
     replace htk:=Lib.hid htk
     replace q:=Lib.hid q
     clear ec ek x0 hxw
     go_wp2_with fail
     (refine wp_region_z (S:=(fun V=>(V.cell? ⟨g,k * 2,none⟩ = some (.int .u64 (lo s))∧V.cell? ⟨g,k * 2+1,none⟩ = some (.int .u64 (hi s)))∧V.cell? ⟨g,c * 2,none⟩ = some (.int .u64 (lo t))∧V.cell? ⟨g,c * 2+1,none⟩ = some (.int .u64 (hi t)))) 12 (by kernel_rfl) ?_ (fun hHeld=>?_))
     ·exact ⟨⟨y2,y3⟩,y0,y1⟩
     clear y0 y1 y2 y3 x1
     (refine wpZ_take (i:=0) (v:=?_) rfl (by kernel_rfl) (by decide) (by kernel_rfl) (by kernel_rfl) (by kernel_rfl) (fun _ _ _ h=>h) (Or.inl ⟨by rfl,?_⟩) (by assumption) ?_)
     rotate_left
     ·(intro w hSw;(try dsimp only at hSw);skip;go_simp;first | done | with_reducible rfl)
     (try simp only [Act.put,List.setIfInBounds_toArray,List.set_cons_zero,List.set_cons_succ])
     (refine wpZ_take (i:=1) (v:=?_) rfl (by kernel_rfl) (by decide) (by kernel_rfl) (by kernel_rfl) (by kernel_rfl) (fun _ _ _ h=>h) (Or.inl ⟨by rfl,?_⟩) (by assumption) ?_)
     rotate_left
     ·(intro w hSw;(try dsimp only at hSw);skip;go_simp;first | done | with_reducible rfl)
     (try simp only [Act.put,List.setIfInBounds_toArray,List.set_cons_zero,List.set_cons_succ])
     (refine wpZ_take (i:=2) (v:=?_) rfl (by kernel_rfl) (by decide) (by kernel_rfl) (by kernel_rfl) (by kernel_rfl) (fun _ _ _ h=>h) (Or.inl ⟨by rfl,?_⟩) (by assumption) ?_)
     rotate_left
     ·(intro w hSw;(try dsimp only at hSw);skip;go_simp;first | done | with_reducible rfl)
     (try simp only [Act.put,List.setIfInBounds_toArray,List.set_cons_zero,List.set_cons_succ])
     (refine wpZ_take (i:=3) (v:=?_) rfl (by kernel_rfl) (by decide) (by kernel_rfl) (by kernel_rfl) (by kernel_rfl) (fun _ _ _ h=>h) (Or.inl ⟨by rfl,?_⟩) (by assumption) ?_)
     rotate_left
     ·(intro w hSw;(try dsimp only at hSw);skip;go_simp;first | done | with_reducible rfl)
     (try simp only [Act.put,List.setIfInBounds_toArray,List.set_cons_zero,List.set_cons_succ])
     (refine wpZ_take (i:=4) (v:=?_) rfl (by kernel_rfl) (by decide) (by kernel_rfl) (by kernel_rfl) (by kernel_rfl) (fun _ _ _ h=>h) (Or.inl ⟨by rfl,?_⟩) (by assumption) ?_)
     rotate_left
     ·(intro w hSw;(try dsimp only at hSw);skip;go_simp;first | done | with_reducible rfl)
     (try simp only [Act.put,List.setIfInBounds_toArray,List.set_cons_zero,List.set_cons_succ])
     (refine wpZ_take (i:=5) (v:=?_) rfl (by kernel_rfl) (by decide) (by kernel_rfl) (by kernel_rfl) (by kernel_rfl) (fun _ _ _ h=>h) (Or.inl ⟨by rfl,?_⟩) (by assumption) ?_)
     rotate_left
     ·(intro w hSw;(try dsimp only at hSw);obtain ⟨⟨s0,s1⟩,s2,s3⟩:=hSw;go_simp;first | done | with_reducible rfl)
     (try simp only [Act.put,List.setIfInBounds_toArray,List.set_cons_zero,List.set_cons_succ])
     (refine wpZ_take (i:=6) (v:=?_) rfl (by kernel_rfl) (by decide) (by kernel_rfl) (by kernel_rfl) (by kernel_rfl) (fun _ _ _ h=>h) (Or.inl ⟨by rfl,?_⟩) (by assumption) ?_)
     rotate_left
     ·(intro w hSw;(try dsimp only at hSw);skip;go_simp;first | done | with_reducible rfl)
     (try simp only [Act.put,List.setIfInBounds_toArray,List.set_cons_zero,List.set_cons_succ])
     (refine wpZ_take (i:=7) (v:=?_) rfl (by kernel_rfl) (by decide) (by kernel_rfl) (by kernel_rfl) (by kernel_rfl) (fun _ _ _ h=>h) (Or.inl ⟨by rfl,?_⟩) (by assumption) ?_)
     rotate_left
     ·(intro w hSw;(try dsimp only at hSw);skip;go_simp;first | done | with_reducible rfl)
     (try simp only [Act.put,List.setIfInBounds_toArray,List.set_cons_zero,List.set_cons_succ])
     (refine wpZ_take (i:=8) (v:=?_) rfl (by kernel_rfl) (by decide) (by kernel_rfl) (by kernel_rfl) (by kernel_rfl) (fun _ _ _ h=>h) (Or.inl ⟨by rfl,?_⟩) (by assumption) ?_)
     rotate_left
     ·(intro w hSw;(try dsimp only at hSw);skip;go_simp;first | done | with_reducible rfl)
     (try simp only [Act.put,List.setIfInBounds_toArray,List.set_cons_zero,List.set_cons_succ])
     (refine wpZ_take (i:=9) (v:=?_) rfl (by kernel_rfl) (by decide) (by kernel_rfl) (by kernel_rfl) (by kernel_rfl) (fun _ _ _ h=>h) (Or.inl ⟨by rfl,?_⟩) (by assumption) ?_)
     rotate_left
     ·(intro w hSw;(try dsimp only at hSw);obtain ⟨⟨s0,s1⟩,s2,s3⟩:=hSw;go_simp;first | done | with_reducible rfl)
     (try simp only [Act.put,List.setIfInBounds_toArray,List.set_cons_zero,List.set_cons_succ])
     (refine wpZ_one (i:=10) (by kernel_rfl) rfl (fun K hK=>?_))
     ((rw [if_pos (by rfl)]);go_simp;(go_at_call 21);refine (q.out _).mono ?_;rintro e w9 ⟨rfl,hx9⟩;refine hK.out _ _ ⟨⟨hx9.cell hHeld.1.1,hx9.cell hHeld.1.2⟩,hx9.cell hHeld.2.1,hx9.cell hHeld.2.2⟩ (fun hHeld=>?_))
     (clear hK K)
     (try simp only [Act.put,List.setIfInBounds_toArray,List.set_cons_zero,List.set_cons_succ])
     (refine wpZ_take (i:=11) (v:=?_) rfl (by kernel_rfl) (by decide) (by kernel_rfl) (by kernel_rfl) (by kernel_rfl) (fun _ _ _ h=>h) (Or.inl ⟨by rfl,?_⟩) (by assumption) ?_)
     rotate_left
     ·(intro w hSw;(try dsimp only at hSw);skip;go_simp;first | done | with_reducible rfl)
     (try simp only [Act.put,List.setIfInBounds_toArray,List.set_cons_zero,List.set_cons_succ])
     clear hHeld
     have hJ9:=hJ.out.next (((Below.refl _ wr).drew).trans hx9.below)
     obtain ⟨⟨z0,z1⟩,fz0,fz1⟩:=hJ9.2.1.cell (j:=k) hlt
     have hnx:=hJ9.set k (s ||| t)
     rw [vvF_set] at hnx
     replace hnx:Hid (NvI w3 g nl.length (vvF nl k ((ip.take (j+1)).foldl (fun s c=>s ||| L.vset nl c) s0)) _):=Lib.hid (by rw [htk.out];exact hnx)
     clear hJ9 hx9 q
     (refine wpZ_last (by kernel_rfl) rfl (by kernel_rfl) (fun K hK=>?_))
     ((rw [if_pos (by rfl)]);go_simp;refine hK.out _ _ ?_)
     (clear hK K)
     (try simp only [Act.put,List.setIfInBounds_toArray,List.set_cons_zero,List.set_cons_succ])
     go_wp2_with fail
     go_roundw
     case rel=>exact ⟨j+1,by omega,by go_num,hnx⟩
     case measure=>simp [intOf];omega
    ·obtain rfl:j = ip.length:=by omega
     have hnx:=hJ.out
     rw [List.take_length,←hst.out,vvF_next] at hnx
     replace hnx:=Lib.hid hnx
     clear hJ
     go_wp2_with fail
     go_roundw
     case rel=>exact ⟨k+1,by omega,by go_num,hnx⟩
     case measure=>simp [intOf];omega
  ·obtain rfl:k = nl.length:=by omega
   have hfin:Hid (SetsAt wr g nl.length (L.vset nl)∧Below w.heap.size w wr):=Lib.hid ⟨by
    obtain ⟨c,h1,h2,h3⟩:=hI.out.2.1
    refine ⟨c,h1,h2,fun j hj=>?_⟩
    have:=h3 j hj
    unfold vvF at this
    rwa [if_pos hj] at this,hx03.out.below.trans (hI.out.1.mono hx03.out.size)⟩
   have hge:Hid (w.heap.size≤g):=Lib.hid hg3
   clear hI
   go_wp2_with fail
   go_ret
   exact ⟨_,hge.out,rfl,hfin.out.1,hfin.out.2⟩
end Go.Proofs.YtckhohpbokojdaaGreatDoor
