import Derived.Test.YtckhohpbokojdaaGreatDoorMD4
set_option linter.unusedSimpArgs false
set_option linter.unusedVariables false
namespace Go.Proofs.YtckhohpbokojdaaGreatDoor
open Go Go.RowKit Go.Shelf
theorem zerosU129:Tryz.zeroCells80 = Array.replicate 129 (.int .u64 0):=by kernel_rfl
theorem wdNew (wB:World) (l:List Int) (blk:Nat):WdI wB l blk 0 (wB.alloc (.cells Tryz.zeroCells80 80)):=by
 refine ⟨(Below.refl _ _).alloc (Nat.le_refl _) _,⟨_,heap_alloc_new _ _,by rw [zerosU129];simp,fun j hj=>?_⟩,by simp⟩
 rw [zerosU129,Array.getElem?_replicate,if_pos hj]
 rfl
set_option maxRecDepth 100000 in
set_option maxHeartbeats 4000000 in
theorem det_any {n:Int} {nl:List L.ND} {v:Value} {w:World} (hv:SlC w v (nl.map L.ofND)) (hc:L.netChk n (nl.map L.ofND) = 0) (hn8:n≤8) (h2:∀ y∈nl,y.inp.length≤100000) (hTz:TzTab w) (hPt:PatTab w) :
  Calls Tryz.prog 30 #[.agg #[.int .i64 n,v]] w fun e w'=>∃ B,e = .returned (.tuple #[.bool B,.int .i64 0])∧(B = true↔∀ a,L.Det a nl)∧Below w.heap.size w w':=by
 have hnok:L.NOK n nl:=by
  have:=(L.net_nok hc).1
  rwa [List.map_map,show (L.toND ∘ L.ofND) = id from funext L.toND_ofND,List.map_id] at this
 obtain ⟨hn,hl1,hall⟩:=L.netChk_ok.1 hc
 rw [List.length_map] at hl1
 obtain ⟨hv1,hv2,hv3,hv4⟩:=vars_list hnok hn8
 have hda:=det_all hnok (by omega) hv1 hv2 fun v hv=>(hv3 v hv).1
 have hlits:∀ i (hi:i < nl.length),-9223372036854775808≤nl[i].lit∧nl[i].lit≤9223372036854775807:=fun i hi=>by
  rcases hnok.form _ (List.getElem_mem hi) with h | h | h <;> omega
 have htk:=fun i (hi:i < nl.length)=>allS_take hi
 obtain ⟨S,hS⟩:∃ S,S = allS nl:=⟨_,rfl⟩
 have hSt:allS (nl.take nl.length) = S:=by rw [List.take_length,hS]
 rw [←hS] at hv2 hv3 hv4 hda
 have q1:=fun (W:World) (hW:Ext w W)=>ncheck_any (n:=n) (hv.ext hW.below) (fun g hg=>by
  obtain ⟨y,hy,rfl⟩:=List.mem_map.1 hg
  have:=h2 y hy
  have e:(L.ofND y).inp.length = y.inp.length:=castL_len y.inp
  omega) (by rw [List.length_map];omega)
 have qsep:=fun (f0:Nat→BitVec 64) (W:Nat→BitVec 64) (w0 V:World) (wb g:Nat) (hX:SlC w0 v (nl.map L.ofND))=>separate_any (W:=W) (f0:=f0) (w:=V) (wb:=wb) (g:=g) hX hc h2
 have hvC:=hv
 obtain ⟨ba,cp,rfl,hcell⟩:=slC_nd hv
 have hx1:Ext w (w.alloc (.cells #[.int .i64 n,.slice ba nl.length cp] 24)):=(Ext.refl w).alloc _
 have e0:=heap_alloc_new w (.cells #[.int .i64 n,.slice ba nl.length cp] 24)
 have p0:((w.alloc (.cells #[.int .i64 n,.slice ba nl.length cp] 24))).cell? ⟨w.heap.size,0,none⟩ = some (.int .i64 n):=by rw [World.cell?,e0];rfl
 have p1:((w.alloc (.cells #[.int .i64 n,.slice ba nl.length cp] 24))).cell? ⟨w.heap.size,1,none⟩ = some (.slice ba nl.length cp):=by rw [World.cell?,e0];rfl
 have q2:=q1 _ hx1
 rw [hc] at q2
 have hcell0:∀ V,Below w.heap.size w V→∀ k (hk:k < nl.length),∃ b o bb cc,ba = some ⟨b,o,none⟩∧V.cell? ⟨b,o+k * 3,none⟩ = some (.int .i64 nl[k].kind)∧V.cell? ⟨b,o+k * 3+1,none⟩ = some (.int .i64 nl[k].lit)∧V.cell? ⟨b,o+k * 3+2,none⟩ = some (.slice bb nl[k].inp.length cc):=fun V hV k hk=>by
  obtain ⟨b,o,bb,cc,h1,f0,f1,f2,fin⟩:=hcell k hk
  have kp:∀ {a:Addr} {v:Value},w.cell? a = some v→V.cell? a = some v:=fun e=>(hV.cell (World.block_lt_of_cell? w _ e)).trans e
  exact ⟨b,o,bb,cc,h1,kp f0,kp f1,kp f2⟩
 replace hcell:=Lib.hid hcell0
 clear hcell0 q1
 have hvC0:=Lib.hid fun (V:World) (hV:Below w.heap.size w V)=>hvC.ext hV
 have hTz0:=Lib.hid fun (V:World) (hV:Below w.heap.size w V)=>hTz.below hTz.lt hV
 have hPt0:=Lib.hid fun (V:World) (hV:Below w.heap.size w V)=>hPt.below hPt.lt hV
 replace h2:=Lib.hid h2
 replace e0:=Lib.hid e0
 replace hnok:=Lib.hid hnok
 replace qsep:=Lib.hid qsep
 replace hda:=Lib.hid hda
 replace hx1:=Lib.hid hx1
 replace hlits:=Lib.hid hlits
 replace htk:=Lib.hid htk
 replace hS:=Lib.hid hS
 replace hv1:=Lib.hid hv1
 replace hv2:=Lib.hid hv2
 replace hv3:=Lib.hid hv3
 replace hSt:=Lib.hid hSt
 clear hc hv hall hvC hTz hPt
 go_enter Tryz.func30,Tryz.ntmps30
 go_wp2_with fail
 refine q2.mono ?_
 rintro e w3 ⟨rfl,hx3⟩
 have p0':=hx3.cell p0
 have p1':=hx3.cell p1
 have hb03:=Lib.hid (hx1.out.trans hx3).below
 have hx4:Ext w3 (w3.alloc (.cells #[.int .u64 0,.int .u64 0] 37)):=(Ext.refl w3).alloc _
 have e4:=heap_alloc_new w3 (.cells #[.int .u64 0,.int .u64 0] 37)
 have p14:=hx4.cell p1'
 have p04:=hx4.cell p0'
 have hI0:Hid (BxI w3 (allS (nl.take 0)) (w3.alloc (.cells #[.int .u64 0,.int .u64 0] 37))):=Lib.hid ⟨hx4.below,by rw [show allS (nl.take 0) = 0 from rfl];exact e4⟩
 have hlt3:w.heap.size < w3.heap.size:=World.block_lt_of_cell? w3 _ p1'
 clear q2 p0 p1 p0' p1' hx4 hx3 hx1 e4
 go_wp2_with fail
 have pn:Hid (∀ V,Below w3.heap.size w3 V→Below (w3.heap.size+1) (w3.alloc (.cells #[.int .u64 0,.int .u64 0] 37)) V→V.cell? ⟨w.heap.size,0,none⟩ = some (.int .i64 n)∧V.cell? ⟨w.heap.size,1,none⟩ = some (.slice ba nl.length cp)):=Lib.hid fun V hV hV2=>⟨(hV2.cell (p:=⟨w.heap.size,0,none⟩) (by show w.heap.size < _;omega)).trans p04,(hV2.cell (p:=⟨w.heap.size,1,none⟩) (by show w.heap.size < _;omega)).trans p14⟩
 have pm:Hid (∀ V,Below w3.heap.size w3 V→V.cell? ⟨w.heap.size,0,none⟩ = some (.int .i64 n)∧V.cell? ⟨w.heap.size,1,none⟩ = some (.slice ba nl.length cp)):=Lib.hid fun V hV=>by
  have h4:=(Below.refl w3.heap.size w3).alloc (Nat.le_refl _) (.cells #[.int .u64 0,.int .u64 0] 37)
  have c0:=(h4.cell (p:=⟨w.heap.size,0,none⟩) hlt3).symm.trans p04
  have c1:=(h4.cell (p:=⟨w.heap.size,1,none⟩) hlt3).symm.trans p14
  exact ⟨(hV.cell (p:=⟨w.heap.size,0,none⟩) hlt3).trans c0,(hV.cell (p:=⟨w.heap.size,1,none⟩) hlt3).trans c1⟩
 clear pn p04 p14
 generalize (w3.alloc (.cells #[.int .u64 0,.int .u64 0] 37)) = w4 at *
 go_loopw [19] (fun i wr=>∃ k:Nat,k≤nl.length∧i = .int .i64 (k:Nat)∧Hid (BxI w3 (allS (nl.take k)) wr)) (fun i _=>nl.length - (intOf i).toNat)
 case atStart=>exact ⟨0,Nat.zero_le _,rfl,hI0⟩
 case round =>
  clear hI0
  obtain ⟨k,hk,rfl,hI⟩:=hrel
  by_cases hlt:k < nl.length
  ·have k0:(0:Int)≤(k:Int):=by omega
   have k1:(k:Int) < (nl.length:Int):=by omega
   obtain ⟨b,o,bb,cc,rfl,r0,r1,r2⟩:=hcell.out wr (hb03.out.trans (hI.out.1.mono hb03.out.size)) k hlt
   have hst:=htk.out k hlt
   unfold allS1 at hst
   have hilen:=h2.out _ (List.getElem_mem hlt)
   have hlr:=hlits.out k hlt
   generalize nl[k] = y at *
   obtain ⟨kd,lt,ip⟩:=y
   dsimp only at *
   rename World=>wr
   have hbA:Below wr.heap.size wr (wr.alloc (.cells #[.int .i64 kd,.int .i64 lt,.slice bb ip.length cc] 40)):=(Below.refl _ _).alloc (Nat.le_refl _) _
   have hIx:=hI.out.next hbA
   have hna:=heap_alloc_new wr (.cells #[.int .i64 kd,.int .i64 lt,.slice bb ip.length cc] 40)
   obtain ⟨⟨x0,x1,x2⟩,-⟩:=bx3q hna
   clear hI
   by_cases hk2:kd = 2
   ·rw [if_pos hk2] at hst
    have d2:(kd == 2) = true:=by simpa using hk2
    have hc4:=hIx.cells
    obtain ⟨s,hs⟩:∃ s,s = allS (nl.take k):=⟨_,rfl⟩
    rw [←hs] at hst hIx hc4
    obtain ⟨⟨c0,c1⟩,-⟩:=hc4
    have qv:=Lib.hid fun V=>var_any lt V
    obtain ⟨z,hz⟩:∃ z,z = varF lt:=⟨_,rfl⟩
    rw [←hz] at hst qv
    have qw:Hid (∀ V,Calls Tryz.prog 29 #[.agg #[.int .u64 (lo s),.int .u64 (hi s)],.int .i64 z] V fun e w'=>e = .returned (.agg #[.int .u64 (lo (withS s z)),.int .u64 (hi (withS s z))])∧Ext V w'):=Lib.hid fun V=>with_any s z V
    have hS9:(fun V=>V.cell? ⟨w3.heap.size,0,none⟩ = some (.int .u64 (lo s))∧V.cell? ⟨w3.heap.size,1,none⟩ = some (.int .u64 (hi s))∧V.cell? ⟨wr.heap.size,1,none⟩ = some (.int .i64 lt)) (wr.alloc (.cells #[.int .i64 kd,.int .i64 lt,.slice bb ip.length cc] 40)).drew:=⟨c0,c1,x1⟩
    replace hS9:=Lib.hid hS9
    replace hIx:=Lib.hid hIx
    replace hst:=Lib.hid hst
    replace hz:=Lib.hid hz
    replace hk2:=Lib.hid hk2
    replace hs:=Lib.hid hs
    clear x1 c0 c1
    go_wp2_with fail
    (refine wp_region_z (S:=(fun V=>V.cell? ⟨w3.heap.size,0,none⟩ = some (.int .u64 (lo s))∧V.cell? ⟨w3.heap.size,1,none⟩ = some (.int .u64 (hi s))∧V.cell? ⟨wr.heap.size,1,none⟩ = some (.int .i64 lt))) 5 (by kernel_rfl) ?_ (fun hHeld=>?_))
    ·exact hS9.out
    (refine wpZ_take (i:=0) (v:=?_) rfl (by kernel_rfl) (by decide) (by kernel_rfl) (by kernel_rfl) (by kernel_rfl) (fun _ _ _ h=>h) (Or.inl ⟨by rfl,?_⟩) (by assumption) ?_)
    rotate_left
    ·(intro w hSw;(try dsimp only at hSw);obtain ⟨r0,r1,r2⟩:=hSw;go_simp;first | done | with_reducible rfl)
    (try simp only [Act.put,List.setIfInBounds_toArray,List.set_cons_zero,List.set_cons_succ])
    (refine wpZ_take (i:=1) (v:=?_) rfl (by kernel_rfl) (by decide) (by kernel_rfl) (by kernel_rfl) (by kernel_rfl) (fun _ _ _ h=>h) (Or.inl ⟨by rfl,?_⟩) (by assumption) ?_)
    rotate_left
    ·(intro w hSw;(try dsimp only at hSw);skip;go_simp;first | done | with_reducible rfl)
    (try simp only [Act.put,List.setIfInBounds_toArray,List.set_cons_zero,List.set_cons_succ])
    (refine wpZ_take (i:=2) (v:=?_) rfl (by kernel_rfl) (by decide) (by kernel_rfl) (by kernel_rfl) (by kernel_rfl) (fun _ _ _ h=>h) (Or.inl ⟨by rfl,?_⟩) (by assumption) ?_)
    rotate_left
    ·(intro w hSw;(try dsimp only at hSw);obtain ⟨r0,r1,r2⟩:=hSw;go_simp;first | done | with_reducible rfl)
    (try simp only [Act.put,List.setIfInBounds_toArray,List.set_cons_zero,List.set_cons_succ])
    (refine wpZ_one (i:=3) (by kernel_rfl) rfl (fun K hK=>?_))
    ((rw [if_pos (by rfl)]);go_simp;(go_at_call 25);refine (qv.out _).mono ?_;rintro e w8 ⟨rfl,rfl⟩;refine hK.out _ _ hHeld (fun hHeld=>?_))
    (clear hK K)
    (try simp only [Act.put,List.setIfInBounds_toArray,List.set_cons_zero,List.set_cons_succ])
    (refine wpZ_one (i:=4) (by kernel_rfl) rfl (fun K hK=>?_))
    ((rw [if_pos (by rfl)]);go_simp;(go_at_call 29);refine (qw.out _).mono ?_;rintro e w9 ⟨rfl,hx9⟩;refine hK.out _ _ ⟨hx9.cell hHeld.1,hx9.cell hHeld.2.1,hx9.cell hHeld.2.2⟩ (fun hHeld=>?_))
    (clear hK K)
    (try simp only [Act.put,List.setIfInBounds_toArray,List.set_cons_zero,List.set_cons_succ])
    have hI9:=hIx.out.next (((Below.refl _ (wr.alloc (.cells #[.int .i64 kd,.int .i64 lt,.slice bb ip.length cc] 40))).drew).trans hx9.below)
    have hset:=Lib.hid (hI9.set (withS s z))
    obtain ⟨⟨c0,c1⟩,f0,f1⟩:=hI9.cells
    clear hx9 hI9 hHeld
    (refine wpZ_last (by kernel_rfl) rfl (by kernel_rfl) (fun K hK=>?_))
    ((rw [if_pos (by rfl)]);go_simp;refine hK.out _ _ ?_)
    (clear hK K)
    (try simp only [Act.put,List.setIfInBounds_toArray,List.set_cons_zero,List.set_cons_succ])
    go_wp2_with fail
    go_roundw
    case rel=>exact ⟨k+1,by omega,by go_num,by rw [hst.out];exact hset⟩
    case measure=>simp [intOf];omega
   ·rw [if_neg hk2] at hst
    have d2:(kd == 2) = false:=beq_eq_false_iff_ne.2 hk2
    have hnx:Hid (BxI w3 (allS (nl.take (k+1))) (wr.alloc (.cells #[.int .i64 kd,.int .i64 lt,.slice bb ip.length cc] 40))):=Lib.hid (by rw [hst];exact hIx)
    clear hst hIx
    go_wp2_with fail
    go_roundw
    case rel=>exact ⟨k+1,by omega,by go_num,hnx⟩
    case measure=>simp [intOf];omega
  ·obtain rfl:k = nl.length:=by omega
   rw [hSt.out] at hI
   have hbr:=hb03.out.trans (hI.out.1.mono hb03.out.size)
   obtain ⟨⟨c0,c1⟩,-⟩:=hI.out.cells
   have ql:=vlist_any S wr (hTz0.out _ hbr)
   obtain ⟨l,hl⟩:∃ l,l = listV S:=⟨_,rfl⟩
   rw [←hl] at hv2 hv3 hv4 hda ql
   replace hl:=Lib.hid hl
   have hI3:=Lib.hid hI.out.1
   replace hbr:=Lib.hid hbr
   clear hI
   have dk:decide ((nl.length:Int) < (nl.length:Int)) = false:=decide_eq_false (by omega)
   go_wp2_with fail
   refine ql.mono ?_
   rintro e wl ⟨vl,rfl,hol,hbl⟩
   have hsl:=owns_slI hol
   have hsl2:=hsl
   obtain ⟨bl,cl,rfl,-⟩:=hsl2
   have hb3l:=hI3.out.trans (hbl.mono hI3.out.size)
   have hbE:=Lib.hid (hb03.out.trans (hb3l.mono hb03.out.size))
   obtain ⟨p0,p1⟩:=pm.out _ hb3l
   have d16:decide ((l.length:Int) > 16) = false:=decide_eq_false (by omega)
   have hmk:=fun W:World=>make_row (by_:=8) Tryz.underlying79 (show (Tryz.prog.info? 35).map (fun i=>(i.zero,i.size,i.bytes)) = some (some (.int .u64 0),1,8) by kernel_rfl) rfl nl.length (by omega) (by omega) W
   have hxv:Ext wl (wl.alloc (.cells (madeCells #[.int .u64 0] nl.length) 35)):=(Ext.refl wl).alloc _
   have hrow0:RowF (wl.alloc (.cells (madeCells #[.int .u64 0] nl.length) 35)) wl.heap.size 35 nl.length (valU fun _=>0):=(rowNew wl nl.length (.int .u64 0) 35 wl.heap.size rfl).congr fun j _=>rfl
   have hst0:Hid (Below wl.heap.size wl (wl.alloc (.cells (madeCells #[.int .u64 0] nl.length) 35))∧∃ f,RowF (wl.alloc (.cells (madeCells #[.int .u64 0] nl.length) 35)) wl.heap.size 35 nl.length (valU f)):=Lib.hid ⟨hxv.below,_,hrow0⟩
   obtain ⟨d,hd⟩:∃ d,d = l.length - 6:=⟨_,rfl⟩
   have hd2:d≤2:=by omega
   have hmax:max (0:Int) ((l.length:Int) - 6) = (d:Int):=by omega
   have hwr6:IntKind.i64.wrap ((l.length:Int) - 6) = (l.length:Int) - 6:=IntWalk.i64_in _ (by omega)
   have hpw:=pow_wrap d (by omega)
   have hN:2 ^ d≤4:=Nat.le_trans (Nat.pow_le_pow_right (by omega) hd2) (by omega:2 ^ 2≤4)
   have hda2:=hda.out
   rw [←hd] at hda2
   generalize hNN:2 ^ d = N at *
   replace hda:=Lib.hid hda2
   replace hsl:=Lib.hid hsl
   replace hd:=Lib.hid hd
   replace hb3l:=Lib.hid hb3l
   replace hNN:=Lib.hid hNN
   clear ql hol hbl hI3 hbr c0 c1 hda2 hxv hrow0
   go_wp2_with fail
   go_loopw [47] (fun i V=>∃ k:Nat,k≤N∧i = .int .i64 (k:Nat)∧Hid (Below wl.heap.size wl V∧∃ f,RowF V wl.heap.size 35 nl.length (valU f))∧Hid (∀ blk,blk < k→SepP (WB l blk) nl)) (fun i _=>N - (intOf i).toNat)
   case atStart=>exact ⟨0,Nat.zero_le _,rfl,hst0,Lib.hid fun blk h=>absurd h (Nat.not_lt_zero _)⟩
   case round =>
    rename World=>wB
    clear hst0 p0 p1 hmk hmax hwr6 hpw d16
    obtain ⟨k,hk,rfl,hI,hP⟩:=hrel
    by_cases hlt:k < N
    ·have k0:(0:Int)≤(k:Int):=by omega
     have k1:(k:Int) < (N:Int):=by omega
     obtain ⟨hB,f,hf⟩:=hI.out
     have hWd0:=Lib.hid (wdNew wB l k)
     have hsl2:=Lib.hid (hsl.out.ext hB)
     have hBe:=Lib.hid (hbE.out.trans (hB.mono hbE.out.size))
     have hb3:=Lib.hid (hb3l.out.trans (hB.mono hb3l.out.size))
     have hwlb:wl.heap.size≤wB.heap.size:=hB.size
     replace hB:=Lib.hid hB
     replace hf:=Lib.hid hf
     clear hI
     go_wp2_with fail
     generalize (wB.alloc (.cells Tryz.zeroCells80 80)) = w5 at *
     go_loopw [52] (fun j V=>∃ i:Nat,i≤l.length∧j = .int .i64 (i:Nat)∧Hid (WdI wB l k i V)) (fun j _=>l.length - (intOf j).toNat)
     case atStart=>exact ⟨0,Nat.zero_le _,rfl,hWd0⟩
     case round =>
      rename World=>wC
      clear hWd0
      obtain ⟨i,hi,rfl,hW⟩:=hrel
      by_cases hil:i < l.length
      ·have m0:(0:Int)≤(i:Int):=by omega
       have m1:(i:Int) < (l.length:Int):=by omega
       obtain ⟨b2,o2,rfl,hc2⟩:=slI_cell (hsl2.out.ext hW.out.1) hil
       have hz:=hv3.out _ (List.getElem_mem hil)
       have hpt:=hPt0.out wC (hBe.out.trans (hW.out.1.mono hBe.out.size))
       have hput:=hW.out.put hv2.out hv3.out hil
       have hnx0:=Lib.hid (hW.out.next0 hv2.out hv3.out hil)
       obtain ⟨zn,hzn⟩:∃ zn:Nat,l[i] = (zn:Int):=⟨l[i].toNat,by omega⟩
       rw [hzn] at hz hc2 hput
       rw [Int.toNat_natCast] at hput
       have z0:(0:Int)≤(zn:Int):=by omega
       have z1:(zn:Int) < 129:=by omega
       obtain ⟨y0,y1⟩:=hW.out.2.1.cell (j:=zn) (by omega)
       replace hzn:=Lib.hid hzn
       clear hW
       by_cases h6:i < 6
       ·have d6:decide ((i:Int) < 6) = true:=decide_eq_true (by omega)
        have s0:(i:Int) < 6:=by omega
        have hpc:=hpt i h6
        rw [show wordOf k i = patW i from if_pos h6] at hput
        generalize patW i = pw at *
        unfold vU at hput hpc
        replace hput:=Lib.hid hput
        clear hpt hnx0
        go_wp2_with fail
        go_roundw
        case rel=>exact ⟨i+1,by omega,by go_num,hput⟩
        case measure=>simp [intOf];omega
       ·have d6:decide ((i:Int) < 6) = false:=decide_eq_false (by omega)
        obtain ⟨e,he⟩:∃ e,i = e+6:=⟨i - 6,by omega⟩
        have hw6:IntKind.i64.wrap ((i:Int) - 6) = (e:Int):=by rw [IntWalk.i64_in _ (by omega)];omega
        have hbe:=bit_one k e (by omega)
        have hwo:wordOf k i = if k.testBit e = true then BitVec.allOnes 64 else 0:=by
         unfold wordOf
         rw [if_neg h6,show i - 6 = e by omega]
        have e0':(0:Int)≤(e:Int):=by omega
        have e8:e≤2:=by omega
        replace he:=Lib.hid he
        clear hpt
        generalize k.testBit e = B at *
        cases B
        ·have hnx:=Lib.hid (hnx0.out (by rw [hwo];rfl))
         clear hput hwo
         go_wp2_with fail
         go_roundw
         case rel=>exact ⟨i+1,by omega,by go_num,hnx⟩
         case measure=>simp [intOf];omega
        ·rw [hwo,if_pos rfl,show vU (BitVec.allOnes 64) = .int .u64 18446744073709551615 from rfl] at hput
         replace hput:=Lib.hid hput
         clear hnx0 hwo
         go_wp2_with fail
         go_roundw
         case rel=>exact ⟨i+1,by omega,by go_num,hput⟩
         case measure=>simp [intOf];omega
      ·obtain rfl:i = l.length:=by omega
       have hb5:=hB.out.trans (hW.out.1.mono hB.out.size)
       have hrw:=hW.out.2.1
       rw [List.take_length] at hrw
       have q:=qsep.out f (WB l k) wl wC wB.heap.size wl.heap.size (hvC0.out wl hbE.out) hb5 (Nat.le_refl _) (hf.out.below hW.out.1) hrw
       obtain ⟨p0,p1⟩:=pm.out wC (hb3.out.trans (hW.out.1.mono hb3.out.size))
       clear hb5 hrw hW
       go_wp2_with fail
       refine q.mono ?_
       rintro e w6 ⟨B,rfl,hBs,f',hSp⟩
       have hnx:=Lib.hid (show Below wl.heap.size wl w6∧∃ f,RowF w6 wl.heap.size 35 nl.length (valU f) from ⟨hSp.1,_,hSp.2.1⟩)
       have hfin:=Lib.hid (hbE.out.trans (hSp.1.mono hbE.out.size))
       clear q hSp p0 p1
       cases B
       ·have hno:¬ SepP (WB l k) nl:=fun h=>by simpa using hBs.2 h
        have hans:Hid (false = true↔∀ a,L.Det a nl):=Lib.hid ⟨fun h=>by simp at h,fun h=>absurd (hda.out.2 h k hlt) hno⟩
        clear hno hBs
        go_wp2_with fail
        exact bodyPost_ret (v:=.tuple #[.bool false,.int .i64 0]) (by simp [results,Tryz.results30,go_sem]) rfl ⟨false,rfl,hans.out,hfin.out⟩
       ·have hP2:Hid (∀ blk,blk < k+1→SepP (WB l blk) nl):=Lib.hid fun blk h=>by
         by_cases e:blk = k
         ·subst e;exact hBs.1 rfl
         ·exact hP.out blk (by omega)
        clear hBs hP
        go_wp2_with fail
        go_roundw
        case rel=>exact ⟨k+1,by omega,by go_num,hnx,hP2⟩
        case measure=>simp [intOf];omega
    ·obtain rfl:k = N:=by omega
     have dk:decide ((k:Int) < (k:Int)) = false:=decide_eq_false (by omega)
     have hans:Hid (true = true↔∀ a,L.Det a nl):=Lib.hid ⟨fun _=>hda.out.1 hP.out,fun _=>rfl⟩
     have hfin:=Lib.hid (hbE.out.trans (hI.out.1.mono hbE.out.size))
     go_wp2_with fail
     exact bodyPost_ret (v:=.tuple #[.bool true,.int .i64 0]) (by simp [results,Tryz.results30,go_sem]) rfl (.inr ⟨rfl,hda.out.1 hP.out,hfin.out⟩)
end Go.Proofs.YtckhohpbokojdaaGreatDoor
