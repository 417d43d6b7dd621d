import Derived.Test.YtemnmcfmabamcaaGreatDoorXVs6
import Derived.ArgAppend
set_option linter.unusedSimpArgs false
set_option linter.unusedVariables false
namespace Go.Proofs.YtemnmcfmabamcaaGreatDoor
open Go Go.RowKit Go.Shelf
theorem ba_beq (X:ByteArray):(X == X) = true:=by
 obtain ⟨d⟩:=X
 show (d == d) = true
 exact beq_self_eq_true d
theorem ba_bne (X:ByteArray):(X != X) = false:=by rw [bne,ba_beq];rfl
structure PaI (w:World) (S:ByteArray) (bs:List UInt8) (fin:L.PSt) (pos:Nat) (st:L.PSt) (vt vo:Value) (wr:World):Prop where
 bel:Below w.heap.size w wr
 it:wr.heap[w.heap.size]? = some (.stringIter S pos)
 rt:wr.ownsRow (w.heap.size+1) 78 3 vt st.t.length (treeCells st.t)
 ro:wr.ownsRow (w.heap.size+1) 3 1 vo st.op.length (st.op.map encI)
 run:L.pRun (bs.drop pos) st = some fin
 le:pos≤bs.length
 small:st.t.length≤pos∧st.op.length≤pos∧st.nu < 10000
section
variable {w:World} {S:ByteArray} {bs:List UInt8} {fin:L.PSt} {pos:Nat} {st:L.PSt} {vt vo:Value} {wr:World}
theorem PaI.iter (h:PaI w S bs fin pos st vt vo wr) (hp:pos < bs.length):Below w.heap.size w (wr.iterAt w.heap.size S (pos+1))∧(wr.iterAt w.heap.size S (pos+1)).heap[w.heap.size]? = some (.stringIter S (pos+1)) ∧
  (wr.iterAt w.heap.size S (pos+1)).ownsRow (w.heap.size+1) 78 3 vt st.t.length (treeCells st.t)∧(wr.iterAt w.heap.size S (pos+1)).ownsRow (w.heap.size+1) 3 1 vo st.op.length (st.op.map encI):=by
 refine ⟨Lib.below_iterAt h.bel (Nat.le_refl _) S (pos+1),Lib.iterAt_heap wr _ S pos (pos+1) h.it,ownsRow_same h.rt (fun k hk=>Lib.iterAt_other wr _ k S _ ?_),ownsRow_same h.ro (fun k hk=>Lib.iterAt_other wr _ k S _ ?_)⟩
 ·have:=own_ge h.rt hk;omega
 ·have:=own_ge h.ro hk;omega
end
theorem own_one {w:World} {N n g cap:Nat} {e:TypeId} {xs:List Value} (h:w.ownsRow N e 1 (.slice (some ⟨g,0,none⟩) n cap) n xs) {j:Nat} {u:Value} (hj:xs[j]? = some u):w.cell? ⟨g,j,none⟩ = some u:=by
 have:=h.cells (g:=g) rfl j u hj
 rwa [Addr.add_lit,Nat.zero_add] at this
theorem row_shape {w:World} {N sz n:Nat} {e:TypeId} {v:Value} {xs:List Value} (h:w.ownsRow N e sz v n xs):(v = .slice none 0 0∧n = 0)∨∃ g cp,v = .slice (some ⟨g,0,none⟩) n cp:=by
 obtain ⟨_,⟨h1,h0⟩ | ⟨g,cap,cur,h2,_⟩⟩:=h
 ·exact .inl ⟨h1,h0⟩
 ·exact .inr ⟨g,cap,h2⟩
theorem pa_grow {w W1 W2:World} {S:ByteArray} {pos n m szx szr:Nat} {e e':TypeId} {v u:Value} {xs ys:List Value} (ob:Obj) (hb:Below w.heap.size w W1) (hit:W1.heap[w.heap.size]? = some (.stringIter S pos)) (hx:W1.ownsRow (w.heap.size+1) e szx v n xs) (hr:W1.ownsRow (w.heap.size+1) e' szr u m ys) (hne:e≠e')
  (hg:(W1.alloc ob).grownBy W2 u.ownBlock):Below w.heap.size w W2∧W2.heap[w.heap.size]? = some (.stringIter S pos)∧W2.ownsRow (w.heap.size+1) e szx v n xs:=by
 have hal:∀ k,k < W1.heap.size→(W1.alloc ob).heap[k]? = W1.heap[k]?:=fun k hk=>Lib.alloc_old W1 ob k hk
 have hlt:=(Array.getElem?_eq_some_iff.1 hit).1
 have hsa:(W1.alloc ob).heap.size = W1.heap.size+1:=by simp
 have hst:∀ k,k < W1.heap.size→some k≠u.ownBlock→W2.heap[k]? = W1.heap[k]?:=fun k hk hn=>(hg.block k (by omega) hn).trans (hal k hk)
 refine ⟨Below.grown (hb.alloc (by omega) ob) hg (by omega) (fun k hk=>?_),(hst _ hlt fun hk=>?_).trans hit,ownsRow_same hx fun k hk=>hst k (own_lt hx hk).1 fun hk2=>?_⟩
 ·have:=own_ge hr hk;omega
 ·have:=own_ge hr hk.symm;omega
 ·obtain ⟨_,c1,h1⟩:=own_lt hx hk
  obtain ⟨_,c2,h2⟩:=own_lt hr hk2.symm
  rw [h1] at h2
  simp at h2
  exact hne h2.2
theorem pa_new {w W1 W2:World} {S:ByteArray} {pos n szx:Nat} {e:TypeId} {v:Value} {xs:List Value} (ob:Obj) (hb:Below w.heap.size w W1) (hit:W1.heap[w.heap.size]? = some (.stringIter S pos)) (hx:W1.ownsRow (w.heap.size+1) e szx v n xs)
  (hg:(W1.alloc ob).grownBy W2 none):Below w.heap.size w W2∧W2.heap[w.heap.size]? = some (.stringIter S pos)∧W2.ownsRow (w.heap.size+1) e szx v n xs:=by
 have hlt:=(Array.getElem?_eq_some_iff.1 hit).1
 have hsa:(W1.alloc ob).heap.size = W1.heap.size+1:=by simp
 have hst:∀ k,k < W1.heap.size→W2.heap[k]? = W1.heap[k]?:=fun k hk=>(hg.block k (by omega) (by simp)).trans (Lib.alloc_old W1 ob k hk)
 exact ⟨Below.grown (hb.alloc (by omega) ob) hg (by omega) (fun k hk=>by cases hk),(hst _ hlt).trans hit,ownsRow_same hx fun k hk=>hst k (own_lt hx hk).1⟩
theorem pa_step {bs:List UInt8} {pos:Nat} {st fin:L.PSt} (hp:pos < bs.length) (h:L.pRun (bs.drop pos) st = some fin):∃ st',L.pStep bs[pos] (bs.drop (pos+1)) st = some st'∧L.pRun (bs.drop (pos+1)) st' = some fin:=by
 rw [List.drop_eq_getElem_cons hp,L.pRun,Option.bind_eq_some_iff] at h
 exact h
set_option maxRecDepth 100000 in
set_option maxHeartbeats 4000000 in
theorem parse_loop {w:World} {bs:List UInt8} {S:ByteArray} {t:List VN} {T:L.Tr} (hS:S = ⟨bs.toArray⟩) (hasc:∀ c∈bs,c.toNat < 128) (hbs:bs.length≤1024) (hrun:L.pRun bs ⟨[],[],0⟩ = some ⟨t,[t.length - 1],0⟩) (hc:checkF t = 0) (hT:L.IsT L.idc t (t.length - 1) T) (hpr:L.prT T = bs) (hP:PowTab w) :
  Calls Tryz.prog 25 #[.string S] w fun e w'=>∃ g cap,e = .returned (.tuple #[.slice (some ⟨g,0,none⟩) t.length cap,.int .i64 0])∧w.heap.size≤g∧TreeAt w' g 0 t∧Below w.heap.size w w':=by
 have hsz:S.size = bs.length:=by rw [hS];simp [ByteArray.size]
 have hget:Hid (∀ (i:Nat) (h:i < bs.length) (h':i < S.size),S[i]'h' = bs[i]):=Lib.hid (by subst hS;exact fun i h h'=>rfl)
 have hgt:decide ((S.size:Int) > 1024) = false:=decide_eq_false (by omega)
 have hgt2:decide (1024 < S.size) = false:=decide_eq_false (by omega)
 have hgt3:S.size≤1024:=by omega
 have t0:=(check_ok hc).1
 have hI0:Hid (PaI w S bs ⟨t,[t.length - 1],0⟩ 0 ⟨[],[],0⟩ (.slice none 0 0) (.slice none 0 0) (w.alloc (.stringIter S 0))):=Lib.hid {
  bel:=(Below.refl _ _).alloc (Nat.le_refl _) _
  it:=heap_alloc_new w _
  rt:=⟨rfl,.inl ⟨rfl,rfl⟩⟩
  ro:=⟨rfl,.inl ⟨rfl,rfl⟩⟩
  run:=by rw [List.drop_zero];exact hrun
  le:=Nat.zero_le _
  small:=⟨Nat.le_refl _,Nat.le_refl _,by decide⟩ }
 replace hS:=Lib.hid hS
 replace hsz:=Lib.hid hsz
 obtain ⟨i0,hi0,hz0,hz1,hz2⟩:=info_parts int_info
 obtain ⟨iv,hiv,hzv,hsv,hbv⟩:=info_parts vn_info
 go_enter Tryz.func25,Tryz.ntmps25
 go_wp2_with fail
 go_loopw [4,5,6] (fun vt vo nv wr=>∃ (pos:Nat) (st:L.PSt),nv = .int .i64 (st.nu:Nat)∧Hid (PaI w S bs ⟨t,[t.length - 1],0⟩ pos st vt vo wr)) (fun _ _ _ wr=>S.size - wr.iterPos w.heap.size)
 case atStart=>exact ⟨0,⟨[],[],0⟩,rfl,hI0⟩
 case round =>
  clear hI0
  obtain ⟨pos,st,rfl,hI⟩:=hrel
  by_cases hp:pos < bs.length
  ·have hp':pos < S.size:=by rw [hsz.out];exact hp
   obtain ⟨st',hst,hrun'⟩:=pa_step hp hI.out.run
   have hca:=hasc _ (List.getElem_mem hp)
   have hnx:=fun ty=>Lib.run_next_ascii_at (P:=Tryz.prog) wr w.heap.size S pos ty hI.out.it hp' (by rw [hget.out pos hp hp'];exact hca)
   rw [hget.out pos hp hp'] at hnx
   have hsm:=hI.out.small
   have hit0:=hI.out.it
   obtain ⟨k1,k2,k3,k4⟩:=hI.out.iter hp
   have hst0:=hst
   unfold L.pStep at hst
   generalize bs[pos] = c at *
   generalize hrest:bs.drop (pos+1) = rest at *
   by_cases hd:L.digB c = true∧st.nu < 1000
   ·rw [if_pos hd] at hst
    obtain ⟨hdc,hnu⟩:=hd
    unfold L.digB at hdc
    simp only [Bool.and_eq_true,decide_eq_true_eq] at hdc
    generalize c.toNat = n at *
    have d1:decide ((n:Int)≥48) = true:=decide_eq_true (by omega)
    have d1':decide (48≤n) = true:=decide_eq_true (by omega)
    have d2:decide ((n:Int)≤57) = true:=decide_eq_true (by omega)
    have d2':decide (n≤57) = true:=decide_eq_true (by omega)
    have d3:decide ((st.nu:Int) < 1000) = true:=decide_eq_true (by omega)
    have d3':decide (st.nu < 1000) = true:=decide_eq_true (by omega)
    obtain ⟨dd,hdd⟩:∃ dd,dd = n - 48:=⟨_,rfl⟩
    rw [←hdd] at hst
    have e1:(n:Int) - 48 = (dd:Int):=by omega
    have w1:IntKind.i32.wrap (dd:Int) = (dd:Int):=by unfold IntKind.wrap;simp [IntKind.bits,IntKind.signed];omega
    have w2:IntKind.i64.wrap (dd:Int) = (dd:Int):=IntWalk.i64_in _ (by omega)
    have w3:IntKind.i64.wrap (10 * (st.nu:Int)) = 10 * (st.nu:Int):=IntWalk.i64_in _ (by omega)
    obtain ⟨m,hm⟩:∃ m,m = 10 * st.nu+dd:=⟨_,rfl⟩
    rw [←hm] at hst
    have e2:10 * (st.nu:Int)+(dd:Int) = (m:Int):=by omega
    have w4:IntKind.i64.wrap (m:Int) = (m:Int):=IntWalk.i64_in _ (by omega)
    have hmb:m < 10000:=by omega
    replace hm:=Lib.hid hm
    replace hdd:=Lib.hid hdd
    have w5:IntKind.i64.wrap ((pos:Int)+1) = (pos:Int)+1:=IntWalk.i64_in _ (by omega)
    by_cases hend:pos+1 = bs.length
    ·have hre:rest = []:=by rw [←hrest,hend,List.drop_length]
     rw [hre] at hst hrun'
     rw [if_pos (by rfl)] at hst
     have hq:((pos:Int)+1 == (S.size:Int)) = true:=by rw [beq_iff_eq,hsz.out];omega
     obtain rfl:=Option.some.inj hst
     have hrunN:Hid (L.pRun (bs.drop (pos+1)) ⟨st.t++[⟨-1,-1,(m:Nat)⟩],st.op++[st.t.length],0⟩ = some ⟨t,[t.length - 1],0⟩):=Lib.hid (by rw [hrest,hre];exact hrun')
     clear hst0 hrun' hst hre
     have hid0:Hid True:=Lib.hid trivial
     rcases row_shape k4 with ⟨rfl,hn5⟩ | ⟨go,co,rfl⟩
     ·replace hn5:=Lib.hid hn5
      rcases row_shape k3 with ⟨rfl,hn4⟩ | ⟨gt,ct,rfl⟩
      ·replace hn4:=Lib.hid hn4
       have hsl:st.t.length≤1024:=by omega
       generalize wr.iterAt w.heap.size S (pos+1) = W1 at *
       have hN1:w.heap.size+1≤W1.heap.size:=by have:=(Array.getElem?_eq_some_iff.1 k2).1;omega
       have hro:=k4.alloc (.cells #[.int .i64 0] 3)
       have k1':=Lib.hid k1
       have k2':=Lib.hid k2
       have k3':=Lib.hid k3
       have k4':=Lib.hid k4
       clear k1 k2 k3 k4 hI
       go_wp2_with (at_builtin;(refine wpList_append_own _ rfl _ _ 76 rfl (w.heap.size+1) 3 i0 (.int .i64 0) 1 8 Tryz.underlying76 hi0 hz0 hz1 hz2 rfl (by decide) _ _ _ rfl hro ⟨W1.heap.size,0,none⟩ 1 1 [.int .i64 0] rfl rfl (cell_one_at _ _ _ _ rfl) (by simp [Value.oneCell']) (by unfold maxLen;omega) (by omega) (by simp;omega) ?_;intro v2 w2 ho2 hg2 _;obtain ⟨g1,g2,g3⟩:=pa_grow _ k1'.out k2'.out k3'.out k4'.out (by decide) hg2;replace ho2:=Lib.hid ho2;replace g1:=Lib.hid g1;replace g2:=Lib.hid g2;replace g3:=Lib.hid g3;clear hg2 hro))
       refine (leafOf_any _ _).mono ?_
       rintro e w3 ⟨rfl,hx3⟩
       have h1:=g1.out.trans (hx3.below.mono g1.out.size)
       have h2:w3.heap[w.heap.size]? = _:=(hx3.below.block _ (Array.getElem?_eq_some_iff.1 g2.out).1).trans g2.out
       have h3:=ownsRow_same g3.out (fun k hk=>hx3.below.block k (own_lt g3.out hk).1)
       have h4:=ownsRow_same ho2.out (fun k hk=>hx3.below.block k (own_lt ho2.out hk).1)
       have hrt:=h3.alloc (.cells #[.int .i64 (-1),.int .i64 (-1),.int .i64 (m:Nat)] 78)
       have hnews:=World.news_of_block (cs:=#[.int .i64 (-1),.int .i64 (-1),.int .i64 (m:Nat)]) (t:=78) (fr:=(0,0)) (heap_alloc_new w3 (.cells #[.int .i64 (-1),.int .i64 (-1),.int .i64 (m:Nat)] 78))
       have hone:∀ u∈[Value.int .i64 (-1),.int .i64 (-1),.int .i64 (m:Nat)],u.oneCell' = true:=by simp [Value.oneCell']
       have hN3:w.heap.size+1≤w3.heap.size:=by have:=(Array.getElem?_eq_some_iff.1 h2).1;omega
       have h1':=Lib.hid h1
       have h2':=Lib.hid h2
       have h3':=Lib.hid h3
       have h4':=Lib.hid h4
       clear h1 h2 h3 h4 g1 g2 g3 ho2 hx3
       go_wp2_with (at_builtin;(refine wpList_append_own _ rfl _ _ 23 rfl (w.heap.size+1) 78 iv (.agg #[.int .i64 0,.int .i64 0,.int .i64 0]) 3 24 Tryz.underlying23 hiv hzv hsv hbv rfl (by decide) _ _ _ rfl hrt ⟨w3.heap.size,0,none⟩ 1 1 [.int .i64 (-1),.int .i64 (-1),.int .i64 (m:Nat)] rfl rfl hnews hone (by unfold maxLen;omega) (by omega) (by simp;omega) ?_;intro v4 w4 ho4 hg4 _;obtain ⟨g1,g2,g3⟩:=pa_grow _ h1'.out h2'.out h4'.out h3'.out (by decide) hg4;have hnext:Hid (PaI w S bs ⟨t,[t.length - 1],0⟩ (pos+1) ⟨st.t++[⟨-1,-1,(m:Nat)⟩],st.op++[st.t.length],0⟩ v4 v2 w4):=Lib.hid ⟨g1,g2,own_cast ho4 (by simp) (by rw [treeCells_snoc]),own_cast g3 (by simp) (by simp [encI,hn4.out]),hrunN.out,hp,⟨by simp;omega,by simp;omega,show 0 < 10000 by decide⟩⟩))
       clear hg4 ho4 g1 g2 g3 hrt hnews hone
       go_wp2_with fail
       go_roundw
       case rel=>exact ⟨pos+1,⟨st.t++[⟨-1,-1,(m:Nat)⟩],st.op++[st.t.length],0⟩,rfl,hnext⟩
       case measure=>simp only [World.iterPos,hnext.out.it,hit0];omega
      ·skip
       have hsl:st.t.length≤1024:=by omega
       generalize wr.iterAt w.heap.size S (pos+1) = W1 at *
       have hN1:w.heap.size+1≤W1.heap.size:=by have:=(Array.getElem?_eq_some_iff.1 k2).1;omega
       have hro:=k4.alloc (.cells #[.int .i64 (st.t.length:Nat)] 3)
       have k1':=Lib.hid k1
       have k2':=Lib.hid k2
       have k3':=Lib.hid k3
       have k4':=Lib.hid k4
       clear k1 k2 k3 k4 hI
       go_wp2_with (at_builtin;(refine wpList_append_own _ rfl _ _ 76 rfl (w.heap.size+1) 3 i0 (.int .i64 0) 1 8 Tryz.underlying76 hi0 hz0 hz1 hz2 rfl (by decide) _ _ _ rfl hro ⟨W1.heap.size,0,none⟩ 1 1 [.int .i64 (st.t.length:Nat)] rfl rfl (cell_one_at _ _ _ _ rfl) (by simp [Value.oneCell']) (by unfold maxLen;omega) (by omega) (by simp;omega) ?_;intro v2 w2 ho2 hg2 _;obtain ⟨g1,g2,g3⟩:=pa_grow _ k1'.out k2'.out k3'.out k4'.out (by decide) hg2;replace ho2:=Lib.hid ho2;replace g1:=Lib.hid g1;replace g2:=Lib.hid g2;replace g3:=Lib.hid g3;clear hg2 hro))
       refine (leafOf_any _ _).mono ?_
       rintro e w3 ⟨rfl,hx3⟩
       have h1:=g1.out.trans (hx3.below.mono g1.out.size)
       have h2:w3.heap[w.heap.size]? = _:=(hx3.below.block _ (Array.getElem?_eq_some_iff.1 g2.out).1).trans g2.out
       have h3:=ownsRow_same g3.out (fun k hk=>hx3.below.block k (own_lt g3.out hk).1)
       have h4:=ownsRow_same ho2.out (fun k hk=>hx3.below.block k (own_lt ho2.out hk).1)
       have hrt:=h3.alloc (.cells #[.int .i64 (-1),.int .i64 (-1),.int .i64 (m:Nat)] 78)
       have hnews:=World.news_of_block (cs:=#[.int .i64 (-1),.int .i64 (-1),.int .i64 (m:Nat)]) (t:=78) (fr:=(0,0)) (heap_alloc_new w3 (.cells #[.int .i64 (-1),.int .i64 (-1),.int .i64 (m:Nat)] 78))
       have hone:∀ u∈[Value.int .i64 (-1),.int .i64 (-1),.int .i64 (m:Nat)],u.oneCell' = true:=by simp [Value.oneCell']
       have hN3:w.heap.size+1≤w3.heap.size:=by have:=(Array.getElem?_eq_some_iff.1 h2).1;omega
       have h1':=Lib.hid h1
       have h2':=Lib.hid h2
       have h3':=Lib.hid h3
       have h4':=Lib.hid h4
       clear h1 h2 h3 h4 g1 g2 g3 ho2 hx3
       go_wp2_with (at_builtin;(refine wpList_append_own _ rfl _ _ 23 rfl (w.heap.size+1) 78 iv (.agg #[.int .i64 0,.int .i64 0,.int .i64 0]) 3 24 Tryz.underlying23 hiv hzv hsv hbv rfl (by decide) _ _ _ rfl hrt ⟨w3.heap.size,0,none⟩ 1 1 [.int .i64 (-1),.int .i64 (-1),.int .i64 (m:Nat)] rfl rfl hnews hone (by unfold maxLen;omega) (by omega) (by simp;omega) ?_;intro v4 w4 ho4 hg4 _;obtain ⟨g1,g2,g3⟩:=pa_grow _ h1'.out h2'.out h4'.out h3'.out (by decide) hg4;have hnext:Hid (PaI w S bs ⟨t,[t.length - 1],0⟩ (pos+1) ⟨st.t++[⟨-1,-1,(m:Nat)⟩],st.op++[st.t.length],0⟩ v4 v2 w4):=Lib.hid ⟨g1,g2,own_cast ho4 (by simp) (by rw [treeCells_snoc]),own_cast g3 (by simp) (by simp [encI,hid0.out]),hrunN.out,hp,⟨by simp;omega,by simp;omega,show 0 < 10000 by decide⟩⟩))
       clear hg4 ho4 g1 g2 g3 hrt hnews hone
       go_wp2_with fail
       go_roundw
       case rel=>exact ⟨pos+1,⟨st.t++[⟨-1,-1,(m:Nat)⟩],st.op++[st.t.length],0⟩,rfl,hnext⟩
       case measure=>simp only [World.iterPos,hnext.out.it,hit0];omega
     ·rcases row_shape k3 with ⟨rfl,hn4⟩ | ⟨gt,ct,rfl⟩
      ·replace hn4:=Lib.hid hn4
       have hsl:st.t.length≤1024:=by omega
       generalize wr.iterAt w.heap.size S (pos+1) = W1 at *
       have hN1:w.heap.size+1≤W1.heap.size:=by have:=(Array.getElem?_eq_some_iff.1 k2).1;omega
       have hro:=k4.alloc (.cells #[.int .i64 0] 3)
       have k1':=Lib.hid k1
       have k2':=Lib.hid k2
       have k3':=Lib.hid k3
       have k4':=Lib.hid k4
       clear k1 k2 k3 k4 hI
       go_wp2_with (at_builtin;(refine wpList_append_own _ rfl _ _ 76 rfl (w.heap.size+1) 3 i0 (.int .i64 0) 1 8 Tryz.underlying76 hi0 hz0 hz1 hz2 rfl (by decide) _ _ _ rfl hro ⟨W1.heap.size,0,none⟩ 1 1 [.int .i64 0] rfl rfl (cell_one_at _ _ _ _ rfl) (by simp [Value.oneCell']) (by unfold maxLen;omega) (by omega) (by simp;omega) ?_;intro v2 w2 ho2 hg2 _;obtain ⟨g1,g2,g3⟩:=pa_grow _ k1'.out k2'.out k3'.out k4'.out (by decide) hg2;replace ho2:=Lib.hid ho2;replace g1:=Lib.hid g1;replace g2:=Lib.hid g2;replace g3:=Lib.hid g3;clear hg2 hro))
       refine (leafOf_any _ _).mono ?_
       rintro e w3 ⟨rfl,hx3⟩
       have h1:=g1.out.trans (hx3.below.mono g1.out.size)
       have h2:w3.heap[w.heap.size]? = _:=(hx3.below.block _ (Array.getElem?_eq_some_iff.1 g2.out).1).trans g2.out
       have h3:=ownsRow_same g3.out (fun k hk=>hx3.below.block k (own_lt g3.out hk).1)
       have h4:=ownsRow_same ho2.out (fun k hk=>hx3.below.block k (own_lt ho2.out hk).1)
       have hrt:=h3.alloc (.cells #[.int .i64 (-1),.int .i64 (-1),.int .i64 (m:Nat)] 78)
       have hnews:=World.news_of_block (cs:=#[.int .i64 (-1),.int .i64 (-1),.int .i64 (m:Nat)]) (t:=78) (fr:=(0,0)) (heap_alloc_new w3 (.cells #[.int .i64 (-1),.int .i64 (-1),.int .i64 (m:Nat)] 78))
       have hone:∀ u∈[Value.int .i64 (-1),.int .i64 (-1),.int .i64 (m:Nat)],u.oneCell' = true:=by simp [Value.oneCell']
       have hN3:w.heap.size+1≤w3.heap.size:=by have:=(Array.getElem?_eq_some_iff.1 h2).1;omega
       have h1':=Lib.hid h1
       have h2':=Lib.hid h2
       have h3':=Lib.hid h3
       have h4':=Lib.hid h4
       clear h1 h2 h3 h4 g1 g2 g3 ho2 hx3
       go_wp2_with (at_builtin;(refine wpList_append_own _ rfl _ _ 23 rfl (w.heap.size+1) 78 iv (.agg #[.int .i64 0,.int .i64 0,.int .i64 0]) 3 24 Tryz.underlying23 hiv hzv hsv hbv rfl (by decide) _ _ _ rfl hrt ⟨w3.heap.size,0,none⟩ 1 1 [.int .i64 (-1),.int .i64 (-1),.int .i64 (m:Nat)] rfl rfl hnews hone (by unfold maxLen;omega) (by omega) (by simp;omega) ?_;intro v4 w4 ho4 hg4 _;obtain ⟨g1,g2,g3⟩:=pa_grow _ h1'.out h2'.out h4'.out h3'.out (by decide) hg4;have hnext:Hid (PaI w S bs ⟨t,[t.length - 1],0⟩ (pos+1) ⟨st.t++[⟨-1,-1,(m:Nat)⟩],st.op++[st.t.length],0⟩ v4 v2 w4):=Lib.hid ⟨g1,g2,own_cast ho4 (by simp) (by rw [treeCells_snoc]),own_cast g3 (by simp) (by simp [encI,hn4.out]),hrunN.out,hp,⟨by simp;omega,by simp;omega,show 0 < 10000 by decide⟩⟩))
       clear hg4 ho4 g1 g2 g3 hrt hnews hone
       go_wp2_with fail
       go_roundw
       case rel=>exact ⟨pos+1,⟨st.t++[⟨-1,-1,(m:Nat)⟩],st.op++[st.t.length],0⟩,rfl,hnext⟩
       case measure=>simp only [World.iterPos,hnext.out.it,hit0];omega
      ·skip
       have hsl:st.t.length≤1024:=by omega
       generalize wr.iterAt w.heap.size S (pos+1) = W1 at *
       have hN1:w.heap.size+1≤W1.heap.size:=by have:=(Array.getElem?_eq_some_iff.1 k2).1;omega
       have hro:=k4.alloc (.cells #[.int .i64 (st.t.length:Nat)] 3)
       have k1':=Lib.hid k1
       have k2':=Lib.hid k2
       have k3':=Lib.hid k3
       have k4':=Lib.hid k4
       clear k1 k2 k3 k4 hI
       go_wp2_with (at_builtin;(refine wpList_append_own _ rfl _ _ 76 rfl (w.heap.size+1) 3 i0 (.int .i64 0) 1 8 Tryz.underlying76 hi0 hz0 hz1 hz2 rfl (by decide) _ _ _ rfl hro ⟨W1.heap.size,0,none⟩ 1 1 [.int .i64 (st.t.length:Nat)] rfl rfl (cell_one_at _ _ _ _ rfl) (by simp [Value.oneCell']) (by unfold maxLen;omega) (by omega) (by simp;omega) ?_;intro v2 w2 ho2 hg2 _;obtain ⟨g1,g2,g3⟩:=pa_grow _ k1'.out k2'.out k3'.out k4'.out (by decide) hg2;replace ho2:=Lib.hid ho2;replace g1:=Lib.hid g1;replace g2:=Lib.hid g2;replace g3:=Lib.hid g3;clear hg2 hro))
       refine (leafOf_any _ _).mono ?_
       rintro e w3 ⟨rfl,hx3⟩
       have h1:=g1.out.trans (hx3.below.mono g1.out.size)
       have h2:w3.heap[w.heap.size]? = _:=(hx3.below.block _ (Array.getElem?_eq_some_iff.1 g2.out).1).trans g2.out
       have h3:=ownsRow_same g3.out (fun k hk=>hx3.below.block k (own_lt g3.out hk).1)
       have h4:=ownsRow_same ho2.out (fun k hk=>hx3.below.block k (own_lt ho2.out hk).1)
       have hrt:=h3.alloc (.cells #[.int .i64 (-1),.int .i64 (-1),.int .i64 (m:Nat)] 78)
       have hnews:=World.news_of_block (cs:=#[.int .i64 (-1),.int .i64 (-1),.int .i64 (m:Nat)]) (t:=78) (fr:=(0,0)) (heap_alloc_new w3 (.cells #[.int .i64 (-1),.int .i64 (-1),.int .i64 (m:Nat)] 78))
       have hone:∀ u∈[Value.int .i64 (-1),.int .i64 (-1),.int .i64 (m:Nat)],u.oneCell' = true:=by simp [Value.oneCell']
       have hN3:w.heap.size+1≤w3.heap.size:=by have:=(Array.getElem?_eq_some_iff.1 h2).1;omega
       have h1':=Lib.hid h1
       have h2':=Lib.hid h2
       have h3':=Lib.hid h3
       have h4':=Lib.hid h4
       clear h1 h2 h3 h4 g1 g2 g3 ho2 hx3
       go_wp2_with (at_builtin;(refine wpList_append_own _ rfl _ _ 23 rfl (w.heap.size+1) 78 iv (.agg #[.int .i64 0,.int .i64 0,.int .i64 0]) 3 24 Tryz.underlying23 hiv hzv hsv hbv rfl (by decide) _ _ _ rfl hrt ⟨w3.heap.size,0,none⟩ 1 1 [.int .i64 (-1),.int .i64 (-1),.int .i64 (m:Nat)] rfl rfl hnews hone (by unfold maxLen;omega) (by omega) (by simp;omega) ?_;intro v4 w4 ho4 hg4 _;obtain ⟨g1,g2,g3⟩:=pa_grow _ h1'.out h2'.out h4'.out h3'.out (by decide) hg4;have hnext:Hid (PaI w S bs ⟨t,[t.length - 1],0⟩ (pos+1) ⟨st.t++[⟨-1,-1,(m:Nat)⟩],st.op++[st.t.length],0⟩ v4 v2 w4):=Lib.hid ⟨g1,g2,own_cast ho4 (by simp) (by rw [treeCells_snoc]),own_cast g3 (by simp) (by simp [encI,hid0.out]),hrunN.out,hp,⟨by simp;omega,by simp;omega,show 0 < 10000 by decide⟩⟩))
       clear hg4 ho4 g1 g2 g3 hrt hnews hone
       go_wp2_with fail
       go_roundw
       case rel=>exact ⟨pos+1,⟨st.t++[⟨-1,-1,(m:Nat)⟩],st.op++[st.t.length],0⟩,rfl,hnext⟩
       case measure=>simp only [World.iterPos,hnext.out.it,hit0];omega
    ·have hp2:pos+1 < bs.length:=by omega
     have hq:((pos:Int)+1 == (S.size:Int)) = false:=by rw [beq_eq_false_iff_ne,hsz.out];omega
     have hre:rest = bs[pos+1] :: bs.drop (pos+1+1):=by rw [←hrest,List.drop_eq_getElem_cons hp2]
     have hg2:=hget.out (pos+1) hp2 (by rw [hsz.out];exact hp2)
     rw [hre] at hst hrun'
     generalize bs[pos+1] = c2 at *
     generalize bs.drop (pos+1+1) = rest2 at *
     cases hdg:L.digB c2
     ·have hef:L.endB (c2 :: rest2) = true:=by simp [L.endB,hdg]
      rw [if_pos hef] at hst
      have hno:c2.toNat < 48∨57 < c2.toNat:=by
       unfold L.digB at hdg
       simp only [Bool.and_eq_false_iff,decide_eq_false_iff_not] at hdg
       omega
      have i0':(0:Int)≤(pos:Int)+1:=by omega
      have i1:(pos:Int)+1 < (S.size:Int):=by rw [hsz.out];omega
      have i2:pos+1 < S.size:=by rw [hsz.out];omega
      have hno2:(decide ((c2.toNat:Int) < 48) || decide ((c2.toNat:Int) > 57)) = true:=by
       rw [Bool.or_eq_true,decide_eq_true_iff,decide_eq_true_iff];omega
      by_cases h48:c2.toNat < 48
      ·have f1:decide ((c2.toNat:Int) < 48) = true:=decide_eq_true (by omega)
       have f1':decide (c2.toNat < 48) = true:=decide_eq_true h48
       clear hno2 hno
       obtain rfl:=Option.some.inj hst
       have hrunN:Hid (L.pRun (bs.drop (pos+1)) ⟨st.t++[⟨-1,-1,(m:Nat)⟩],st.op++[st.t.length],0⟩ = some ⟨t,[t.length - 1],0⟩):=Lib.hid (by rw [hrest,hre];exact hrun')
       clear hst0 hrun' hst hre
       have hid0:Hid True:=Lib.hid trivial
       rcases row_shape k4 with ⟨rfl,hn5⟩ | ⟨go,co,rfl⟩
       ·replace hn5:=Lib.hid hn5
        rcases row_shape k3 with ⟨rfl,hn4⟩ | ⟨gt,ct,rfl⟩
        ·replace hn4:=Lib.hid hn4
         have hsl:st.t.length≤1024:=by omega
         generalize wr.iterAt w.heap.size S (pos+1) = W1 at *
         have hN1:w.heap.size+1≤W1.heap.size:=by have:=(Array.getElem?_eq_some_iff.1 k2).1;omega
         have hro:=k4.alloc (.cells #[.int .i64 0] 3)
         have k1':=Lib.hid k1
         have k2':=Lib.hid k2
         have k3':=Lib.hid k3
         have k4':=Lib.hid k4
         clear k1 k2 k3 k4 hI
         go_wp2_with (at_builtin;(refine wpList_append_own _ rfl _ _ 76 rfl (w.heap.size+1) 3 i0 (.int .i64 0) 1 8 Tryz.underlying76 hi0 hz0 hz1 hz2 rfl (by decide) _ _ _ rfl hro ⟨W1.heap.size,0,none⟩ 1 1 [.int .i64 0] rfl rfl (cell_one_at _ _ _ _ rfl) (by simp [Value.oneCell']) (by unfold maxLen;omega) (by omega) (by simp;omega) ?_;intro v2 w2 ho2 hg2 _;obtain ⟨g1,g2,g3⟩:=pa_grow _ k1'.out k2'.out k3'.out k4'.out (by decide) hg2;replace ho2:=Lib.hid ho2;replace g1:=Lib.hid g1;replace g2:=Lib.hid g2;replace g3:=Lib.hid g3;clear hg2 hro))
         refine (leafOf_any _ _).mono ?_
         rintro e w3 ⟨rfl,hx3⟩
         have h1:=g1.out.trans (hx3.below.mono g1.out.size)
         have h2:w3.heap[w.heap.size]? = _:=(hx3.below.block _ (Array.getElem?_eq_some_iff.1 g2.out).1).trans g2.out
         have h3:=ownsRow_same g3.out (fun k hk=>hx3.below.block k (own_lt g3.out hk).1)
         have h4:=ownsRow_same ho2.out (fun k hk=>hx3.below.block k (own_lt ho2.out hk).1)
         have hrt:=h3.alloc (.cells #[.int .i64 (-1),.int .i64 (-1),.int .i64 (m:Nat)] 78)
         have hnews:=World.news_of_block (cs:=#[.int .i64 (-1),.int .i64 (-1),.int .i64 (m:Nat)]) (t:=78) (fr:=(0,0)) (heap_alloc_new w3 (.cells #[.int .i64 (-1),.int .i64 (-1),.int .i64 (m:Nat)] 78))
         have hone:∀ u∈[Value.int .i64 (-1),.int .i64 (-1),.int .i64 (m:Nat)],u.oneCell' = true:=by simp [Value.oneCell']
         have hN3:w.heap.size+1≤w3.heap.size:=by have:=(Array.getElem?_eq_some_iff.1 h2).1;omega
         have h1':=Lib.hid h1
         have h2':=Lib.hid h2
         have h3':=Lib.hid h3
         have h4':=Lib.hid h4
         clear h1 h2 h3 h4 g1 g2 g3 ho2 hx3
         go_wp2_with (at_builtin;(refine wpList_append_own _ rfl _ _ 23 rfl (w.heap.size+1) 78 iv (.agg #[.int .i64 0,.int .i64 0,.int .i64 0]) 3 24 Tryz.underlying23 hiv hzv hsv hbv rfl (by decide) _ _ _ rfl hrt ⟨w3.heap.size,0,none⟩ 1 1 [.int .i64 (-1),.int .i64 (-1),.int .i64 (m:Nat)] rfl rfl hnews hone (by unfold maxLen;omega) (by omega) (by simp;omega) ?_;intro v4 w4 ho4 hg4 _;obtain ⟨g1,g2,g3⟩:=pa_grow _ h1'.out h2'.out h4'.out h3'.out (by decide) hg4;have hnext:Hid (PaI w S bs ⟨t,[t.length - 1],0⟩ (pos+1) ⟨st.t++[⟨-1,-1,(m:Nat)⟩],st.op++[st.t.length],0⟩ v4 v2 w4):=Lib.hid ⟨g1,g2,own_cast ho4 (by simp) (by rw [treeCells_snoc]),own_cast g3 (by simp) (by simp [encI,hn4.out]),hrunN.out,hp,⟨by simp;omega,by simp;omega,show 0 < 10000 by decide⟩⟩))
         clear hg4 ho4 g1 g2 g3 hrt hnews hone
         go_wp2_with fail
         go_roundw
         case rel=>exact ⟨pos+1,⟨st.t++[⟨-1,-1,(m:Nat)⟩],st.op++[st.t.length],0⟩,rfl,hnext⟩
         case measure=>simp only [World.iterPos,hnext.out.it,hit0];omega
        ·skip
         have hsl:st.t.length≤1024:=by omega
         generalize wr.iterAt w.heap.size S (pos+1) = W1 at *
         have hN1:w.heap.size+1≤W1.heap.size:=by have:=(Array.getElem?_eq_some_iff.1 k2).1;omega
         have hro:=k4.alloc (.cells #[.int .i64 (st.t.length:Nat)] 3)
         have k1':=Lib.hid k1
         have k2':=Lib.hid k2
         have k3':=Lib.hid k3
         have k4':=Lib.hid k4
         clear k1 k2 k3 k4 hI
         go_wp2_with (at_builtin;(refine wpList_append_own _ rfl _ _ 76 rfl (w.heap.size+1) 3 i0 (.int .i64 0) 1 8 Tryz.underlying76 hi0 hz0 hz1 hz2 rfl (by decide) _ _ _ rfl hro ⟨W1.heap.size,0,none⟩ 1 1 [.int .i64 (st.t.length:Nat)] rfl rfl (cell_one_at _ _ _ _ rfl) (by simp [Value.oneCell']) (by unfold maxLen;omega) (by omega) (by simp;omega) ?_;intro v2 w2 ho2 hg2 _;obtain ⟨g1,g2,g3⟩:=pa_grow _ k1'.out k2'.out k3'.out k4'.out (by decide) hg2;replace ho2:=Lib.hid ho2;replace g1:=Lib.hid g1;replace g2:=Lib.hid g2;replace g3:=Lib.hid g3;clear hg2 hro))
         refine (leafOf_any _ _).mono ?_
         rintro e w3 ⟨rfl,hx3⟩
         have h1:=g1.out.trans (hx3.below.mono g1.out.size)
         have h2:w3.heap[w.heap.size]? = _:=(hx3.below.block _ (Array.getElem?_eq_some_iff.1 g2.out).1).trans g2.out
         have h3:=ownsRow_same g3.out (fun k hk=>hx3.below.block k (own_lt g3.out hk).1)
         have h4:=ownsRow_same ho2.out (fun k hk=>hx3.below.block k (own_lt ho2.out hk).1)
         have hrt:=h3.alloc (.cells #[.int .i64 (-1),.int .i64 (-1),.int .i64 (m:Nat)] 78)
         have hnews:=World.news_of_block (cs:=#[.int .i64 (-1),.int .i64 (-1),.int .i64 (m:Nat)]) (t:=78) (fr:=(0,0)) (heap_alloc_new w3 (.cells #[.int .i64 (-1),.int .i64 (-1),.int .i64 (m:Nat)] 78))
         have hone:∀ u∈[Value.int .i64 (-1),.int .i64 (-1),.int .i64 (m:Nat)],u.oneCell' = true:=by simp [Value.oneCell']
         have hN3:w.heap.size+1≤w3.heap.size:=by have:=(Array.getElem?_eq_some_iff.1 h2).1;omega
         have h1':=Lib.hid h1
         have h2':=Lib.hid h2
         have h3':=Lib.hid h3
         have h4':=Lib.hid h4
         clear h1 h2 h3 h4 g1 g2 g3 ho2 hx3
         go_wp2_with (at_builtin;(refine wpList_append_own _ rfl _ _ 23 rfl (w.heap.size+1) 78 iv (.agg #[.int .i64 0,.int .i64 0,.int .i64 0]) 3 24 Tryz.underlying23 hiv hzv hsv hbv rfl (by decide) _ _ _ rfl hrt ⟨w3.heap.size,0,none⟩ 1 1 [.int .i64 (-1),.int .i64 (-1),.int .i64 (m:Nat)] rfl rfl hnews hone (by unfold maxLen;omega) (by omega) (by simp;omega) ?_;intro v4 w4 ho4 hg4 _;obtain ⟨g1,g2,g3⟩:=pa_grow _ h1'.out h2'.out h4'.out h3'.out (by decide) hg4;have hnext:Hid (PaI w S bs ⟨t,[t.length - 1],0⟩ (pos+1) ⟨st.t++[⟨-1,-1,(m:Nat)⟩],st.op++[st.t.length],0⟩ v4 v2 w4):=Lib.hid ⟨g1,g2,own_cast ho4 (by simp) (by rw [treeCells_snoc]),own_cast g3 (by simp) (by simp [encI,hid0.out]),hrunN.out,hp,⟨by simp;omega,by simp;omega,show 0 < 10000 by decide⟩⟩))
         clear hg4 ho4 g1 g2 g3 hrt hnews hone
         go_wp2_with fail
         go_roundw
         case rel=>exact ⟨pos+1,⟨st.t++[⟨-1,-1,(m:Nat)⟩],st.op++[st.t.length],0⟩,rfl,hnext⟩
         case measure=>simp only [World.iterPos,hnext.out.it,hit0];omega
       ·rcases row_shape k3 with ⟨rfl,hn4⟩ | ⟨gt,ct,rfl⟩
        ·replace hn4:=Lib.hid hn4
         have hsl:st.t.length≤1024:=by omega
         generalize wr.iterAt w.heap.size S (pos+1) = W1 at *
         have hN1:w.heap.size+1≤W1.heap.size:=by have:=(Array.getElem?_eq_some_iff.1 k2).1;omega
         have hro:=k4.alloc (.cells #[.int .i64 0] 3)
         have k1':=Lib.hid k1
         have k2':=Lib.hid k2
         have k3':=Lib.hid k3
         have k4':=Lib.hid k4
         clear k1 k2 k3 k4 hI
         go_wp2_with (at_builtin;(refine wpList_append_own _ rfl _ _ 76 rfl (w.heap.size+1) 3 i0 (.int .i64 0) 1 8 Tryz.underlying76 hi0 hz0 hz1 hz2 rfl (by decide) _ _ _ rfl hro ⟨W1.heap.size,0,none⟩ 1 1 [.int .i64 0] rfl rfl (cell_one_at _ _ _ _ rfl) (by simp [Value.oneCell']) (by unfold maxLen;omega) (by omega) (by simp;omega) ?_;intro v2 w2 ho2 hg2 _;obtain ⟨g1,g2,g3⟩:=pa_grow _ k1'.out k2'.out k3'.out k4'.out (by decide) hg2;replace ho2:=Lib.hid ho2;replace g1:=Lib.hid g1;replace g2:=Lib.hid g2;replace g3:=Lib.hid g3;clear hg2 hro))
         refine (leafOf_any _ _).mono ?_
         rintro e w3 ⟨rfl,hx3⟩
         have h1:=g1.out.trans (hx3.below.mono g1.out.size)
         have h2:w3.heap[w.heap.size]? = _:=(hx3.below.block _ (Array.getElem?_eq_some_iff.1 g2.out).1).trans g2.out
         have h3:=ownsRow_same g3.out (fun k hk=>hx3.below.block k (own_lt g3.out hk).1)
         have h4:=ownsRow_same ho2.out (fun k hk=>hx3.below.block k (own_lt ho2.out hk).1)
         have hrt:=h3.alloc (.cells #[.int .i64 (-1),.int .i64 (-1),.int .i64 (m:Nat)] 78)
         have hnews:=World.news_of_block (cs:=#[.int .i64 (-1),.int .i64 (-1),.int .i64 (m:Nat)]) (t:=78) (fr:=(0,0)) (heap_alloc_new w3 (.cells #[.int .i64 (-1),.int .i64 (-1),.int .i64 (m:Nat)] 78))
         have hone:∀ u∈[Value.int .i64 (-1),.int .i64 (-1),.int .i64 (m:Nat)],u.oneCell' = true:=by simp [Value.oneCell']
         have hN3:w.heap.size+1≤w3.heap.size:=by have:=(Array.getElem?_eq_some_iff.1 h2).1;omega
         have h1':=Lib.hid h1
         have h2':=Lib.hid h2
         have h3':=Lib.hid h3
         have h4':=Lib.hid h4
         clear h1 h2 h3 h4 g1 g2 g3 ho2 hx3
         go_wp2_with (at_builtin;(refine wpList_append_own _ rfl _ _ 23 rfl (w.heap.size+1) 78 iv (.agg #[.int .i64 0,.int .i64 0,.int .i64 0]) 3 24 Tryz.underlying23 hiv hzv hsv hbv rfl (by decide) _ _ _ rfl hrt ⟨w3.heap.size,0,none⟩ 1 1 [.int .i64 (-1),.int .i64 (-1),.int .i64 (m:Nat)] rfl rfl hnews hone (by unfold maxLen;omega) (by omega) (by simp;omega) ?_;intro v4 w4 ho4 hg4 _;obtain ⟨g1,g2,g3⟩:=pa_grow _ h1'.out h2'.out h4'.out h3'.out (by decide) hg4;have hnext:Hid (PaI w S bs ⟨t,[t.length - 1],0⟩ (pos+1) ⟨st.t++[⟨-1,-1,(m:Nat)⟩],st.op++[st.t.length],0⟩ v4 v2 w4):=Lib.hid ⟨g1,g2,own_cast ho4 (by simp) (by rw [treeCells_snoc]),own_cast g3 (by simp) (by simp [encI,hn4.out]),hrunN.out,hp,⟨by simp;omega,by simp;omega,show 0 < 10000 by decide⟩⟩))
         clear hg4 ho4 g1 g2 g3 hrt hnews hone
         go_wp2_with fail
         go_roundw
         case rel=>exact ⟨pos+1,⟨st.t++[⟨-1,-1,(m:Nat)⟩],st.op++[st.t.length],0⟩,rfl,hnext⟩
         case measure=>simp only [World.iterPos,hnext.out.it,hit0];omega
        ·skip
         have hsl:st.t.length≤1024:=by omega
         generalize wr.iterAt w.heap.size S (pos+1) = W1 at *
         have hN1:w.heap.size+1≤W1.heap.size:=by have:=(Array.getElem?_eq_some_iff.1 k2).1;omega
         have hro:=k4.alloc (.cells #[.int .i64 (st.t.length:Nat)] 3)
         have k1':=Lib.hid k1
         have k2':=Lib.hid k2
         have k3':=Lib.hid k3
         have k4':=Lib.hid k4
         clear k1 k2 k3 k4 hI
         go_wp2_with (at_builtin;(refine wpList_append_own _ rfl _ _ 76 rfl (w.heap.size+1) 3 i0 (.int .i64 0) 1 8 Tryz.underlying76 hi0 hz0 hz1 hz2 rfl (by decide) _ _ _ rfl hro ⟨W1.heap.size,0,none⟩ 1 1 [.int .i64 (st.t.length:Nat)] rfl rfl (cell_one_at _ _ _ _ rfl) (by simp [Value.oneCell']) (by unfold maxLen;omega) (by omega) (by simp;omega) ?_;intro v2 w2 ho2 hg2 _;obtain ⟨g1,g2,g3⟩:=pa_grow _ k1'.out k2'.out k3'.out k4'.out (by decide) hg2;replace ho2:=Lib.hid ho2;replace g1:=Lib.hid g1;replace g2:=Lib.hid g2;replace g3:=Lib.hid g3;clear hg2 hro))
         refine (leafOf_any _ _).mono ?_
         rintro e w3 ⟨rfl,hx3⟩
         have h1:=g1.out.trans (hx3.below.mono g1.out.size)
         have h2:w3.heap[w.heap.size]? = _:=(hx3.below.block _ (Array.getElem?_eq_some_iff.1 g2.out).1).trans g2.out
         have h3:=ownsRow_same g3.out (fun k hk=>hx3.below.block k (own_lt g3.out hk).1)
         have h4:=ownsRow_same ho2.out (fun k hk=>hx3.below.block k (own_lt ho2.out hk).1)
         have hrt:=h3.alloc (.cells #[.int .i64 (-1),.int .i64 (-1),.int .i64 (m:Nat)] 78)
         have hnews:=World.news_of_block (cs:=#[.int .i64 (-1),.int .i64 (-1),.int .i64 (m:Nat)]) (t:=78) (fr:=(0,0)) (heap_alloc_new w3 (.cells #[.int .i64 (-1),.int .i64 (-1),.int .i64 (m:Nat)] 78))
         have hone:∀ u∈[Value.int .i64 (-1),.int .i64 (-1),.int .i64 (m:Nat)],u.oneCell' = true:=by simp [Value.oneCell']
         have hN3:w.heap.size+1≤w3.heap.size:=by have:=(Array.getElem?_eq_some_iff.1 h2).1;omega
         have h1':=Lib.hid h1
         have h2':=Lib.hid h2
         have h3':=Lib.hid h3
         have h4':=Lib.hid h4
         clear h1 h2 h3 h4 g1 g2 g3 ho2 hx3
         go_wp2_with (at_builtin;(refine wpList_append_own _ rfl _ _ 23 rfl (w.heap.size+1) 78 iv (.agg #[.int .i64 0,.int .i64 0,.int .i64 0]) 3 24 Tryz.underlying23 hiv hzv hsv hbv rfl (by decide) _ _ _ rfl hrt ⟨w3.heap.size,0,none⟩ 1 1 [.int .i64 (-1),.int .i64 (-1),.int .i64 (m:Nat)] rfl rfl hnews hone (by unfold maxLen;omega) (by omega) (by simp;omega) ?_;intro v4 w4 ho4 hg4 _;obtain ⟨g1,g2,g3⟩:=pa_grow _ h1'.out h2'.out h4'.out h3'.out (by decide) hg4;have hnext:Hid (PaI w S bs ⟨t,[t.length - 1],0⟩ (pos+1) ⟨st.t++[⟨-1,-1,(m:Nat)⟩],st.op++[st.t.length],0⟩ v4 v2 w4):=Lib.hid ⟨g1,g2,own_cast ho4 (by simp) (by rw [treeCells_snoc]),own_cast g3 (by simp) (by simp [encI,hid0.out]),hrunN.out,hp,⟨by simp;omega,by simp;omega,show 0 < 10000 by decide⟩⟩))
         clear hg4 ho4 g1 g2 g3 hrt hnews hone
         go_wp2_with fail
         go_roundw
         case rel=>exact ⟨pos+1,⟨st.t++[⟨-1,-1,(m:Nat)⟩],st.op++[st.t.length],0⟩,rfl,hnext⟩
         case measure=>simp only [World.iterPos,hnext.out.it,hit0];omega
      ·have f1:decide ((c2.toNat:Int) < 48) = false:=decide_eq_false (by omega)
       have f1':decide (c2.toNat < 48) = false:=decide_eq_false h48
       have f2:decide ((c2.toNat:Int) > 57) = true:=decide_eq_true (by omega)
       have f2':decide (57 < c2.toNat) = true:=decide_eq_true (by omega)
       clear hno2
       obtain rfl:=Option.some.inj hst
       have hrunN:Hid (L.pRun (bs.drop (pos+1)) ⟨st.t++[⟨-1,-1,(m:Nat)⟩],st.op++[st.t.length],0⟩ = some ⟨t,[t.length - 1],0⟩):=Lib.hid (by rw [hrest,hre];exact hrun')
       clear hst0 hrun' hst hre
       have hid0:Hid True:=Lib.hid trivial
       rcases row_shape k4 with ⟨rfl,hn5⟩ | ⟨go,co,rfl⟩
       ·replace hn5:=Lib.hid hn5
        rcases row_shape k3 with ⟨rfl,hn4⟩ | ⟨gt,ct,rfl⟩
        ·replace hn4:=Lib.hid hn4
         have hsl:st.t.length≤1024:=by omega
         generalize wr.iterAt w.heap.size S (pos+1) = W1 at *
         have hN1:w.heap.size+1≤W1.heap.size:=by have:=(Array.getElem?_eq_some_iff.1 k2).1;omega
         have hro:=k4.alloc (.cells #[.int .i64 0] 3)
         have k1':=Lib.hid k1
         have k2':=Lib.hid k2
         have k3':=Lib.hid k3
         have k4':=Lib.hid k4
         clear k1 k2 k3 k4 hI
         go_wp2_with (at_builtin;(refine wpList_append_own _ rfl _ _ 76 rfl (w.heap.size+1) 3 i0 (.int .i64 0) 1 8 Tryz.underlying76 hi0 hz0 hz1 hz2 rfl (by decide) _ _ _ rfl hro ⟨W1.heap.size,0,none⟩ 1 1 [.int .i64 0] rfl rfl (cell_one_at _ _ _ _ rfl) (by simp [Value.oneCell']) (by unfold maxLen;omega) (by omega) (by simp;omega) ?_;intro v2 w2 ho2 hg2 _;obtain ⟨g1,g2,g3⟩:=pa_grow _ k1'.out k2'.out k3'.out k4'.out (by decide) hg2;replace ho2:=Lib.hid ho2;replace g1:=Lib.hid g1;replace g2:=Lib.hid g2;replace g3:=Lib.hid g3;clear hg2 hro))
         refine (leafOf_any _ _).mono ?_
         rintro e w3 ⟨rfl,hx3⟩
         have h1:=g1.out.trans (hx3.below.mono g1.out.size)
         have h2:w3.heap[w.heap.size]? = _:=(hx3.below.block _ (Array.getElem?_eq_some_iff.1 g2.out).1).trans g2.out
         have h3:=ownsRow_same g3.out (fun k hk=>hx3.below.block k (own_lt g3.out hk).1)
         have h4:=ownsRow_same ho2.out (fun k hk=>hx3.below.block k (own_lt ho2.out hk).1)
         have hrt:=h3.alloc (.cells #[.int .i64 (-1),.int .i64 (-1),.int .i64 (m:Nat)] 78)
         have hnews:=World.news_of_block (cs:=#[.int .i64 (-1),.int .i64 (-1),.int .i64 (m:Nat)]) (t:=78) (fr:=(0,0)) (heap_alloc_new w3 (.cells #[.int .i64 (-1),.int .i64 (-1),.int .i64 (m:Nat)] 78))
         have hone:∀ u∈[Value.int .i64 (-1),.int .i64 (-1),.int .i64 (m:Nat)],u.oneCell' = true:=by simp [Value.oneCell']
         have hN3:w.heap.size+1≤w3.heap.size:=by have:=(Array.getElem?_eq_some_iff.1 h2).1;omega
         have h1':=Lib.hid h1
         have h2':=Lib.hid h2
         have h3':=Lib.hid h3
         have h4':=Lib.hid h4
         clear h1 h2 h3 h4 g1 g2 g3 ho2 hx3
         go_wp2_with (at_builtin;(refine wpList_append_own _ rfl _ _ 23 rfl (w.heap.size+1) 78 iv (.agg #[.int .i64 0,.int .i64 0,.int .i64 0]) 3 24 Tryz.underlying23 hiv hzv hsv hbv rfl (by decide) _ _ _ rfl hrt ⟨w3.heap.size,0,none⟩ 1 1 [.int .i64 (-1),.int .i64 (-1),.int .i64 (m:Nat)] rfl rfl hnews hone (by unfold maxLen;omega) (by omega) (by simp;omega) ?_;intro v4 w4 ho4 hg4 _;obtain ⟨g1,g2,g3⟩:=pa_grow _ h1'.out h2'.out h4'.out h3'.out (by decide) hg4;have hnext:Hid (PaI w S bs ⟨t,[t.length - 1],0⟩ (pos+1) ⟨st.t++[⟨-1,-1,(m:Nat)⟩],st.op++[st.t.length],0⟩ v4 v2 w4):=Lib.hid ⟨g1,g2,own_cast ho4 (by simp) (by rw [treeCells_snoc]),own_cast g3 (by simp) (by simp [encI,hn4.out]),hrunN.out,hp,⟨by simp;omega,by simp;omega,show 0 < 10000 by decide⟩⟩))
         clear hg4 ho4 g1 g2 g3 hrt hnews hone
         go_wp2_with fail
         go_roundw
         case rel=>exact ⟨pos+1,⟨st.t++[⟨-1,-1,(m:Nat)⟩],st.op++[st.t.length],0⟩,rfl,hnext⟩
         case measure=>simp only [World.iterPos,hnext.out.it,hit0];omega
        ·skip
         have hsl:st.t.length≤1024:=by omega
         generalize wr.iterAt w.heap.size S (pos+1) = W1 at *
         have hN1:w.heap.size+1≤W1.heap.size:=by have:=(Array.getElem?_eq_some_iff.1 k2).1;omega
         have hro:=k4.alloc (.cells #[.int .i64 (st.t.length:Nat)] 3)
         have k1':=Lib.hid k1
         have k2':=Lib.hid k2
         have k3':=Lib.hid k3
         have k4':=Lib.hid k4
         clear k1 k2 k3 k4 hI
         go_wp2_with (at_builtin;(refine wpList_append_own _ rfl _ _ 76 rfl (w.heap.size+1) 3 i0 (.int .i64 0) 1 8 Tryz.underlying76 hi0 hz0 hz1 hz2 rfl (by decide) _ _ _ rfl hro ⟨W1.heap.size,0,none⟩ 1 1 [.int .i64 (st.t.length:Nat)] rfl rfl (cell_one_at _ _ _ _ rfl) (by simp [Value.oneCell']) (by unfold maxLen;omega) (by omega) (by simp;omega) ?_;intro v2 w2 ho2 hg2 _;obtain ⟨g1,g2,g3⟩:=pa_grow _ k1'.out k2'.out k3'.out k4'.out (by decide) hg2;replace ho2:=Lib.hid ho2;replace g1:=Lib.hid g1;replace g2:=Lib.hid g2;replace g3:=Lib.hid g3;clear hg2 hro))
         refine (leafOf_any _ _).mono ?_
         rintro e w3 ⟨rfl,hx3⟩
         have h1:=g1.out.trans (hx3.below.mono g1.out.size)
         have h2:w3.heap[w.heap.size]? = _:=(hx3.below.block _ (Array.getElem?_eq_some_iff.1 g2.out).1).trans g2.out
         have h3:=ownsRow_same g3.out (fun k hk=>hx3.below.block k (own_lt g3.out hk).1)
         have h4:=ownsRow_same ho2.out (fun k hk=>hx3.below.block k (own_lt ho2.out hk).1)
         have hrt:=h3.alloc (.cells #[.int .i64 (-1),.int .i64 (-1),.int .i64 (m:Nat)] 78)
         have hnews:=World.news_of_block (cs:=#[.int .i64 (-1),.int .i64 (-1),.int .i64 (m:Nat)]) (t:=78) (fr:=(0,0)) (heap_alloc_new w3 (.cells #[.int .i64 (-1),.int .i64 (-1),.int .i64 (m:Nat)] 78))
         have hone:∀ u∈[Value.int .i64 (-1),.int .i64 (-1),.int .i64 (m:Nat)],u.oneCell' = true:=by simp [Value.oneCell']
         have hN3:w.heap.size+1≤w3.heap.size:=by have:=(Array.getElem?_eq_some_iff.1 h2).1;omega
         have h1':=Lib.hid h1
         have h2':=Lib.hid h2
         have h3':=Lib.hid h3
         have h4':=Lib.hid h4
         clear h1 h2 h3 h4 g1 g2 g3 ho2 hx3
         go_wp2_with (at_builtin;(refine wpList_append_own _ rfl _ _ 23 rfl (w.heap.size+1) 78 iv (.agg #[.int .i64 0,.int .i64 0,.int .i64 0]) 3 24 Tryz.underlying23 hiv hzv hsv hbv rfl (by decide) _ _ _ rfl hrt ⟨w3.heap.size,0,none⟩ 1 1 [.int .i64 (-1),.int .i64 (-1),.int .i64 (m:Nat)] rfl rfl hnews hone (by unfold maxLen;omega) (by omega) (by simp;omega) ?_;intro v4 w4 ho4 hg4 _;obtain ⟨g1,g2,g3⟩:=pa_grow _ h1'.out h2'.out h4'.out h3'.out (by decide) hg4;have hnext:Hid (PaI w S bs ⟨t,[t.length - 1],0⟩ (pos+1) ⟨st.t++[⟨-1,-1,(m:Nat)⟩],st.op++[st.t.length],0⟩ v4 v2 w4):=Lib.hid ⟨g1,g2,own_cast ho4 (by simp) (by rw [treeCells_snoc]),own_cast g3 (by simp) (by simp [encI,hid0.out]),hrunN.out,hp,⟨by simp;omega,by simp;omega,show 0 < 10000 by decide⟩⟩))
         clear hg4 ho4 g1 g2 g3 hrt hnews hone
         go_wp2_with fail
         go_roundw
         case rel=>exact ⟨pos+1,⟨st.t++[⟨-1,-1,(m:Nat)⟩],st.op++[st.t.length],0⟩,rfl,hnext⟩
         case measure=>simp only [World.iterPos,hnext.out.it,hit0];omega
       ·rcases row_shape k3 with ⟨rfl,hn4⟩ | ⟨gt,ct,rfl⟩
        ·replace hn4:=Lib.hid hn4
         have hsl:st.t.length≤1024:=by omega
         generalize wr.iterAt w.heap.size S (pos+1) = W1 at *
         have hN1:w.heap.size+1≤W1.heap.size:=by have:=(Array.getElem?_eq_some_iff.1 k2).1;omega
         have hro:=k4.alloc (.cells #[.int .i64 0] 3)
         have k1':=Lib.hid k1
         have k2':=Lib.hid k2
         have k3':=Lib.hid k3
         have k4':=Lib.hid k4
         clear k1 k2 k3 k4 hI
         go_wp2_with (at_builtin;(refine wpList_append_own _ rfl _ _ 76 rfl (w.heap.size+1) 3 i0 (.int .i64 0) 1 8 Tryz.underlying76 hi0 hz0 hz1 hz2 rfl (by decide) _ _ _ rfl hro ⟨W1.heap.size,0,none⟩ 1 1 [.int .i64 0] rfl rfl (cell_one_at _ _ _ _ rfl) (by simp [Value.oneCell']) (by unfold maxLen;omega) (by omega) (by simp;omega) ?_;intro v2 w2 ho2 hg2 _;obtain ⟨g1,g2,g3⟩:=pa_grow _ k1'.out k2'.out k3'.out k4'.out (by decide) hg2;replace ho2:=Lib.hid ho2;replace g1:=Lib.hid g1;replace g2:=Lib.hid g2;replace g3:=Lib.hid g3;clear hg2 hro))
         refine (leafOf_any _ _).mono ?_
         rintro e w3 ⟨rfl,hx3⟩
         have h1:=g1.out.trans (hx3.below.mono g1.out.size)
         have h2:w3.heap[w.heap.size]? = _:=(hx3.below.block _ (Array.getElem?_eq_some_iff.1 g2.out).1).trans g2.out
         have h3:=ownsRow_same g3.out (fun k hk=>hx3.below.block k (own_lt g3.out hk).1)
         have h4:=ownsRow_same ho2.out (fun k hk=>hx3.below.block k (own_lt ho2.out hk).1)
         have hrt:=h3.alloc (.cells #[.int .i64 (-1),.int .i64 (-1),.int .i64 (m:Nat)] 78)
         have hnews:=World.news_of_block (cs:=#[.int .i64 (-1),.int .i64 (-1),.int .i64 (m:Nat)]) (t:=78) (fr:=(0,0)) (heap_alloc_new w3 (.cells #[.int .i64 (-1),.int .i64 (-1),.int .i64 (m:Nat)] 78))
         have hone:∀ u∈[Value.int .i64 (-1),.int .i64 (-1),.int .i64 (m:Nat)],u.oneCell' = true:=by simp [Value.oneCell']
         have hN3:w.heap.size+1≤w3.heap.size:=by have:=(Array.getElem?_eq_some_iff.1 h2).1;omega
         have h1':=Lib.hid h1
         have h2':=Lib.hid h2
         have h3':=Lib.hid h3
         have h4':=Lib.hid h4
         clear h1 h2 h3 h4 g1 g2 g3 ho2 hx3
         go_wp2_with (at_builtin;(refine wpList_append_own _ rfl _ _ 23 rfl (w.heap.size+1) 78 iv (.agg #[.int .i64 0,.int .i64 0,.int .i64 0]) 3 24 Tryz.underlying23 hiv hzv hsv hbv rfl (by decide) _ _ _ rfl hrt ⟨w3.heap.size,0,none⟩ 1 1 [.int .i64 (-1),.int .i64 (-1),.int .i64 (m:Nat)] rfl rfl hnews hone (by unfold maxLen;omega) (by omega) (by simp;omega) ?_;intro v4 w4 ho4 hg4 _;obtain ⟨g1,g2,g3⟩:=pa_grow _ h1'.out h2'.out h4'.out h3'.out (by decide) hg4;have hnext:Hid (PaI w S bs ⟨t,[t.length - 1],0⟩ (pos+1) ⟨st.t++[⟨-1,-1,(m:Nat)⟩],st.op++[st.t.length],0⟩ v4 v2 w4):=Lib.hid ⟨g1,g2,own_cast ho4 (by simp) (by rw [treeCells_snoc]),own_cast g3 (by simp) (by simp [encI,hn4.out]),hrunN.out,hp,⟨by simp;omega,by simp;omega,show 0 < 10000 by decide⟩⟩))
         clear hg4 ho4 g1 g2 g3 hrt hnews hone
         go_wp2_with fail
         go_roundw
         case rel=>exact ⟨pos+1,⟨st.t++[⟨-1,-1,(m:Nat)⟩],st.op++[st.t.length],0⟩,rfl,hnext⟩
         case measure=>simp only [World.iterPos,hnext.out.it,hit0];omega
        ·skip
         have hsl:st.t.length≤1024:=by omega
         generalize wr.iterAt w.heap.size S (pos+1) = W1 at *
         have hN1:w.heap.size+1≤W1.heap.size:=by have:=(Array.getElem?_eq_some_iff.1 k2).1;omega
         have hro:=k4.alloc (.cells #[.int .i64 (st.t.length:Nat)] 3)
         have k1':=Lib.hid k1
         have k2':=Lib.hid k2
         have k3':=Lib.hid k3
         have k4':=Lib.hid k4
         clear k1 k2 k3 k4 hI
         go_wp2_with (at_builtin;(refine wpList_append_own _ rfl _ _ 76 rfl (w.heap.size+1) 3 i0 (.int .i64 0) 1 8 Tryz.underlying76 hi0 hz0 hz1 hz2 rfl (by decide) _ _ _ rfl hro ⟨W1.heap.size,0,none⟩ 1 1 [.int .i64 (st.t.length:Nat)] rfl rfl (cell_one_at _ _ _ _ rfl) (by simp [Value.oneCell']) (by unfold maxLen;omega) (by omega) (by simp;omega) ?_;intro v2 w2 ho2 hg2 _;obtain ⟨g1,g2,g3⟩:=pa_grow _ k1'.out k2'.out k3'.out k4'.out (by decide) hg2;replace ho2:=Lib.hid ho2;replace g1:=Lib.hid g1;replace g2:=Lib.hid g2;replace g3:=Lib.hid g3;clear hg2 hro))
         refine (leafOf_any _ _).mono ?_
         rintro e w3 ⟨rfl,hx3⟩
         have h1:=g1.out.trans (hx3.below.mono g1.out.size)
         have h2:w3.heap[w.heap.size]? = _:=(hx3.below.block _ (Array.getElem?_eq_some_iff.1 g2.out).1).trans g2.out
         have h3:=ownsRow_same g3.out (fun k hk=>hx3.below.block k (own_lt g3.out hk).1)
         have h4:=ownsRow_same ho2.out (fun k hk=>hx3.below.block k (own_lt ho2.out hk).1)
         have hrt:=h3.alloc (.cells #[.int .i64 (-1),.int .i64 (-1),.int .i64 (m:Nat)] 78)
         have hnews:=World.news_of_block (cs:=#[.int .i64 (-1),.int .i64 (-1),.int .i64 (m:Nat)]) (t:=78) (fr:=(0,0)) (heap_alloc_new w3 (.cells #[.int .i64 (-1),.int .i64 (-1),.int .i64 (m:Nat)] 78))
         have hone:∀ u∈[Value.int .i64 (-1),.int .i64 (-1),.int .i64 (m:Nat)],u.oneCell' = true:=by simp [Value.oneCell']
         have hN3:w.heap.size+1≤w3.heap.size:=by have:=(Array.getElem?_eq_some_iff.1 h2).1;omega
         have h1':=Lib.hid h1
         have h2':=Lib.hid h2
         have h3':=Lib.hid h3
         have h4':=Lib.hid h4
         clear h1 h2 h3 h4 g1 g2 g3 ho2 hx3
         go_wp2_with (at_builtin;(refine wpList_append_own _ rfl _ _ 23 rfl (w.heap.size+1) 78 iv (.agg #[.int .i64 0,.int .i64 0,.int .i64 0]) 3 24 Tryz.underlying23 hiv hzv hsv hbv rfl (by decide) _ _ _ rfl hrt ⟨w3.heap.size,0,none⟩ 1 1 [.int .i64 (-1),.int .i64 (-1),.int .i64 (m:Nat)] rfl rfl hnews hone (by unfold maxLen;omega) (by omega) (by simp;omega) ?_;intro v4 w4 ho4 hg4 _;obtain ⟨g1,g2,g3⟩:=pa_grow _ h1'.out h2'.out h4'.out h3'.out (by decide) hg4;have hnext:Hid (PaI w S bs ⟨t,[t.length - 1],0⟩ (pos+1) ⟨st.t++[⟨-1,-1,(m:Nat)⟩],st.op++[st.t.length],0⟩ v4 v2 w4):=Lib.hid ⟨g1,g2,own_cast ho4 (by simp) (by rw [treeCells_snoc]),own_cast g3 (by simp) (by simp [encI,hid0.out]),hrunN.out,hp,⟨by simp;omega,by simp;omega,show 0 < 10000 by decide⟩⟩))
         clear hg4 ho4 g1 g2 g3 hrt hnews hone
         go_wp2_with fail
         go_roundw
         case rel=>exact ⟨pos+1,⟨st.t++[⟨-1,-1,(m:Nat)⟩],st.op++[st.t.length],0⟩,rfl,hnext⟩
         case measure=>simp only [World.iterPos,hnext.out.it,hit0];omega
     ·have hef:L.endB (c2 :: rest2) = false:=by simp [L.endB,hdg]
      rw [if_neg (by rw [hef];simp)] at hst
      obtain rfl:=Option.some.inj hst
      unfold L.digB at hdg
      simp only [Bool.and_eq_true,decide_eq_true_eq] at hdg
      have hnext:Hid (PaI w S bs ⟨t,[t.length - 1],0⟩ (pos+1) ⟨st.t,st.op,m⟩ u4 u5 (wr.iterAt w.heap.size S (pos+1))):=Lib.hid ⟨k1,k2,k3,k4,by rw [hrest,hre];exact hrun',hp,⟨by show st.t.length≤_;omega,by show st.op.length≤_;omega,hmb⟩⟩
      have i0:(0:Int)≤(pos:Int)+1:=by omega
      have i1:(pos:Int)+1 < (S.size:Int):=by rw [hsz.out];omega
      have i2:pos+1 < S.size:=by rw [hsz.out];omega
      clear hI k1 k2 k3 k4 hst0 hrun'
      go_wp2_with fail
      go_roundw
      case rel=>exact ⟨pos+1,⟨st.t,st.op,m⟩,rfl,hnext⟩
      case measure=>simp only [World.iterPos,hnext.out.it,hit0];omega
   ·rw [if_neg hd] at hst
    by_cases h41:c = 41
    ·rw [if_pos h41] at hst
     subst h41
     simp only [show (41:UInt8).toNat = 41 from rfl] at hnx
     have h2:¬ st.op.length < 2:=fun h=>by rw [if_pos h] at hst;cases hst
     rw [if_neg h2] at hst
     obtain rfl:=Option.some.inj hst
     clear hst hst0
     obtain ⟨go,co,rfl⟩:∃ g cp,u5 = .slice (some ⟨g,0,none⟩) st.op.length cp:=by
      rcases row_shape k4 with ⟨_,h0⟩ | h
      ·omega
      ·exact h
     obtain ⟨A,hA⟩:∃ A,A = st.op.getD (st.op.length - 2) 0:=⟨_,rfl⟩
     obtain ⟨B,hB⟩:∃ B,B = st.op.getD (st.op.length - 1) 0:=⟨_,rfl⟩
     have hxa:(st.op.map encI)[st.op.length - 2]? = some (.int .i64 (A:Nat)):=by
      rw [List.getElem?_map,List.getElem?_eq_getElem (by omega),hA,List.getD_eq_getElem?_getD,List.getElem?_eq_getElem (by omega)];rfl
     have hxb:(st.op.map encI)[st.op.length - 1]? = some (.int .i64 (B:Nat)):=by
      rw [List.getElem?_map,List.getElem?_eq_getElem (by omega),hB,List.getD_eq_getElem?_getD,List.getElem?_eq_getElem (by omega)];rfl
     have ca:=own_one k4 hxa
     have cb:=own_one k4 hxb
     rw [←hA,←hB] at hrun'
     have hrunN:=Lib.hid hrun'
     have hcut:Hid (st.op.take (st.op.length - 2)++[st.t.length] = st.op.take (st.op.length - 2)++[st.t.length]):=Lib.hid rfl
     clear hrun' hxa hxb
     replace hA:=Lib.hid hA
     replace hB:=Lib.hid hB
     obtain ⟨p2,hp2⟩:∃ p,p = st.op.length - 2:=⟨_,rfl⟩
     obtain ⟨p1,hp1⟩:∃ p,p = st.op.length - 1:=⟨_,rfl⟩
     rw [←hp2] at ca
     rw [←hp1] at cb
     have hop:st.op.length≤1024:=by omega
     obtain ⟨nn,hnn⟩:∃ nn,nn = st.op.length:=⟨_,rfl⟩
     have e1:(nn:Int) - 2 = (p2:Int):=by omega
     have e2:(nn:Int) - 1 = (p1:Int):=by omega
     have w1:IntKind.i64.wrap (p2:Int) = (p2:Int):=IntWalk.i64_in _ (by omega)
     have w2:IntKind.i64.wrap (p1:Int) = (p1:Int):=IntWalk.i64_in _ (by omega)
     have i1:(0:Int)≤p2:=by omega
     have i2:(p2:Int) < nn:=by omega
     have i3:(0:Int)≤p1:=by omega
     have i4:(p1:Int) < nn:=by omega
     have d2:decide ((nn:Int) < 2) = false:=decide_eq_false (by omega)
     have d2':decide (nn < 2) = false:=decide_eq_false (by omega)
     have hnb:2≤nn∧nn≤1024:=by omega
     rw [←hnn] at k4 ⊢
     replace hnn:=Lib.hid hnn
     replace hp2:=Lib.hid hp2
     replace hp1:=Lib.hid hp1
     have hcap:nn≤co:=by
      obtain ⟨_,⟨h0,_⟩ | ⟨_,_,_,e,_,_,h,_⟩⟩:=k4
      ·cases h0
      ·cases e;exact h
     have hp2n:p2≤nn:=by omega
     have hsl:st.t.length≤1024:=by omega
     generalize wr.iterAt w.heap.size S (pos+1) = W1 at *
     have hN1:w.heap.size+1≤W1.heap.size:=by have:=(Array.getElem?_eq_some_iff.1 k2).1;omega
     have k1':Hid (Below w.heap.size w W1.drew):=Lib.hid (k1.trans ((Below.refl W1.heap.size W1).drew.mono k1.size))
     have k2':Hid (W1.drew.heap[w.heap.size]? = some (.stringIter S (pos+1))):=Lib.hid k2
     have k3':Hid (W1.drew.ownsRow (w.heap.size+1) 78 3 u4 st.t.length (treeCells st.t)):=Lib.hid k3
     have k4':Hid (W1.drew.ownsRow (w.heap.size+1) 3 1 (.slice (some ⟨go,0,none⟩) nn co) nn (st.op.map encI)):=Lib.hid k4
     have hrt:=k3'.out.alloc (.cells #[.int .i64 (A:Nat),.int .i64 (B:Nat),.int .i64 0] 78)
     have hnews:=World.news_of_block (cs:=#[.int .i64 (A:Nat),.int .i64 (B:Nat),.int .i64 0]) (t:=78) (fr:=(0,0)) (heap_alloc_new W1.drew (.cells #[.int .i64 (A:Nat),.int .i64 (B:Nat),.int .i64 0] 78))
     have hone:∀ u∈[Value.int .i64 (A:Nat),.int .i64 (B:Nat),.int .i64 0],u.oneCell' = true:=by simp [Value.oneCell']
     clear k1 k2 k4 hI h2 hd
     rcases row_shape k3 with ⟨rfl,hn4⟩ | ⟨gt,ct,rfl⟩
     ·replace hn4:=Lib.hid hn4
      clear k3
      go_wp2_with fail
      (refine wp_region_held_drew (S:=(fun _=>True)) (by kernel_rfl) ?_ (fun hHeld=>?_))
      ·trivial
      have hT:True:=trivial
      (refine takeL (i:=0) (v:=?_) rfl (by kernel_rfl) (by kernel_rfl) (by kernel_rfl) (fun _ _ _ h=>h) (Or.inl ⟨by rfl,?_⟩) (by assumption) ?_)
      rotate_left
      ·(intro w hSw;(try dsimp only at hSw);go_simp;first | done | with_reducible rfl)
      (try simp only [Act.put,List.setIfInBounds_toArray,List.set_cons_zero,List.set_cons_succ])
      (refine takeL (i:=1) (v:=?_) rfl (by kernel_rfl) (by kernel_rfl) (by kernel_rfl) (fun _ _ _ h=>h) (Or.inl ⟨by rfl,?_⟩) (by assumption) ?_)
      rotate_left
      ·(intro w hSw;(try dsimp only at hSw);go_simp;first | done | with_reducible rfl)
      (try simp only [Act.put,List.setIfInBounds_toArray,List.set_cons_zero,List.set_cons_succ])
      (refine takeL (i:=2) (v:=?_) rfl (by kernel_rfl) (by kernel_rfl) (by kernel_rfl) (fun _ _ _ h=>h) (Or.inl ⟨by rfl,?_⟩) (by assumption) ?_)
      rotate_left
      ·(intro w hSw;(try dsimp only at hSw);go_simp;first | done | with_reducible rfl)
      (try simp only [Act.put,List.setIfInBounds_toArray,List.set_cons_zero,List.set_cons_succ])
      (refine takeL (i:=3) (v:=?_) rfl (by kernel_rfl) (by kernel_rfl) (by kernel_rfl) (fun _ _ _ h=>h) (Or.inl ⟨by rfl,?_⟩) (by assumption) ?_)
      rotate_left
      ·(intro w hSw;(try dsimp only at hSw);go_simp;first | done | with_reducible rfl)
      (try simp only [Act.put,List.setIfInBounds_toArray,List.set_cons_zero,List.set_cons_succ])
      (refine takeL (i:=4) (v:=?_) rfl (by kernel_rfl) (by kernel_rfl) (by kernel_rfl) (fun _ _ _ h=>h) (Or.inl ⟨by rfl,?_⟩) (by assumption) ?_)
      rotate_left
      ·(intro w hSw;(try dsimp only at hSw);go_simp;first | done | with_reducible rfl)
      (try simp only [Act.put,List.setIfInBounds_toArray,List.set_cons_zero,List.set_cons_succ])
      (refine takeL (i:=6) (v:=?_) rfl (by kernel_rfl) (by kernel_rfl) (by kernel_rfl) (fun _ _ _ h=>h) (Or.inl ⟨by rfl,?_⟩) (by assumption) ?_)
      rotate_left
      ·(intro w hSw;(try dsimp only at hSw);go_simp;first | done | with_reducible rfl)
      (try simp only [Act.put,List.setIfInBounds_toArray,List.set_cons_zero,List.set_cons_succ])
      (refine takeL (i:=7) (v:=?_) rfl (by kernel_rfl) (by kernel_rfl) (by kernel_rfl) (fun _ _ _ h=>h) (Or.inl ⟨by rfl,?_⟩) (by assumption) ?_)
      rotate_left
      ·(intro w hSw;(try dsimp only at hSw);go_simp;first | done | with_reducible rfl)
      (try simp only [Act.put,List.setIfInBounds_toArray,List.set_cons_zero,List.set_cons_succ])
      (refine takeL (i:=8) (v:=?_) rfl (by kernel_rfl) (by kernel_rfl) (by kernel_rfl) (fun _ _ _ h=>h) (Or.inl ⟨by rfl,?_⟩) (by assumption) ?_)
      rotate_left
      ·(intro w hSw;(try dsimp only at hSw);go_simp;first | done | with_reducible rfl)
      (try simp only [Act.put,List.setIfInBounds_toArray,List.set_cons_zero,List.set_cons_succ])
      (refine takeL (i:=9) (v:=?_) rfl (by kernel_rfl) (by kernel_rfl) (by kernel_rfl) (fun _ _ _ h=>h) (Or.inl ⟨by rfl,?_⟩) (by assumption) ?_)
      rotate_left
      ·(intro w hSw;(try dsimp only at hSw);go_simp;first | done | with_reducible rfl)
      (try simp only [Act.put,List.setIfInBounds_toArray,List.set_cons_zero,List.set_cons_succ])
      clear hT
      (refine wpAnyH_ready (rs:=[5,10]) (by kernel_rfl) (by simp) ?_)
      (refine consL2 rfl rfl (fun K hK=>?_) (fun K hK=>?_))
      (rw [if_pos (by rfl)])
      go_simp
      (refine hK.out _ _ trivial (fun hT=>?_))
      (clear hT hK K)
      (try simp only [Act.put,List.setIfInBounds_toArray,List.set_cons_zero,List.set_cons_succ])
      (refine wpAnyH_ready (rs:=[10]) (by kernel_rfl) (by simp) ?_)
      (refine consL rfl (fun K hK=>?_))
      (rw [if_pos (by rfl)])
      go_simp
      (refine hK.out _ _ trivial (fun hT=>?_))
      (clear hT hK K)
      (try simp only [Act.put,List.setIfInBounds_toArray,List.set_cons_zero,List.set_cons_succ])
      refine ?hRest1
      rotate_left
      (rw [if_pos (by rfl)])
      go_simp
      (refine hK.out _ _ trivial (fun hT=>?_))
      (clear hT hK K)
      (try simp only [Act.put,List.setIfInBounds_toArray,List.set_cons_zero,List.set_cons_succ])
      (refine wpAnyH_ready (rs:=[5]) (by kernel_rfl) (by simp) ?_)
      (refine consL rfl (fun K hK=>?_))
      (rw [if_pos (by rfl)])
      go_simp
      (refine hK.out _ _ trivial (fun hT=>?_))
      (clear hT hK K)
      (try simp only [Act.put,List.setIfInBounds_toArray,List.set_cons_zero,List.set_cons_succ])
      exact ?hRest1
      have hT:True:=trivial
      (refine takeL (i:=11) (v:=?_) rfl (by kernel_rfl) (by kernel_rfl) (by kernel_rfl) (fun _ _ _ h=>h) (Or.inl ⟨by rfl,?_⟩) (by assumption) ?_)
      rotate_left
      ·(intro w hSw;(try dsimp only at hSw);go_simp;first | done | with_reducible rfl)
      (try simp only [Act.put,List.setIfInBounds_toArray,List.set_cons_zero,List.set_cons_succ])
      clear hT
      (refine wpAnyH_ready (rs:=[12]) (by kernel_rfl) (by simp) ?_)
      (refine consL rfl (fun K hK=>?_))
      ((rw [if_pos (by rfl)]);go_simp;(refine hK.out _ _ trivial (fun hT=>?_));clear hT)
      (clear hK K)
      (try simp only [Act.put,List.setIfInBounds_toArray,List.set_cons_zero,List.set_cons_succ])
      (refine wpAnyH_ready (rs:=[13]) (by kernel_rfl) (by simp) ?_)
      (refine consL rfl (fun K hK=>?_))
      ((rw [if_pos (by rfl)]);refine wp_append_own _ _ _ 23 rfl (w.heap.size+1) 78 iv (.agg #[.int .i64 0,.int .i64 0,.int .i64 0]) 3 24 Tryz.underlying23 hiv hzv hsv hbv rfl (by decide) _ _ _ rfl hrt ⟨W1.heap.size,0,none⟩ 1 1 [.int .i64 (A:Nat),.int .i64 (B:Nat),.int .i64 0] rfl rfl hnews hone (by unfold maxLen;omega) (by omega) (by simp;omega) ?_;intro v10 w10 ho10 hg10 _;(refine hK.out _ _ trivial (fun hT=>?_));clear hT)
      (clear hK K)
      (try simp only [Act.put,List.setIfInBounds_toArray,List.set_cons_zero,List.set_cons_succ])
      obtain ⟨g1,g2,g3⟩:=pa_grow _ k1'.out k2'.out k4'.out k3'.out (by decide) hg10
      have hT:True:=trivial
      (refine takeL (i:=14) (v:=?_) rfl (by kernel_rfl) (by kernel_rfl) (by kernel_rfl) (fun _ _ _ h=>h) (Or.inl ⟨by rfl,?_⟩) (by assumption) ?_)
      rotate_left
      ·(intro w hSw;(try dsimp only at hSw);go_simp;first | done | with_reducible rfl)
      (try simp only [Act.put,List.setIfInBounds_toArray,List.set_cons_zero,List.set_cons_succ])
      clear hT
      (refine wpAnyH_done (by kernel_rfl) ?_ _)
      obtain ⟨g10,c10,rfl⟩:∃ g cp,v10 = .slice (some ⟨g,0,none⟩) (st.t.length+1) cp:=by
       rcases row_shape ho10 with ⟨_,h0⟩ | h
       ·omega
       ·exact h
      obtain ⟨tl,htl⟩:∃ tl,tl = st.t.length:=⟨_,rfl⟩
      rw [←htl] at ho10 ⊢
      have htlb:tl≤1024:=by omega
      have e5:(tl:Int)+1 - 1 = (tl:Int):=by omega
      have w5:IntKind.i64.wrap (tl:Int) = (tl:Int):=IntWalk.i64_in _ (by omega)
      have hc1:(p2:Int)≤co:=by omega
      have hc2:p2≤co:=by omega
      have hol:∀ b,some (⟨go,0,none⟩:Addr) = some b→∀ j u,((st.op.take p2).map encI)[j]? = some u→(w10.alloc (.cells #[.int .i64 (tl:Nat)] 3)).cell? (b.add j) = some u:=fun b hb j u hj=>by
       obtain rfl:=Option.some.inj hb
       have hju:(st.op.map encI)[j]? = some u:=by
        rw [List.map_take] at hj
        rw [List.getElem?_take] at hj
        split at hj
        ·exact hj
        ·cases hj
       exact (g3.alloc (.cells #[.int .i64 (tl:Nat)] 3)).cells (g:=go) rfl j u hju
      have hoL:((st.op.take p2).map encI).length = p2 * 1:=by rw [List.length_map,List.length_take];have:=hnn.out;omega
      have hN10:w.heap.size+1≤w10.heap.size:=by have:=(Array.getElem?_eq_some_iff.1 g2).1;omega
      have g1':=Lib.hid g1
      have g2':=Lib.hid g2
      have ho10':=Lib.hid ho10
      replace htl:=Lib.hid htl
      clear hg10 hrt hnews hone g1 g2 g3 ho10 k1' k2' k3' k4'
      go_wp2_with (at_builtin;(refine wpList_append_grows _ rfl _ _ 76 rfl 3 i0 (.int .i64 0) 1 8 Tryz.underlying76 hi0 hz0 hz1 hz2 rfl (by decide) (some ⟨go,0,none⟩) p2 p2 ((st.op.take p2).map encI) rfl (fun h=>by cases h) hoL hol ⟨w10.heap.size,0,none⟩ 1 1 [.int .i64 (tl:Nat)] rfl rfl (cell_one_at _ _ _ _ rfl) (by simp [Value.oneCell']) (by omega) (by unfold maxLen;omega) (by omega) ?_;intro v12 w12 ho12 hg12;obtain ⟨q1,q2,q3⟩:=pa_new _ g1'.out g2'.out ho10'.out hg12;have hnext:Hid (PaI w S bs ⟨t,[t.length - 1],0⟩ (pos+1) ⟨st.t++[⟨(A:Nat),(B:Nat),0⟩],st.op.take (st.op.length - 2)++[st.t.length],st.nu⟩ (.slice (some ⟨g10,0,none⟩) (tl+1) c10) v12 w12):=Lib.hid ⟨q1,q2,own_cast q3 (by simp [htl.out]) (by rw [treeCells_snoc]),own_cast (own_base ho12 (by simp;omega)) (by simp [List.length_take];have:=hnn.out;have:=hp2.out;omega) (by rw [hp2.out,htl.out];simp [encI]),(by rw [hrest];exact hrunN.out),hp,⟨by simp;omega,by simp [List.length_take];omega,by show st.nu < 10000;omega⟩⟩))
      clear hg12 ho12 q1 q2 q3 hol hoL
      go_wp2_with fail
      go_roundw
      case rel=>exact ⟨pos+1,⟨st.t++[⟨(A:Nat),(B:Nat),0⟩],st.op.take (st.op.length - 2)++[st.t.length],st.nu⟩,rfl,hnext⟩
      case measure=>simp only [World.iterPos,hnext.out.it,hit0];omega
     ·clear k3
      go_wp2_with fail
      (refine wp_region_held_drew (S:=(fun _=>True)) (by kernel_rfl) ?_ (fun hHeld=>?_))
      ·trivial
      have hT:True:=trivial
      (refine takeL (i:=0) (v:=?_) rfl (by kernel_rfl) (by kernel_rfl) (by kernel_rfl) (fun _ _ _ h=>h) (Or.inl ⟨by rfl,?_⟩) (by assumption) ?_)
      rotate_left
      ·(intro w hSw;(try dsimp only at hSw);go_simp;first | done | with_reducible rfl)
      (try simp only [Act.put,List.setIfInBounds_toArray,List.set_cons_zero,List.set_cons_succ])
      (refine takeL (i:=1) (v:=?_) rfl (by kernel_rfl) (by kernel_rfl) (by kernel_rfl) (fun _ _ _ h=>h) (Or.inl ⟨by rfl,?_⟩) (by assumption) ?_)
      rotate_left
      ·(intro w hSw;(try dsimp only at hSw);go_simp;first | done | with_reducible rfl)
      (try simp only [Act.put,List.setIfInBounds_toArray,List.set_cons_zero,List.set_cons_succ])
      (refine takeL (i:=2) (v:=?_) rfl (by kernel_rfl) (by kernel_rfl) (by kernel_rfl) (fun _ _ _ h=>h) (Or.inl ⟨by rfl,?_⟩) (by assumption) ?_)
      rotate_left
      ·(intro w hSw;(try dsimp only at hSw);go_simp;first | done | with_reducible rfl)
      (try simp only [Act.put,List.setIfInBounds_toArray,List.set_cons_zero,List.set_cons_succ])
      (refine takeL (i:=3) (v:=?_) rfl (by kernel_rfl) (by kernel_rfl) (by kernel_rfl) (fun _ _ _ h=>h) (Or.inl ⟨by rfl,?_⟩) (by assumption) ?_)
      rotate_left
      ·(intro w hSw;(try dsimp only at hSw);go_simp;first | done | with_reducible rfl)
      (try simp only [Act.put,List.setIfInBounds_toArray,List.set_cons_zero,List.set_cons_succ])
      (refine takeL (i:=4) (v:=?_) rfl (by kernel_rfl) (by kernel_rfl) (by kernel_rfl) (fun _ _ _ h=>h) (Or.inl ⟨by rfl,?_⟩) (by assumption) ?_)
      rotate_left
      ·(intro w hSw;(try dsimp only at hSw);go_simp;first | done | with_reducible rfl)
      (try simp only [Act.put,List.setIfInBounds_toArray,List.set_cons_zero,List.set_cons_succ])
      (refine takeL (i:=6) (v:=?_) rfl (by kernel_rfl) (by kernel_rfl) (by kernel_rfl) (fun _ _ _ h=>h) (Or.inl ⟨by rfl,?_⟩) (by assumption) ?_)
      rotate_left
      ·(intro w hSw;(try dsimp only at hSw);go_simp;first | done | with_reducible rfl)
      (try simp only [Act.put,List.setIfInBounds_toArray,List.set_cons_zero,List.set_cons_succ])
      (refine takeL (i:=7) (v:=?_) rfl (by kernel_rfl) (by kernel_rfl) (by kernel_rfl) (fun _ _ _ h=>h) (Or.inl ⟨by rfl,?_⟩) (by assumption) ?_)
      rotate_left
      ·(intro w hSw;(try dsimp only at hSw);go_simp;first | done | with_reducible rfl)
      (try simp only [Act.put,List.setIfInBounds_toArray,List.set_cons_zero,List.set_cons_succ])
      (refine takeL (i:=8) (v:=?_) rfl (by kernel_rfl) (by kernel_rfl) (by kernel_rfl) (fun _ _ _ h=>h) (Or.inl ⟨by rfl,?_⟩) (by assumption) ?_)
      rotate_left
      ·(intro w hSw;(try dsimp only at hSw);go_simp;first | done | with_reducible rfl)
      (try simp only [Act.put,List.setIfInBounds_toArray,List.set_cons_zero,List.set_cons_succ])
      (refine takeL (i:=9) (v:=?_) rfl (by kernel_rfl) (by kernel_rfl) (by kernel_rfl) (fun _ _ _ h=>h) (Or.inl ⟨by rfl,?_⟩) (by assumption) ?_)
      rotate_left
      ·(intro w hSw;(try dsimp only at hSw);go_simp;first | done | with_reducible rfl)
      (try simp only [Act.put,List.setIfInBounds_toArray,List.set_cons_zero,List.set_cons_succ])
      clear hT
      (refine wpAnyH_ready (rs:=[5,10]) (by kernel_rfl) (by simp) ?_)
      (refine consL2 rfl rfl (fun K hK=>?_) (fun K hK=>?_))
      (rw [if_pos (by rfl)])
      go_simp
      (refine hK.out _ _ trivial (fun hT=>?_))
      (clear hT hK K)
      (try simp only [Act.put,List.setIfInBounds_toArray,List.set_cons_zero,List.set_cons_succ])
      (refine wpAnyH_ready (rs:=[10]) (by kernel_rfl) (by simp) ?_)
      (refine consL rfl (fun K hK=>?_))
      (rw [if_pos (by rfl)])
      go_simp
      (refine hK.out _ _ trivial (fun hT=>?_))
      (clear hT hK K)
      (try simp only [Act.put,List.setIfInBounds_toArray,List.set_cons_zero,List.set_cons_succ])
      refine ?hRest2
      rotate_left
      (rw [if_pos (by rfl)])
      go_simp
      (refine hK.out _ _ trivial (fun hT=>?_))
      (clear hT hK K)
      (try simp only [Act.put,List.setIfInBounds_toArray,List.set_cons_zero,List.set_cons_succ])
      (refine wpAnyH_ready (rs:=[5]) (by kernel_rfl) (by simp) ?_)
      (refine consL rfl (fun K hK=>?_))
      (rw [if_pos (by rfl)])
      go_simp
      (refine hK.out _ _ trivial (fun hT=>?_))
      (clear hT hK K)
      (try simp only [Act.put,List.setIfInBounds_toArray,List.set_cons_zero,List.set_cons_succ])
      exact ?hRest2
      have hT:True:=trivial
      (refine takeL (i:=11) (v:=?_) rfl (by kernel_rfl) (by kernel_rfl) (by kernel_rfl) (fun _ _ _ h=>h) (Or.inl ⟨by rfl,?_⟩) (by assumption) ?_)
      rotate_left
      ·(intro w hSw;(try dsimp only at hSw);go_simp;first | done | with_reducible rfl)
      (try simp only [Act.put,List.setIfInBounds_toArray,List.set_cons_zero,List.set_cons_succ])
      clear hT
      (refine wpAnyH_ready (rs:=[12]) (by kernel_rfl) (by simp) ?_)
      (refine consL rfl (fun K hK=>?_))
      ((rw [if_pos (by rfl)]);go_simp;(refine hK.out _ _ trivial (fun hT=>?_));clear hT)
      (clear hK K)
      (try simp only [Act.put,List.setIfInBounds_toArray,List.set_cons_zero,List.set_cons_succ])
      (refine wpAnyH_ready (rs:=[13]) (by kernel_rfl) (by simp) ?_)
      (refine consL rfl (fun K hK=>?_))
      ((rw [if_pos (by rfl)]);refine wp_append_own _ _ _ 23 rfl (w.heap.size+1) 78 iv (.agg #[.int .i64 0,.int .i64 0,.int .i64 0]) 3 24 Tryz.underlying23 hiv hzv hsv hbv rfl (by decide) _ _ _ rfl hrt ⟨W1.heap.size,0,none⟩ 1 1 [.int .i64 (A:Nat),.int .i64 (B:Nat),.int .i64 0] rfl rfl hnews hone (by unfold maxLen;omega) (by omega) (by simp;omega) ?_;intro v10 w10 ho10 hg10 _;(refine hK.out _ _ trivial (fun hT=>?_));clear hT)
      (clear hK K)
      (try simp only [Act.put,List.setIfInBounds_toArray,List.set_cons_zero,List.set_cons_succ])
      obtain ⟨g1,g2,g3⟩:=pa_grow _ k1'.out k2'.out k4'.out k3'.out (by decide) hg10
      have hT:True:=trivial
      (refine takeL (i:=14) (v:=?_) rfl (by kernel_rfl) (by kernel_rfl) (by kernel_rfl) (fun _ _ _ h=>h) (Or.inl ⟨by rfl,?_⟩) (by assumption) ?_)
      rotate_left
      ·(intro w hSw;(try dsimp only at hSw);go_simp;first | done | with_reducible rfl)
      (try simp only [Act.put,List.setIfInBounds_toArray,List.set_cons_zero,List.set_cons_succ])
      clear hT
      (refine wpAnyH_done (by kernel_rfl) ?_ _)
      obtain ⟨g10,c10,rfl⟩:∃ g cp,v10 = .slice (some ⟨g,0,none⟩) (st.t.length+1) cp:=by
       rcases row_shape ho10 with ⟨_,h0⟩ | h
       ·omega
       ·exact h
      obtain ⟨tl,htl⟩:∃ tl,tl = st.t.length:=⟨_,rfl⟩
      rw [←htl] at ho10 ⊢
      have htlb:tl≤1024:=by omega
      have e5:(tl:Int)+1 - 1 = (tl:Int):=by omega
      have w5:IntKind.i64.wrap (tl:Int) = (tl:Int):=IntWalk.i64_in _ (by omega)
      have hc1:(p2:Int)≤co:=by omega
      have hc2:p2≤co:=by omega
      have hol:∀ b,some (⟨go,0,none⟩:Addr) = some b→∀ j u,((st.op.take p2).map encI)[j]? = some u→(w10.alloc (.cells #[.int .i64 (tl:Nat)] 3)).cell? (b.add j) = some u:=fun b hb j u hj=>by
       obtain rfl:=Option.some.inj hb
       have hju:(st.op.map encI)[j]? = some u:=by
        rw [List.map_take] at hj
        rw [List.getElem?_take] at hj
        split at hj
        ·exact hj
        ·cases hj
       exact (g3.alloc (.cells #[.int .i64 (tl:Nat)] 3)).cells (g:=go) rfl j u hju
      have hoL:((st.op.take p2).map encI).length = p2 * 1:=by rw [List.length_map,List.length_take];have:=hnn.out;omega
      have hN10:w.heap.size+1≤w10.heap.size:=by have:=(Array.getElem?_eq_some_iff.1 g2).1;omega
      have g1':=Lib.hid g1
      have g2':=Lib.hid g2
      have ho10':=Lib.hid ho10
      replace htl:=Lib.hid htl
      clear hg10 hrt hnews hone g1 g2 g3 ho10 k1' k2' k3' k4'
      go_wp2_with (at_builtin;(refine wpList_append_grows _ rfl _ _ 76 rfl 3 i0 (.int .i64 0) 1 8 Tryz.underlying76 hi0 hz0 hz1 hz2 rfl (by decide) (some ⟨go,0,none⟩) p2 p2 ((st.op.take p2).map encI) rfl (fun h=>by cases h) hoL hol ⟨w10.heap.size,0,none⟩ 1 1 [.int .i64 (tl:Nat)] rfl rfl (cell_one_at _ _ _ _ rfl) (by simp [Value.oneCell']) (by omega) (by unfold maxLen;omega) (by omega) ?_;intro v12 w12 ho12 hg12;obtain ⟨q1,q2,q3⟩:=pa_new _ g1'.out g2'.out ho10'.out hg12;have hnext:Hid (PaI w S bs ⟨t,[t.length - 1],0⟩ (pos+1) ⟨st.t++[⟨(A:Nat),(B:Nat),0⟩],st.op.take (st.op.length - 2)++[st.t.length],st.nu⟩ (.slice (some ⟨g10,0,none⟩) (tl+1) c10) v12 w12):=Lib.hid ⟨q1,q2,own_cast q3 (by simp [htl.out]) (by rw [treeCells_snoc]),own_cast (own_base ho12 (by simp;omega)) (by simp [List.length_take];have:=hnn.out;have:=hp2.out;omega) (by rw [hp2.out,htl.out];simp [encI]),(by rw [hrest];exact hrunN.out),hp,⟨by simp;omega,by simp [List.length_take];omega,by show st.nu < 10000;omega⟩⟩))
      clear hg12 ho12 q1 q2 q3 hol hoL
      go_wp2_with fail
      go_roundw
      case rel=>exact ⟨pos+1,⟨st.t++[⟨(A:Nat),(B:Nat),0⟩],st.op.take (st.op.length - 2)++[st.t.length],st.nu⟩,rfl,hnext⟩
      case measure=>simp only [World.iterPos,hnext.out.it,hit0];omega
    ·rw [if_neg h41] at hst
     have hc2:c = 40∨c = 32:=by
      by_cases h:c = 40∨c = 32
      ·exact h
      ·rw [if_neg h] at hst;cases hst
     rw [if_pos hc2] at hst
     obtain rfl:=Option.some.inj hst
     have hnext:Hid (PaI w S bs ⟨t,[t.length - 1],0⟩ (pos+1) st u4 u5 (wr.iterAt w.heap.size S (pos+1))):=Lib.hid ⟨k1,k2,k3,k4,by rw [hrest];exact hrun',hp,by omega⟩
     clear hI k1 k2 k3 k4 hst0 hrun' hd h41
     rcases hc2 with rfl | rfl
     ·simp only [show (40:UInt8).toNat = 40 from rfl] at hnx
      go_wp2_with fail
      go_roundw
      case rel=>exact ⟨pos+1,st,rfl,hnext⟩
      case measure=>simp only [World.iterPos,hnext.out.it,hit0];omega
     ·simp only [show (32:UInt8).toNat = 32 from rfl] at hnx
      go_wp2_with fail
      go_roundw
      case rel=>exact ⟨pos+1,st,rfl,hnext⟩
      case measure=>simp only [World.iterPos,hnext.out.it,hit0];omega
  ·have hp':¬ pos < S.size:=by rw [hsz.out];exact hp
   have hnx:=fun ty=>Lib.run_next_end_at (P:=Tryz.prog) wr w.heap.size S pos ty hI.out.it hp'
   have hpe:pos = bs.length:=by have:=hI.out.le;omega
   have hrn:=hI.out.run
   rw [hpe,List.drop_length,L.pRun] at hrn
   obtain rfl:=Option.some.inj hrn
   obtain ⟨g,cp,rfl,hg⟩:∃ g cp,u4 = .slice (some ⟨g,0,none⟩) t.length cp∧w.heap.size+1≤g:=by
    have h1:=hI.out.rt
    obtain ⟨_,⟨_,h0⟩ | ⟨g,cap,cur,h2,h3,_⟩⟩:=h1
    ·have:t.length = 0:=h0
     omega
    ·exact ⟨g,cap,h2,h3⟩
   have htr:TreeAt wr g 0 t:=fun j u hj=>by have:=hI.out.rt.cells (g:=g) rfl j u hj;rwa [Addr.add_lit] at this
   have qp:=print_any (cap:=cp) htr hc hT (by rw [hpr];omega) (hP.same (hI.out.bel.block _ hP.lt))
   rw [hpr,←hS.out] at qp
   have hbel:=Lib.hid hI.out.bel
   replace htr:=Lib.hid htr
   have hSS:(S != S) = false:=ba_bne S
   clear hI
   go_wp2_with fail
   refine qp.mono ?_
   rintro e w5 ⟨rfl,hb5⟩
   have hfin:Hid (TreeAt w5 g 0 t∧Below w.heap.size w w5):=Lib.hid ⟨htr.out.below hb5,hbel.out.trans (hb5.mono hbel.out.size)⟩
   clear qp hb5
   go_wp2_with fail
   go_ret2
   exact ⟨g,cp,rfl,by omega,hfin.out.1,hfin.out.2⟩
theorem parse_any {T:L.Tr} {w:World} (hn:T.vars.Nodup) (hr:∀ v∈T.vars,1≤v∧v≤128) (hs:T.size≤255) (hP:PowTab w) :
  Calls Tryz.prog 25 #[.string ⟨(L.prT T).toArray⟩] w fun e w'=>∃ g cap,e = .returned (.tuple #[.slice (some ⟨g,0,none⟩) (T.post 0).length cap,.int .i64 0])∧w.heap.size≤g∧TreeAt w' g 0 (T.post 0)∧Below w.heap.size w w' :=
 parse_loop rfl (L.prT_ascii T hr) (by have:=L.prT_len T;have:=T.size_vars;omega) (by rw [L.parse_print T hr,L.Tr.post_len]) (L.post_check hn hr hs) (L.isT_root hr) rfl hP
end Go.Proofs.YtemnmcfmabamcaaGreatDoor
