import Derived.Test.YtemnmcfmabamcaaGreatDoorWVs8
import Derived.Test.YtemnmcfmabamcaaGreatDoorWVs11
import Derived.Test.YtemnmcfmabamcaaGreatDoorWVb
import Derived.Test.YtemnmcfmabamcaaGreatDoorWVs12
section
set_option linter.unusedSimpArgs false
set_option linter.unusedVariables false
namespace Go.Proofs.YtemnmcfmabamcaaGreatDoor
open Go Go.RowKit Go.Shelf
def MvAt (w:World) (v:Value) (ms:List (Nat × Nat)):Prop:=∃ (ba:Option Addr) (cp:Nat),v = .slice ba ms.length cp∧(ms = []∨∃ g,ba = some ⟨g,0,none⟩∧g < w.heap.size∧∀ j (hj:j < ms.length),w.cell? ⟨g,j * 2,none⟩ = some (.int .i64 (ms[j].1:Nat))∧w.cell? ⟨g,j * 2+1,none⟩ = some (.int .i64 (ms[j].2:Nat)))
theorem MvAt.below {w w':World} {v:Value} {ms:List (Nat × Nat)} (h:MvAt w v ms) (hb:Below w.heap.size w w'):MvAt w' v ms:=by
 obtain ⟨ba,cp,rfl,h | ⟨g,rfl,hg,hc⟩⟩:=h
 ·exact ⟨ba,cp,rfl,.inl h⟩
 ·exact ⟨_,cp,rfl,.inr ⟨g,rfl,Nat.lt_of_lt_of_le hg hb.size,fun j hj=>⟨(hb.cell (show (⟨g,j * 2,none⟩:Addr).block < w.heap.size from hg)).trans (hc j hj).1,(hb.cell (show (⟨g,j * 2+1,none⟩:Addr).block < w.heap.size from hg)).trans (hc j hj).2⟩⟩⟩
theorem own_moves {w:World} {N n:Nat} {v:Value} {ms:List (Nat × Nat)} (h:w.ownsRow N 45 2 v n (movesV ms)) (hn:n = ms.length):MvAt w v ms:=by
 subst hn
 rcases row_shape h with ⟨e,h0⟩ | ⟨g,cp,rfl⟩
 ·exact ⟨none,0,by rw [h0];exact e,.inl (List.eq_nil_of_length_eq_zero h0)⟩
 ·refine ⟨_,cp,rfl,.inr ⟨g,rfl,(own_lt h rfl).1,fun j hj=>?_⟩⟩
  obtain ⟨h1,h2⟩:=movesV_at ms j hj
  exact ⟨by rw [h.cellAt (j * 2) (by omega),h1],by rw [h.cellAt (j * 2+1) (by omega),h2]⟩
theorem MvAt.some {w:World} {v:Value} {ms:List (Nat × Nat)} (h:MvAt w v ms) (h0:0 < ms.length):∃ g cp,v = .slice (some ⟨g,0,none⟩) ms.length cp∧g < w.heap.size∧∀ j (hj:j < ms.length),w.cell? ⟨g,j * 2,none⟩ = some (.int .i64 (ms[j].1:Nat))∧w.cell? ⟨g,j * 2+1,none⟩ = some (.int .i64 (ms[j].2:Nat)):=by
 obtain ⟨ba,cp,rfl,h | ⟨g,rfl,hg,hc⟩⟩:=h
 ·rw [h] at h0;simp at h0
 ·exact ⟨g,cp,rfl,hg,hc⟩
theorem mvEq (a b c d:Int) (w:World):(Op.equalIn 10000 45 (.agg #[.int .i64 a,.int .i64 b]) (.agg #[.int .i64 c,.int .i64 d])).run Tryz.prog w = .ok (decide (a = c) && decide (b = d)) w:=by
 rw [run_equalIn_agg w _ _ _ _ (by kernel_rfl) (by kernel_rfl)]
 simp [go_sem]
 by_cases h1:a = c <;> by_cases h2:b = d <;> simp [h1,h2]
def wkT:L.Tr:=.node (.node (.leaf 1) (.leaf 2)) (.leaf 3)
def wkU:L.Tr:=.node (.leaf 1) (.node (.leaf 2) (.leaf 3))
theorem wkT_ok:TrOK wkT [1,2,3]:=⟨by decide,by decide,by decide,by decide,fun v=>by simp [wkT,L.Tr.vars]⟩
theorem wk_E:L.searchT [1,2,3] (L.tabO [1,2,3] (begφ 3)) (wkT.post 0).length 1 (wkT,[]) = (wkU,[(4,1)]):=by kernel_rfl
def wkText:ByteArray:=⟨#[40,49,32,40,50,32,51,41,41,32,40,45,49,32,70,59,32,49,32,40,45,50,32,70,59,32,50,32,51,41,41]⟩
theorem wk_shown:shB wkU (wkU.post 0) (begφ 3) = wkText:=by
 unfold shB
 rw [show wkU.post 0 = t4v from rfl,vw_texts (φ:=begφ 3) (fun y=>by simp [begφ,List.range_succ])]
 rfl
set_option maxRecDepth 100000 in
set_option maxHeartbeats 4000000 in
theorem works29_any (w:World) (hz:TzTab w) (hp:PowTab w):Calls Tryz.prog 12 #[] w fun e w'=>e = .returned (.bool true)∧Below w.heap.size w w':=by
 have q1:=begun_any (n:=3) wkT_ok hz hp (by omega) (fun i hi=>by
  obtain rfl | rfl | rfl:i = 0∨i = 1∨i = 2:=by omega
  all_goals simp [wkT,L.Tr.vars])
 rw [show strB (L.prT wkT) = ⟨#[40,40,49,32,50,41,32,51,41]⟩ from rfl] at q1
 go_enter Tryz.func12,Tryz.ntmps12
 go_wp2_with fail
 refine q1.mono ?_
 rintro e w1 ⟨sb1,r1,rfl,h1,hb1⟩
 have q2:=search_any (k:=1) h1 wkT_ok.root wkT_ok (hz.same (hb1.block _ hz.lt')) (hp.same (hb1.block _ hp.lt)) (by omega)
 unfold RetSearch at q2
 rw [wk_E] at q2
 clear q1
 go_wp2_with fail
 refine q2.mono ?_
 rintro e w2 ⟨sb2,r2,v2,rfl,h2,hok2,ho2,hb2⟩
 have b2:=hb1.trans (hb2.mono hb1.size)
 have hm2:=own_moves ho2 rfl
 have q3:=shown_any h2 hok2.root (hp.same (b2.block _ hp.lt)) hok2.pr
 rw [wk_shown] at q3
 unfold wkText at q3
 obtain ⟨g2,cp2,rfl,_,hc2⟩:=hm2.some (by decide)
 have c20:=(hc2 0 (by decide)).1
 have c21:=(hc2 0 (by decide)).2
 have hlt2:=World.block_lt_of_cell? _ _ c20
 simp only [List.length_cons,List.length_nil,List.getElem_cons_zero] at c20 c21 hlt2 ⊢
 replace h2:=Lib.hid h2
 clear q2 hm2 ho2 hc2
 go_wp2_with fail
 refine q3.mono ?_
 rintro e w3 ⟨rfl,hb3⟩
 have d20:=(hb3.cell hlt2).trans c20
 have d21:=(hb3.cell hlt2).trans c21
 have heq:=fun W=>mvEq 4 1 4 1 W
 clear q3
 go_wp2_with fail
 go_ret
 exact ⟨rfl,b2.trans (hb3.mono b2.size)⟩
end Go.Proofs.YtemnmcfmabamcaaGreatDoor
end
section
set_option linter.unusedSimpArgs false
set_option linter.unusedVariables false
namespace Go.Proofs.YtemnmcfmabamcaaGreatDoor
open Go Go.RowKit Go.Shelf
theorem strB_beq (X:ByteArray):(X == X) = true:=by
 obtain ⟨d⟩:=X
 show (d == d) = true
 exact beq_self_eq_true d
theorem fold_len (l:List Int) (f:List Bool):∀ (is:List Nat) (s:L.Tr × List (Nat × Nat)),(is.foldl (L.stepT l f) s).2.length≤s.2.length+is.length
 | [],s=>by simp
 | i :: r,s=>by
   rw [List.foldl_cons]
   have h:=fold_len l f r (L.stepT l f s i)
   have h2:(L.stepT l f s i).2.length≤s.2.length+1:=by
    rcases L.stepT_or l f s i with ⟨e,_⟩ | ⟨kd,U,e,_⟩
    ·rw [e];omega
    ·rw [e];simp
   simp only [List.length_cons]
   omega
theorem searchT_len (l:List Int) (f:List Bool) (n:Nat):∀ (k:Nat) (s:L.Tr × List (Nat × Nat)),(L.searchT l f n k s).2.length≤s.2.length+k * n
 | 0,s=>by simp [L.searchT]
 | k+1,s=>by
   have hp:(L.passT l f n s).2.length≤s.2.length+n:=by
    have:=fold_len l f (List.range n) s
    rw [List.length_range] at this
    exact this
   have he:(k+1) * n = k * n+n:=Nat.succ_mul k n
   unfold L.searchT
   simp only
   split
   ·omega
   ·have:=searchT_len l f n k (L.passT l f n s)
    omega
theorem pass_lt (p:Int):(p % 18446744073709551616 % 7).toNat≤6:=by omega
set_option maxRecDepth 100000 in
set_option maxHeartbeats 8000000 in
theorem vsmoves_any {t:List VN} {bts:Nat} {p:Int} (w:World) (ba:Option Addr) (cap:Nat) (hT:TzTab w) (hP:PowTab w) (h:t = []∨∃ b o,ba = some ⟨b,o,none⟩∧TreeAt w b o t) (hbt:bts < 65536) (hp:-9223372036854775808≤p∧p≤9223372036854775807) :
  Calls Tryz.prog 4 #[.agg #[.slice ba t.length cap,.int .u16 (bts:Nat),.int .i64 p]] w fun e w'=>e = .returned (.bool true)∧Below w.heap.size w w':=by
 have hw:∀ w',Below w.heap.size w w'→Calls Tryz.prog 12 #[] w' fun e w''=>e = .returned (.bool true)∧Below w'.heap.size w' w'':=fun w' hx=>works29_any w' (hT.same (hx.block _ hT.lt')) (hP.same (hx.block _ hP.lt))
 obtain ⟨w0,hw0,hx0,c0,c1,c2⟩:=ask_box w ba t.length cap bts p
 obtain ⟨xb,hxb⟩:∃ xb,w.heap.size = xb:=⟨_,rfl⟩
 rw [hxb] at c0 c1 c2
 have ql:=light_any (w:=w0) (ba:=ba) (cap:=cap) (bits:=bts) (p:=p) (h.imp id fun ⟨b,o,e,ht⟩=>⟨b,o,e,ht.ext hx0⟩)
 have hb0:=hx0.below
 replace hw:=Lib.hid hw
 cases hf:few7 t
 ·rw [hf] at ql
  go_enter Tryz.func4,Tryz.ntmps4
  go_wp2_with fail
  try simp only [hxb]
  rw [←hw0]
  refine ql.mono ?_
  rintro e w1 ⟨rfl,hx1⟩
  have b1:=hb0.trans (hx1.below.mono hb0.size)
  have q:=hw.out w1 b1
  clear ql
  go_wp2_with fail
  refine q.mono ?_
  rintro e w2 ⟨rfl,hb2⟩
  go_wp2_with fail
  go_ret
  exact ⟨rfl,b1.trans (hb2.mono b1.size)⟩
 ·rw [hf] at ql
  obtain ⟨T,l,tc,t7,hvr,hl6,hsb,hIT,hTok⟩:=few7_of hf
  obtain ⟨b,o,rfl,ht⟩:=tree_some tc h
  clear h hf
  go_enter Tryz.func4,Tryz.ntmps4
  go_wp2_with fail
  try simp only [hxb]
  rw [←hw0]
  refine ql.mono ?_
  rintro e w1 ⟨rfl,hx1⟩
  have b1:=hb0.trans (hx1.below.mono hb0.size)
  have z0:=hx1.cell c0
  have z1:=hx1.cell c1
  have z2:=hx1.cell c2
  have qs:=store_any (cap:=cap) (p:=p) (hT.same (b1.block _ hT.lt')) (hP.same (b1.block _ hP.lt)) (ht.below b1) tc t7 hbt hvr
  obtain ⟨φ,hφ⟩:∃ φ,φ = mdφ l bts (2 ^ l.length):=⟨_,rfl⟩
  rw [←hφ] at qs
  clear ql c0 c1 c2
  go_wp2_with fail
  refine qs.mono ?_
  rintro e w2 ⟨sb,r,rfl,hSt,hb2⟩
  have b2:=b1.trans (hb2.mono b1.size)
  have d0:=(hb2.cell (World.block_lt_of_cell? _ _ z0)).trans z0
  have d1:=(hb2.cell (World.block_lt_of_cell? _ _ z1)).trans z1
  have d2:=(hb2.cell (World.block_lt_of_cell? _ _ z2)).trans z2
  replace hφ:=Lib.hid hφ
  replace hw0:=Lib.hid hw0
  replace hxb:=Lib.hid hxb
  clear qs z0 z1 z2 hb2 hx1 b1 hb0 hx0
  obtain ⟨k,hk⟩:∃ k,k = (p % 18446744073709551616 % 7).toNat:=⟨_,rfl⟩
  have hk6:k≤6:=by rw [hk];exact pass_lt p
  have qp:=fun W=>passes_any (t:=t) (ba:=some ⟨b,o,none⟩) (cap:=cap) (bits:=bts) (p:=p) (w:=W) hp
  rw [←hk] at qp
  replace hk:=Lib.hid hk
  have qp2:=qp w2
  replace qp:=Lib.hid qp
  go_wp2_with fail
  refine qp2.mono ?_
  rintro e w3 ⟨rfl,hx3⟩
  have b3:=b2.trans (hx3.below.mono b2.size)
  have hSt3:=hSt.below hx3.below
  have e0:=hx3.cell d0
  have e1:=hx3.cell d1
  have e2:=hx3.cell d2
  have q4:=search_any (k:=k) hSt3 hIT hTok (hT.same (b3.block _ hT.lt')) (hP.same (b3.block _ hP.lt)) (by omega)
  unfold RetSearch at q4
  have hch:=L.searchT_chain l (L.tabO l φ) (T.post 0).length (T0:=T) k (T,[]) (.nil T)
  have hls:=L.searchT_least l (L.tabO l φ) (T.post 0).length k (T,[])
  have hcnt:(L.searchT l (L.tabO l φ) (T.post 0).length k (T,[])).2.length≤1000:=by
   have h1:=searchT_len l (L.tabO l φ) (T.post 0).length k (T,[])
   have h2:k * (T.post 0).length≤6 * 7:=Nat.mul_le_mul hk6 hTok.len
   simp only [List.length_nil] at h1
   omega
  obtain ⟨E,hE⟩:∃ E,E = L.searchT l (L.tabO l φ) (T.post 0).length k (T,[]):=⟨_,rfl⟩
  rw [←hE] at q4 hch hls hcnt
  have hlen:=hch.less
  have hperm:=hch.perm
  replace hch:=Lib.hid hch
  replace hls:=Lib.hid hls
  replace hlen:=Lib.hid hlen
  replace hperm:=Lib.hid hperm
  clear qp2 d0 d1 d2 hE hSt
  replace hSt3:=Lib.hid hSt3
  go_wp2_with fail
  refine q4.mono ?_
  rintro e w4 ⟨sb4,r4,v4,rfl,hSt4,hok4,ho4,hb4⟩
  have b4:=b3.trans (hb4.mono b3.size)
  have hM4:=own_moves ho4 rfl
  have f0:=(hb4.cell (World.block_lt_of_cell? _ _ e0)).trans e0
  have f1:=(hb4.cell (World.block_lt_of_cell? _ _ e1)).trans e1
  have f2:=(hb4.cell (World.block_lt_of_cell? _ _ e2)).trans e2
  have hSt4':=hSt3.out.below hb4
  obtain ⟨m4,hm4⟩:∃ m4,m4 = E.2.length:=⟨_,rfl⟩
  rw [←hm4] at hcnt
  obtain ⟨ba4,cp4,rfl,hM4'⟩:∃ ba4 cp4,v4 = .slice ba4 m4 cp4∧MvAt w4 (.slice ba4 m4 cp4) E.2:=by
   obtain ⟨a,c,e,h⟩:=hM4
   exact ⟨a,c,by rw [hm4];exact e,⟨a,c,by rw [hm4],h⟩⟩
  replace hm4:=Lib.hid hm4
  replace hSt4:=Lib.hid hSt4
  replace hSt4':=Lib.hid hSt4'
  replace hM4':=Lib.hid hM4'
  clear q4 hM4 ho4 e0 e1 e2 hSt3
  have q5:=print_any (cap:=cap) (ht.below b4) tc hIT hTok.pr (hP.same (b4.block _ hP.lt))
  have q6:=fun W (hb:Below w.heap.size w W)=>parse_any (T:=T) (w:=W) hTok.nd hTok.range (by have:=hTok.small;omega) (hP.same (hb.block _ hP.lt))
  replace q6:=Lib.hid q6
  go_wp2_with fail
  refine q5.mono ?_
  rintro e w5 ⟨rfl,hb5⟩
  have b5:=b4.trans (hb5.mono b4.size)
  have q6':=q6.out w5 b5
  clear q5 f0 f1 f2
  go_wp2_with fail
  refine q6'.mono ?_
  rintro e w6 ⟨g6,c6,rfl,_,ht6,hb6⟩
  have b6:=b5.trans (hb6.mono b5.size)
  have hb46:=hb5.trans (hb6.mono hb5.size)
  have q7:=(hSt4'.out.below hb46).copy (cap:=c6) hIT hTok (hT.same (b6.block _ hT.lt')) (hP.same (b6.block _ hP.lt)) ht6
  clear q6 q6'
  go_wp2_with fail
  refine q7.mono ?_
  rintro e w7 ⟨sb7,r7,rfl,hSt7,hb7⟩
  have b7:=b6.trans (hb7.mono b6.size)
  have hb47:=hb46.trans (hb7.mono hb46.size)
  clear q7
  have hSt47:=Lib.hid (hSt4.out.below hb47)
  have hM7:=Lib.hid (hM4'.out.below hb47)
  have h0:Hid (L.Chain l (L.tabO l φ) T (E.2.drop 0) E.1∧TrOK T l∧StAt T φ sb7 r7 w7∧Below w7.heap.size w7 w7):=Lib.hid ⟨by rw [List.drop_zero];exact hch.out,hTok,hSt7,Below.refl _ _⟩
  clear hSt4 hSt4' hM4' hb5 hb6 hb7 hb46 hb47 hSt7
  go_wp2_with fail
  go_loopw [13,14,67] (fun wv nv iv wr=>∃ (j:Nat) (U:L.Tr) (sbj rj:Nat),j≤m4∧iv = .int .i64 (j:Nat)∧wv = .pointer (some ⟨sbj,0,none⟩)∧nv = .int .i64 (rj:Nat)∧Hid (L.Chain l (L.tabO l φ) U (E.2.drop j) E.1∧TrOK U l∧StAt U φ sbj rj wr∧Below w7.heap.size w7 wr)) (fun _ _ iv _=>m4 - (intOf iv).toNat)
  case atStart=>exact ⟨0,T,sb7,r7,by omega,rfl,rfl,rfl,h0⟩
  case round =>
   clear h0
   obtain ⟨j,U,sbj,rj,hj,rfl,rfl,rfl,hI⟩:=hrel
   by_cases hlt:j < m4
   ·have dlt:decide ((j:Int) < (m4:Int)) = true:=decide_eq_true (by omega)
    obtain ⟨hchU,hokU,hStU,hbU⟩:=hI.out
    have hjl:j < E.2.length:=by have:=hm4.out;omega
    obtain ⟨g,cpg,e1,hg,hcells⟩:=(hM7.out.below hbU).some (by omega)
    injection e1 with e1 e2 e3
    clear e2 e3
    subst e1
    obtain ⟨k0,k1⟩:=hcells j hjl
    rw [List.drop_eq_getElem_cons hjl] at hchU
    obtain ⟨⟨i,kd⟩,hik⟩:∃ x,x = E.2[j]:=⟨_,rfl⟩
    rw [←hik] at hchU k0 k1
    simp only at k0 k1
    obtain ⟨V,hk1,hk3,hV,hsV,hchV⟩:∃ V,1≤kd∧kd≤3∧L.mvT kd i U 0 = some V∧L.sizeTr V l (L.tabO l φ) < L.sizeTr U l (L.tabO l φ)∧L.Chain l (L.tabO l φ) V (E.2.drop (j+1)) E.1:=by
     cases hchU with
     | cons a1 a2 a3 a4 a5=>exact ⟨_,a1,a2,a3,a4,a5⟩
    have hokV:TrOK V l:=by
     obtain ⟨g1,g2⟩:=L.mvT_perm _ _ _ hV
     exact hokU.perm g1 g2
    obtain ⟨w8,hw8⟩:∃ w8,w8 = wr.alloc (.cells #[.int .i64 (i:Nat),.int .i64 (kd:Nat)] 45):=⟨_,rfl⟩
    have hb8:Below wr.heap.size wr w8:=by rw [hw8];exact (Below.refl _ _).alloc (Nat.le_refl _) _
    have b8:=hbU.trans (hb8.mono hbU.size)
    have bw8:=b7.trans (b8.mono b7.size)
    have qm:=lmoved_any (hStU.below hb8) hokU (hT.same (bw8.block _ hT.lt')) (hP.same (bw8.block _ hP.lt)) i kd ⟨hk1,hk3⟩
    have qa:=fun (W:World) (hb:Below w8.heap.size w8 W)=>lsize_any ((hStU.below hb8).below hb) hokU.sbl hokU.root
    have j0:(0:Int)≤j:=by omega
    have j1:(j:Int) < m4:=by omega
    obtain ⟨sU,hsU⟩:∃ sU,sU = L.sizeTr U l (L.tabO l φ):=⟨_,rfl⟩
    rw [←hsU] at qa hsV
    replace hsU:=Lib.hid hsU
    replace qa:=Lib.hid qa
    replace hik:=Lib.hid hik
    clear hI hchU hStU hcells hg
    go_wp2_with fail
    rw [←hw8]
    refine qm.mono ?_
    rintro e w9 ⟨hb9,⟨hno,rfl⟩ | ⟨V',sbV,rV,hV',rfl,hStV⟩⟩
    ·rw [hno] at hV;cases hV
    ·rw [hV] at hV'
     cases hV'
     have qb:=lsize_any hStV hokV.sbl hokV.root
     obtain ⟨sV,hsV'⟩:∃ sV,sV = L.sizeTr V l (L.tabO l φ):=⟨_,rfl⟩
     rw [←hsV'] at qb hsV
     replace hsV':=Lib.hid hsV'
     have dge:decide ((sV:Int)≥(sU:Int)) = false:=decide_eq_false (by omega)
     have b9:=b8.trans (hb9.mono b8.size)
     have hStV':=Lib.hid hStV
     clear qm hStV
     go_wp2_with fail
     refine qb.mono ?_
     rintro e w10 ⟨rfl,hb10⟩
     have qa':=qa.out w10 (hb9.trans (hb10.mono hb9.size))
     have b10:=b9.trans (hb10.mono b9.size)
     clear qb
     go_wp2_with fail
     refine qa'.mono ?_
     rintro e w11 ⟨rfl,hb11⟩
     have hnext:Hid (L.Chain l (L.tabO l φ) V (E.2.drop (j+1)) E.1∧TrOK V l∧StAt V φ sbV rV w11∧Below w7.heap.size w7 w11):=Lib.hid ⟨hchV,hokV,(hStV'.out.below hb10).below hb11,b10.trans (hb11.mono b10.size)⟩
     clear qa'
     go_wp2_with fail
     go_roundw
     case rel=>exact ⟨j+1,V,sbV,rV,by omega,by go_num,rfl,rfl,hnext⟩
     case measure=>simp [intOf];omega
   ·have dlt:decide ((j:Int) < (m4:Int)) = false:=decide_eq_false (by omega)
    obtain ⟨hchU,hokU,hStU,hbU⟩:=hI.out
    have hjl:E.2.drop j = []:=List.drop_eq_nil_of_le (by have:=hm4.out;omega)
    rw [hjl] at hchU
    obtain rfl:U = E.1:=by cases hchU;rfl
    have bw:=b7.trans (hbU.mono b7.size)
    have qx:=shown_any hStU hokU.root (hP.same (bw.block _ hP.lt)) hokU.pr
    have qy:=fun (W:World) (hb:Below wr.heap.size wr W)=>shown_any ((hSt47.out.below hbU).below hb) hok4.root (hP.same ((bw.trans (hb.mono bw.size)).block _ hP.lt)) hok4.pr
    obtain ⟨X,hX⟩:∃ X,X = shB E.1 (E.1.post 0) φ:=⟨_,rfl⟩
    rw [←hX] at qx qy
    have hXX:=strB_beq X
    replace hX:=Lib.hid hX
    replace qy:=Lib.hid qy
    clear hI hchU hStU hjl
    go_wp2_with fail
    refine qx.mono ?_
    rintro e w8 ⟨rfl,hb8⟩
    have qy':=qy.out w8 hb8
    have b8:=bw.trans (hb8.mono bw.size)
    clear qx
    go_wp2_with fail
    refine qy'.mono ?_
    rintro e w9 ⟨rfl,hb9⟩
    have b9:=b8.trans (hb9.mono b8.size)
    have q:=hw.out w9 b9
    clear qy'
    go_wp2_with fail
    refine q.mono ?_
    rintro e w10 ⟨rfl,hb10⟩
    go_wp2_with fail
    go_ret
    exact ⟨rfl,b9.trans (hb10.mono b9.size)⟩
end Go.Proofs.YtemnmcfmabamcaaGreatDoor
end
