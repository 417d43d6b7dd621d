import Derived.Test.YtemnmcfmabamcaaGreatDoorXVs7
import Derived.Test.YtemnmcfmabamcaaGreatDoorXVq
import Derived.WalkMore
set_option linter.unusedSimpArgs false
set_option linter.unusedVariables false
namespace Go.Proofs.YtemnmcfmabamcaaGreatDoor
open Go Go.RowKit Go.Shelf
def movesV:List (Nat × Nat)→List Value
 | []=>[]
 | m :: r=>.int .i64 (m.1:Nat) :: .int .i64 (m.2:Nat) :: movesV r
theorem movesV_append:∀ (ms:List (Nat × Nat)) (m:Nat × Nat),movesV (ms++[m]) = movesV ms++[.int .i64 (m.1:Nat),.int .i64 (m.2:Nat)]
 | [],_=>rfl
 | x :: r,m=>by simp only [movesV,List.cons_append,movesV_append r m]
theorem movesV_at:∀ (ms:List (Nat × Nat)) (j:Nat) (hj:j < ms.length),(movesV ms)[j * 2]? = some (.int .i64 (ms[j].1:Nat))∧(movesV ms)[j * 2+1]? = some (.int .i64 (ms[j].2:Nat))
 | m :: r,0,_=>⟨rfl,rfl⟩
 | m :: r,j+1,hj=>by
   have:=movesV_at r j (by simpa using hj)
   simp only [movesV,List.getElem_cons_succ]
   rw [show (j+1) * 2 = j * 2+1+1 by omega]
   simpa using this
structure SeI (w0:World) (φ:L.Asg→Bool) (l:List Int) (x:Nat) (s:L.Tr × List (Nat × Nat)) (v:Value) (w:World):Prop where
 bel:Below w0.heap.size w0 w
 st:∃ sb r:Nat,StAt s.1 φ sb r w∧w.heap[x]? = some (.cells (stC sb r (L.sizeTr s.1 l (L.tabO l φ))) 90 (0,0))
 ok:TrOK s.1 l
 row:w.ownsRow w0.heap.size 45 2 v s.2.length (movesV s.2)
theorem row_slice {w:World} {N sz n:Nat} {e:TypeId} {v:Value} {xs:List Value} (h:w.ownsRow N e sz v n xs):∃ ba cp,v = .slice ba n cp:=by
 rcases row_shape h with ⟨e,h0⟩ | ⟨g,cp,e⟩
 ·exact ⟨none,0,by rw [h0];exact e⟩
 ·exact ⟨some ⟨g,0,none⟩,cp,e⟩
def RetSearch (T:L.Tr) (φ:L.Asg→Bool) (l:List Int) (k:Nat) (w:World) (e:Ending) (w':World):Prop:=∃ (sb r:Nat) (v:Value),e = .returned (.tuple #[.pointer (some ⟨sb,0,none⟩),.int .i64 (r:Nat),v,.int .i64 0]) ∧
 StAt (L.searchT l (L.tabO l φ) (T.post 0).length k (T,[])).1 φ sb r w'∧TrOK (L.searchT l (L.tabO l φ) (T.post 0).length k (T,[])).1 l ∧
 w'.ownsRow w.heap.size 45 2 v (L.searchT l (L.tabO l φ) (T.post 0).length k (T,[])).2.length (movesV (L.searchT l (L.tabO l φ) (T.post 0).length k (T,[])).2)∧Below w.heap.size w w'
theorem TrOK.pr {T:L.Tr} {l:List Int} (h:TrOK T l):(L.prT T).length≤100000:=by
 have:=L.prT_len T
 have:=T.size_vars
 have:=h.small
 omega
section
variable {w0 w w':World} {φ:L.Asg→Bool} {l:List Int} {x:Nat} {s:L.Tr × List (Nat × Nat)} {v:Value}
theorem SeI.below (h:SeI w0 φ l x s v w) (hb:Below w.heap.size w w'):SeI w0 φ l x s v w':=by
 obtain ⟨sb,r,h1,h2⟩:=h.st
 exact ⟨h.bel.trans (hb.mono h.bel.size),⟨sb,r,h1.below hb,(hb.block _ (Array.getElem?_eq_some_iff.1 h2).1).trans h2⟩,h.ok,ownsRow_same h.row fun k hk=>hb.block k (own_lt h.row hk).1⟩
theorem SeI.store {U:L.Tr} {sbU rU:Nat} (h:SeI w0 φ l x s v w) (hU:TrOK U l) (hS:StAt U φ sbU rU w) (hx:w0.heap.size≤x) (hg:gPow < w0.heap.size∧gTz < w0.heap.size) :
  SeI w0 φ l x (U,s.2) v (((w.setCell ⟨x,0,none⟩ (.pointer (some ⟨sbU,0,none⟩))).setCell ⟨x,1,none⟩ (.int .i64 (rU:Nat))).setCell ⟨x,2,none⟩ (.int .i64 (L.sizeTr U l (L.tabO l φ):Nat))):=by
 obtain ⟨sb,r,h1,h2⟩:=h.st
 refine ⟨set3_below h.bel hx _ _ _,⟨sbU,rU,?_,box_set3 h2 _ _ _⟩,hU,ownsRow_same h.row fun k hk=>set3_ne _ _ _ fun e=>?_⟩
 ·exact hS.turn h2 (by decide) (by decide) (by decide) (by decide) ⟨by omega,by omega⟩ fun g o hne ho=>(set3_ne _ _ _ hne).trans ho
 ·obtain ⟨_,c,hc⟩:=own_lt h.row hk
  rw [e,h2] at hc
  simp at hc
theorem SeI.push (h:SeI w0 φ l x s v w) {m:Nat × Nat} {v':Value} (hg:w.grownBy w' v.ownBlock) (ho:w'.ownsRow w0.heap.size 45 2 v' (s.2.length+1) (movesV s.2++[.int .i64 (m.1:Nat),.int .i64 (m.2:Nat)])) (hgl:gPow < w0.heap.size∧gTz < w0.heap.size) :
  SeI w0 φ l x (s.1,s.2++[m]) v' w':=by
 obtain ⟨sb,r,h1,h2⟩:=h.st
 refine ⟨Below.grown h.bel hg h.bel.size fun k e=>own_ge h.row e,⟨sb,r,h1.row h.row hg (by decide) (by decide) (by decide) (by decide) hgl,?_⟩,h.ok,own_cast ho (by simp) (movesV_append _ _).symm⟩
 refine (hg.block x (Array.getElem?_eq_some_iff.1 h2).1 fun e=>?_).trans h2
 obtain ⟨_,c,hc⟩:=own_lt h.row e.symm
 rw [h2] at hc
 simp at hc
end
theorem mv_info:(Tryz.prog.info? 45).map (fun i=>(i.zero,i.size,i.bytes)) = some (some (.agg #[.int .i64 0,.int .i64 0]),2,16):=by kernel_rfl
set_option maxRecDepth 100000 in
set_option maxHeartbeats 8000000 in
theorem search_any {t:List VN} {T:L.Tr} {φ:L.Asg→Bool} {l:List Int} {sb r k:Nat} {w:World} (h:StOn t φ sb r w) (hI:L.IsT L.idc t (t.length - 1) T) (hT:TrOK T l) (hz:TzTab w) (hp:PowTab w) (hk:k≤100) :
  Calls Tryz.prog 15 #[.pointer (some ⟨sb,0,none⟩),.int .i64 (r:Nat),.int .i64 (k:Nat)] w (RetSearch T φ l k w):=by
 have hc:=h.chk
 have t0:=(check_ok hc).1
 have hgl:Hid (gPow < w.heap.size∧gTz < w.heap.size):=Lib.hid ⟨hp.lt,hz.lt'⟩
 have n7:=hT.len
 have hok0:=hT
 unfold RetSearch
 obtain ⟨n,hn⟩:∃ n,n = (T.post 0).length:=⟨_,rfl⟩
 rw [←hn]
 have hn7:n≤7:=by omega
 obtain ⟨E,hE⟩:∃ E,E = L.searchT l (L.tabO l φ) n k (T,[]):=⟨_,rfl⟩
 rw [←hE]
 have dne:((t.length:Int) == 0) = false:=by rw [beq_eq_false_iff_ne];omega
 have dk0:decide ((k:Int) < 0) = false:=decide_eq_false (by omega)
 have dk1:decide ((k:Int) > 100) = false:=decide_eq_false (by omega)
 have dk1':decide ((100:Int) < k) = false:=decide_eq_false (by omega)
 replace hn:=Lib.hid hn
 replace hE:=Lib.hid hE
 have q1:=h.tree
 go_enter Tryz.func15,Tryz.ntmps15
 go_wp2_with fail
 go_step3
 go_wp2_with fail
 refine q1.mono ?_
 rintro e w1 ⟨g1,c1,rfl,_,_,hb1⟩
 have h1:=h.below hb1
 obtain ⟨z,q2⟩:=h1.at
 clear q1
 go_wp2_with fail
 refine q2.mono ?_
 rintro e w2 ⟨rfl,hb2⟩
 have bw2:=hb1.trans (hb2.mono hb1.size)
 have h2:=h.below bw2
 have q3:=h2.tree
 clear q2 h1 hb1 hb2
 go_wp2_with fail
 refine q3.mono ?_
 rintro e w3 ⟨g3,c3,rfl,_,ht3,hb3⟩
 have bw3:=bw2.trans (hb3.mono bw2.size)
 have q4:=print_any (cap:=c3) ht3 hc hI hT.pr (hp.same (bw3.block _ hp.lt))
 have q5:=fun W (hb:Below w.heap.size w W)=>parse_any (T:=T) (w:=W) hT.nd hT.range (by have:=hT.small;omega) (hp.same (hb.block _ hp.lt))
 replace q5:=Lib.hid q5
 clear q3 h2 ht3
 go_wp2_with fail
 refine q4.mono ?_
 rintro e w4 ⟨rfl,hb4⟩
 have bw4:=bw3.trans (hb4.mono bw3.size)
 have q5':=q5.out w4 bw4
 clear q4
 go_wp2_with fail
 refine q5'.mono ?_
 rintro e w5 ⟨g5,c5,rfl,_,ht5,hb5⟩
 have bw5:=bw4.trans (hb5.mono bw4.size)
 have q6:=(h.below bw5).copy (cap:=c5) hI hT (hz.same (bw5.block _ hz.lt')) (hp.same (bw5.block _ hp.lt)) ht5
 rw [←hn.out] at q6 ⊢
 clear q5 q5' ht5
 go_wp2_with fail
 refine q6.mono ?_
 rintro e w6 ⟨sb6,r6,rfl,h6,hb6⟩
 have bw6:=bw5.trans (hb6.mono bw5.size)
 have q7:=newState_any h6 hT
 clear q6
 go_wp2_with fail
 refine q7.mono ?_
 rintro e w7 ⟨rfl,hb7⟩
 have bw7:=bw6.trans (hb7.mono bw6.size)
 have h7:=h6.below hb7
 obtain ⟨x,hx⟩:∃ x,w7.heap.size = x:=⟨_,rfl⟩
 obtain ⟨sz7,hsz7⟩:∃ sz7,sz7 = L.sizeTr T l (L.tabO l φ):=⟨_,rfl⟩
 obtain ⟨w8,hw8⟩:∃ w8,w8 = w7.alloc (.cells #[.pointer (some ⟨sb6,0,none⟩),.int .i64 (r6:Nat),.int .i64 (sz7:Nat)] 90):=⟨_,rfl⟩
 have hb8:Below w7.heap.size w7 w8:=by rw [hw8];exact (Below.refl _ _).alloc (Nat.le_refl _) _
 have hx8:w8.heap[x]? = some (.cells #[.pointer (some ⟨sb6,0,none⟩),.int .i64 (r6:Nat),.int .i64 (sz7:Nat)] 90 (0,0)):=by rw [hw8,←hx];exact heap_alloc_new _ _
 have hS0:Hid (SeI w φ l x (T,[]) (.slice none 0 0) w8):=Lib.hid ⟨bw7.trans (hb8.mono bw7.size),⟨sb6,r6,h7.below hb8,by rw [←hsz7];exact hx8⟩,hT,World.ownsRow_nil _ _ _ _⟩
 have hwx:Hid (w.heap.size≤x):=Lib.hid (by rw [←hx];exact bw7.size)
 rw [←hsz7]
 clear q7 hx8 hb8 h7 h6 hb7 hb6 hb5 hb4 hb3 bw2 bw3 bw4 bw5 bw6 bw7
 replace h:=Lib.hid h
 replace hsz7:=Lib.hid hsz7
 go_wp2_with fail
 go_step3
 go_wp2_with fail
 try simp only [hx]
 rw [←hw8]
 replace hx:=Lib.hid hx
 replace hw8:=Lib.hid hw8
 go_loopw [20,75] (fun mv iv wr=>∃ (j:Nat) (s:L.Tr × List (Nat × Nat)) (ba:Option Addr) (m cp:Nat),j≤k∧iv = .int .i64 (j:Nat)∧mv = .slice ba m cp∧Hid (m = s.2.length)∧m≤7 * j∧Hid (L.searchT l (L.tabO l φ) n (k - j) s = E)∧Hid (SeI w φ l x s mv wr)) (fun _ iv _=>k - (intOf iv).toNat)
 case atStart=>exact ⟨0,(T,[]),none,0,0,by omega,rfl,rfl,Lib.hid rfl,by omega,Lib.hid (by rw [hE.out,Nat.sub_zero]),hS0⟩
 case round =>
  clear hS0
  obtain ⟨j,s,ba,m,cp,hj,rfl,rfl,hm,hsl,hrem,hS⟩:=hrel
  by_cases hlt:j < k
  ·have dlt:decide ((j:Int) < (k:Int)) = true:=decide_eq_true (by omega)
   have h0:Hid (SeI w φ l x s (.slice ba m cp) wr):=hS
   clear hS
   go_wp2_with fail
   go_loopw [20,81] (fun mv iv wr=>∃ (i:Nat) (s':L.Tr × List (Nat × Nat)) (ba':Option Addr) (m' cp':Nat),i≤n∧iv = .int .i64 (i:Nat)∧mv = .slice ba' m' cp'∧Hid (m' = s'.2.length)∧m'≤7 * j+i∧Hid (s' = (List.range i).foldl (L.stepT l (L.tabO l φ)) s)∧Hid (SeI w φ l x s' mv wr)) (fun _ iv _=>n - (intOf iv).toNat)
   case atStart=>exact ⟨0,s,ba,m,cp,by omega,rfl,rfl,hm,by omega,Lib.hid rfl,h0⟩
   case round =>
    clear h0
    obtain ⟨i,s',ba',m',cp',hi,rfl,rfl,hm',hsl',hfold,hS⟩:=hrel
    by_cases hli:i < n
    ·have dli:decide ((i:Int) < (n:Int)) = true:=decide_eq_true (by omega)
     obtain ⟨sb1,r1,hst,hbx⟩:=hS.out.st
     have bel:=hS.out.bel
     have qb:=better_any (i:=i) hst hS.out.ok (hz.same (bel.block _ hz.lt')) (hp.same (bel.block _ hp.lt)) (by omega)
     have hbok:=L.bestT_ok l (L.tabO l φ) s'.1 i
     have hstep:L.stepT l (L.tabO l φ) s' i = if 0 < (L.bestT l (L.tabO l φ) s'.1 i).2.2 then ((L.bestT l (L.tabO l φ) s'.1 i).1,s'.2++[(i,(L.bestT l (L.tabO l φ) s'.1 i).2.2)]) else s':=rfl
     have hbT:TrOK (L.bestT l (L.tabO l φ) s'.1 i).1 l:=by
      by_cases h0:0 < (L.bestT l (L.tabO l φ) s'.1 i).2.2
      ·obtain ⟨_,g2,_⟩:=hbok.some h0
       obtain ⟨p1,p2⟩:=L.mvT_perm _ _ _ g2
       exact hS.out.ok.perm p1 p2
      ·rw [(hbok.none (by omega)).1];exact hS.out.ok
     obtain ⟨⟨U,sU,kd⟩,hb⟩:∃ b,b = L.bestT l (L.tabO l φ) s'.1 i:=⟨_,rfl⟩
     rw [←hb] at qb hbok hstep hbT
     have hsU:sU = L.sizeTr U l (L.tabO l φ):=hbok.sz
     have hkd:kd≤3:=by
      by_cases h0:0 < kd
      ·exact (hbok.some h0).1
      ·omega
     simp only at qb hstep hbT
     obtain ⟨sz1,hsz1⟩:∃ sz1,sz1 = L.sizeTr s'.1 l (L.tabO l φ):=⟨_,rfl⟩
     unfold stC at qb hbx
     rw [←hsz1] at qb hbx
     obtain ⟨c0,c1,c2⟩:=box3 hbx
     replace hsU:=Lib.hid hsU
     replace hsz1:=Lib.hid hsz1
     replace hb:=Lib.hid hb
     replace hstep:=Lib.hid hstep
     replace hbT:=Lib.hid hbT
     clear hst hbok bel hbx
     go_wp2_with fail
     refine qb.mono ?_
     rintro e w2 ⟨sbN,rN,rfl,hStN,hbN⟩
     have hS2:=hS.out.below hbN
     obtain ⟨yb,hyb⟩:∃ yb,w2.heap.size = yb:=⟨_,rfl⟩
     obtain ⟨w3,hw3⟩:∃ w3,w3 = w2.alloc (.cells #[.pointer (some ⟨sbN,0,none⟩),.int .i64 (rN:Nat),.int .i64 (sU:Nat)] 90):=⟨_,rfl⟩
     have hb3:Below w2.heap.size w2 w3:=by rw [hw3];exact (Below.refl _ _).alloc (Nat.le_refl _) _
     have hS3:=Lib.hid (hS2.below hb3)
     clear qb hS c0 c1 c2
     by_cases hk0:0 < kd
     ·have dk:decide ((kd:Int) > 0) = true:=decide_eq_true (by omega)
      have dk':decide ((0:Int) < (kd:Int)) = true:=decide_eq_true (by omega)
      have hy3:w3.heap[yb]? = some (.cells #[.pointer (some ⟨sbN,0,none⟩),.int .i64 (rN:Nat),.int .i64 (sU:Nat)] 90 (0,0)):=by rw [hw3,←hyb];exact heap_alloc_new _ _
      obtain ⟨y0,y1,y2⟩:=box3 hy3
      obtain ⟨sb4,r4,_,hbx4⟩:=hS2.st
      obtain ⟨sz4,hsz4⟩:∃ sz4,sz4 = L.sizeTr s'.1 l (L.tabO l φ):=⟨_,rfl⟩
      unfold stC at hbx4
      rw [←hsz4] at hbx4
      obtain ⟨z0,z1,z2⟩:=box3 hbx4
      have f0:w2.frozen? ⟨x,0,none⟩ = false:=by simp [World.frozen?,hbx4]
      have f1:w2.frozen? ⟨x,1,none⟩ = false:=by simp [World.frozen?,hbx4]
      have f2:w2.frozen? ⟨x,2,none⟩ = false:=by simp [World.frozen?,hbx4]
      have hxy:x < yb:=by rw [←hyb];exact (Array.getElem?_eq_some_iff.1 hbx4).1
      rw [hw3] at y0 y1 y2
      replace hbx4:=Lib.hid hbx4
      replace hy3:=Lib.hid hy3
      clear hb3 hsz4
      obtain ⟨iv,hiv,hzv,hsv,hbv⟩:=info_parts mv_info
      have hSs:SeI w φ l x (U,s'.2) (.slice ba' m' cp') (((w2.setCell ⟨x,0,none⟩ (.pointer (some ⟨sbN,0,none⟩))).setCell ⟨x,1,none⟩ (.int .i64 (rN:Nat))).setCell ⟨x,2,none⟩ (.int .i64 (sU:Nat))):=by
       have:=hS2.store hbT.out hStN hwx.out hgl.out
       rw [←hsU.out] at this
       exact this
      have hsz3:(((w2.setCell ⟨x,0,none⟩ (.pointer (some ⟨sbN,0,none⟩))).setCell ⟨x,1,none⟩ (.int .i64 (rN:Nat))).setCell ⟨x,2,none⟩ (.int .i64 (sU:Nat))).heap.size = yb:=by simp [hyb]
      have hS5:SeI w φ l x (U,s'.2) (.slice ba' m' cp') (((((w2.setCell ⟨x,0,none⟩ (.pointer (some ⟨sbN,0,none⟩))).setCell ⟨x,1,none⟩ (.int .i64 (rN:Nat))).setCell ⟨x,2,none⟩ (.int .i64 (sU:Nat))).alloc (.cells #[.pointer (some ⟨sbN,0,none⟩),.int .i64 (rN:Nat),.int .i64 (sU:Nat)] 90)).alloc (.cells #[.int .i64 (i:Nat),.int .i64 (kd:Nat)] 45)):=hSs.below (((Below.refl _ _).alloc (Nat.le_refl _) _).alloc (by simp) _)
      have hro:=own_cast hS5.row (show _ = m' from hm'.out.symm) rfl
      have hnews:=World.news_of_block (cs:=#[.int .i64 (i:Nat),.int .i64 (kd:Nat)]) (t:=45) (fr:=(0,0)) (w:=((((w2.setCell ⟨x,0,none⟩ (.pointer (some ⟨sbN,0,none⟩))).setCell ⟨x,1,none⟩ (.int .i64 (rN:Nat))).setCell ⟨x,2,none⟩ (.int .i64 (sU:Nat))).alloc (.cells #[.pointer (some ⟨sbN,0,none⟩),.int .i64 (rN:Nat),.int .i64 (sU:Nat)] 90)).alloc (.cells #[.int .i64 (i:Nat),.int .i64 (kd:Nat)] 45)) (B:=yb+1) (by
       have:=heap_alloc_new ((((w2.setCell ⟨x,0,none⟩ (.pointer (some ⟨sbN,0,none⟩))).setCell ⟨x,1,none⟩ (.int .i64 (rN:Nat))).setCell ⟨x,2,none⟩ (.int .i64 (sU:Nat))).alloc (.cells #[.pointer (some ⟨sbN,0,none⟩),.int .i64 (rN:Nat),.int .i64 (sU:Nat)] 90)) (.cells #[.int .i64 (i:Nat),.int .i64 (kd:Nat)] 45)
       have e:((((w2.setCell ⟨x,0,none⟩ (.pointer (some ⟨sbN,0,none⟩))).setCell ⟨x,1,none⟩ (.int .i64 (rN:Nat))).setCell ⟨x,2,none⟩ (.int .i64 (sU:Nat))).alloc (.cells #[.pointer (some ⟨sbN,0,none⟩),.int .i64 (rN:Nat),.int .i64 (sU:Nat)] 90)).heap.size = yb+1:=by simp [hyb]
       rw [e] at this
       exact this)
      have hone:∀ u∈[Value.int .i64 (i:Nat),.int .i64 (kd:Nat)],u.oneCell' = true:=by simp [Value.oneCell']
      have hNs:w.heap.size≤(((((w2.setCell ⟨x,0,none⟩ (.pointer (some ⟨sbN,0,none⟩))).setCell ⟨x,1,none⟩ (.int .i64 (rN:Nat))).setCell ⟨x,2,none⟩ (.int .i64 (sU:Nat))).alloc (.cells #[.pointer (some ⟨sbN,0,none⟩),.int .i64 (rN:Nat),.int .i64 (sU:Nat)] 90)).alloc (.cells #[.int .i64 (i:Nat),.int .i64 (kd:Nat)] 45)).heap.size:=hS5.bel.size
      replace hS5:=Lib.hid hS5
      clear hS2 hSs hsz3
      go_wp2_with (at_builtin;go_loud (refine wpList_append_own _ rfl _ _ 34 rfl w.heap.size 45 iv (.agg #[.int .i64 0,.int .i64 0]) 2 16 Tryz.underlying34 hiv hzv hsv hbv rfl (by decide) _ _ _ rfl hro ⟨yb+1,0,none⟩ 1 1 [.int .i64 (i:Nat),.int .i64 (kd:Nat)] rfl rfl hnews hone (by unfold maxLen;omega) (by omega) hNs ?_);intro v8 w9 ho8 hg8 _;have hS9:=hS5.out.push (m:=(i,kd)) hg8 (own_cast ho8 (by rw [hm'.out]) rfl) hgl.out;obtain ⟨ba8,cp8,rfl⟩:=row_slice ho8;replace hS9:=Lib.hid hS9;clear hg8 ho8 hro hnews hNs)
      exact ⟨⟨i+1,(U,s'.2++[(i,kd)]),ba8,m'+1,cp8,by omega,rfl,rfl,Lib.hid (by rw [hm'.out];simp),by omega,Lib.hid (by rw [List.range_succ,List.foldl_append,←hfold.out,List.foldl_cons,List.foldl_nil,hstep.out,if_pos hk0]),hS9⟩,by simp [intOf];omega⟩
     ·have dk:decide ((kd:Int) > 0) = false:=decide_eq_false (by omega)
      have dk':decide ((0:Int) < (kd:Int)) = false:=decide_eq_false (by omega)
      clear hb3 hS2
      go_wp2_with fail
      try simp only [hyb]
      try rw [←hw3]
      go_roundw
      case rel=>exact ⟨i+1,s',ba',m',cp',by omega,by go_num,rfl,hm',by omega,Lib.hid (by rw [List.range_succ,List.foldl_append,←hfold.out,List.foldl_cons,List.foldl_nil,hstep.out,if_neg hk0]),hS3⟩
      case measure=>simp [intOf];omega
    ·have dli:decide ((i:Int) < (n:Int)) = false:=decide_eq_false (by omega)
     obtain rfl:i = n:=by omega
     have hpass:s' = L.passT l (L.tabO l φ) i s:=hfold.out
     have hkj:k - j = (k - (j+1))+1:=by omega
     have hone:=hrem.out
     rw [hkj] at hone
     unfold L.searchT at hone
     simp only [←hpass] at hone
     replace hpass:=Lib.hid hpass
     by_cases hmm:m' = m
     ·have dmm:((m':Int) == (m:Int)) = true:=by rw [beq_iff_eq];omega
      have hsE:Hid (s' = E):=Lib.hid (by rw [if_pos (by have a:=hm'.out;have b:=hm.out;omega)] at hone;exact hone)
      clear hone
      subst hmm
      obtain ⟨sbE,rE,hst,hbx⟩:=hS.out.st
      obtain ⟨szE,hszE⟩:∃ szE,szE = L.sizeTr s'.1 l (L.tabO l φ):=⟨_,rfl⟩
      unfold stC at hbx
      rw [←hszE] at hbx
      obtain ⟨c0,c1,c2⟩:=box3 hbx
      have F1:=Lib.hid fun (W:World) (hW:Ext wr W)=>And.intro (hW.cell c0) (hW.cell c1)
      replace hst:=Lib.hid hst
      clear hbx c0 c1 c2 hszE
      go_wp2_with fail
      (refine wp_region_below (by kernel_rfl) (by kernel_rfl) ?_
       repeat (refine wpQuiet_step (fun K hK=>?_)
               go_simp
               first
                | (refine hK _ ?_;clear hK K)
                | (replace hK:=Lib.hid hK
                   apply Exists.intro
                   refine ⟨fun wq hq=>?_,hK.out _ ?_⟩
                   ·(obtain ⟨f1,f2⟩:=F1.out wq hq)
                    go_simp
                    first
                     | done
                     | rfl
                     | exact ⟨rfl,rfl⟩
                     | done
                   clear hK K))
       refine wpQuiet_nil ?_)
      intro w5 hw5
      have hfin:StAt E.1 φ sbE rE w5∧TrOK E.1 l∧w5.ownsRow w.heap.size 45 2 (.slice ba' m' cp') E.2.length (movesV E.2)∧Below w.heap.size w w5:=by
       have hS5:=hS.out.below hw5.below
       rw [←hsE.out]
       exact ⟨hst.out.below hw5.below,hS5.ok,hS5.row,hS5.bel⟩
      replace hfin:=Lib.hid hfin
      clear F1 hS
      go_wp2_with fail
      try rw [Exit.noGoto_ret]
      refine bodyPost_ret (v:=.tuple #[.pointer (some ⟨sbE,0,none⟩),.int .i64 (rE:Nat),.slice ba' m' cp',.int .i64 0]) (by simp [results,Tryz.results15,go_sem]) rfl ⟨sbE,rE,_,rfl,hfin.out⟩
     ·have dmm:((m':Int) == (m:Int)) = false:=by rw [beq_eq_false_iff_ne];omega
      have hrem':Hid (L.searchT l (L.tabO l φ) i (k - (j+1)) s' = E):=Lib.hid (by rw [if_neg (by have a:=hm'.out;have b:=hm.out;omega)] at hone;exact hone)
      clear hone
      go_wp2_with fail
      exact ⟨⟨j+1,s',ba',m',cp',by omega,rfl,rfl,hm',by omega,hrem',hS⟩,by simp [intOf];omega⟩
  ·have dlt:decide ((j:Int) < (k:Int)) = false:=decide_eq_false (by omega)
   have hsE:Hid (s = E):=Lib.hid (by
    have:=hrem.out
    rw [show k - j = 0 by omega] at this
    exact this)
   obtain ⟨sbE,rE,hst,hbx⟩:=hS.out.st
   obtain ⟨szE,hszE⟩:∃ szE,szE = L.sizeTr s.1 l (L.tabO l φ):=⟨_,rfl⟩
   unfold stC at hbx
   rw [←hszE] at hbx
   obtain ⟨c0,c1,c2⟩:=box3 hbx
   have F1:=Lib.hid fun (W:World) (hW:Ext wr W)=>And.intro (hW.cell c0) (hW.cell c1)
   replace hst:=Lib.hid hst
   clear hbx c0 c1 c2 hszE
   go_wp2_with fail
   (refine wp_region_below (by kernel_rfl) (by kernel_rfl) ?_
    repeat (refine wpQuiet_step (fun K hK=>?_)
            go_simp
            first
             | (refine hK _ ?_;clear hK K)
             | (replace hK:=Lib.hid hK
                apply Exists.intro
                refine ⟨fun wq hq=>?_,hK.out _ ?_⟩
                ·(obtain ⟨f1,f2⟩:=F1.out wq hq)
                 go_simp
                 first
                  | done
                  | rfl
                  | exact ⟨rfl,rfl⟩
                  | done
                clear hK K))
    refine wpQuiet_nil ?_)
   intro w5 hw5
   have hfin:StAt E.1 φ sbE rE w5∧TrOK E.1 l∧w5.ownsRow w.heap.size 45 2 (.slice ba m cp) E.2.length (movesV E.2)∧Below w.heap.size w w5:=by
    have hS5:=hS.out.below hw5.below
    rw [←hsE.out]
    exact ⟨hst.out.below hw5.below,hS5.ok,hS5.row,hS5.bel⟩
   replace hfin:=Lib.hid hfin
   clear F1 hS
   go_wp2_with fail
   try rw [Exit.noGoto_ret]
   refine bodyPost_ret (v:=.tuple #[.pointer (some ⟨sbE,0,none⟩),.int .i64 (rE:Nat),.slice ba m cp,.int .i64 0]) (by simp [results,Tryz.results15,go_sem]) rfl ⟨sbE,rE,_,rfl,hfin.out⟩
end Go.Proofs.YtemnmcfmabamcaaGreatDoor
