import Derived.Test.YtmnjakejhbpkoaaGreatDoorWT27k
import Derived.Test.YtmnjakejhbpkoaaGreatDoorWT27l
import Derived.Test.YtmnjakejhbpkoaaGreatDoorWJoin
import Derived.Test.YtmnjakejhbpkoaaGreatDoorWTab2
import Derived.Test.YtmnjakejhbpkoaaGreatDoorWPro27
import Derived.Test.YtmnjakejhbpkoaaGreatDoorWLaw11
import Derived.Test.YtmnjakejhbpkoaaGreatDoorWEv5
import Derived.Deep.CutRange
set_option linter.unusedSimpArgs false
set_option linter.unusedVariables false
namespace Go.Proofs.YtmnjakejhbpkoaaGreatDoor
open Go Go.RowKit Go.Shelf
structure CB (t:List VN) (sb k root fb:Nat) (vl o:Value) (l:List Int) (φ:L.Asg→Bool) (s:St) (w0 W:World):Prop where
 sl:SL t sb k [] s w0 W
 val:Val s root φ
 box:W.heap[fb]? = some (.cells #[vl,o] 48)
 fn:FnAt W (.agg #[vl,o]) l φ
 row:∃ base,W.ownsRow base 3 1 vl l.length (l.map encZ)
section
variable {t:List VN} {sb k k' root fb:Nat} {vl o:Value} {l:List Int} {φ:L.Asg→Bool} {s s':St} {w0 W W':World}
theorem CB.stays (h:CB t sb k root fb vl o l φ s w0 W) (hs:SL t sb k' [] s' w0 W') (hv:Val s' root φ) (hS:Stays W W'):CB t sb k' root fb vl o l φ s' w0 W' :=
 ⟨hs,hv,hS.get h.box (by decide) (by decide),(by obtain ⟨_,hr⟩:=h.row;exact h.fn.stays rfl hr hS),(by obtain ⟨_,hr⟩:=h.row;exact ⟨_,own_stays hr hS⟩)⟩
theorem CB.below (h:CB t sb k root fb vl o l φ s w0 W) (hb:Below W.heap.size W W'):CB t sb k root fb vl o l φ s w0 W':=h.stays (h.sl.below hb) h.val (Stays.of_below hb)
theorem CB.cells (h:CB t sb k root fb vl o l φ s w0 W):W.cell? ⟨fb,0,none⟩ = some vl∧W.cell? ⟨fb,1,none⟩ = some o:=by
 refine ⟨?_,?_⟩
 ·rw [World.cell?,h.box];rfl
 ·rw [World.cell?,h.box];rfl
theorem CB.made {w4:World} {n1 n2:Value} (hS:SL t sb k [] s w0 w4) (hv:Val s root φ) (hb:Below w4.heap.size w4 W) (hf:w4.heap.size≤fb) (hbox:W.heap[fb]? = some (.cells #[n1,n2] 48)) (hfn:FnAt W (.agg #[vl,o]) l φ) (hrow:∃ base,W.ownsRow base 3 1 vl l.length (l.map encZ)) :
  CB t sb k root fb vl o l φ s w0 ((W.setCell ⟨fb,0,none⟩ vl).setCell ⟨fb,1,none⟩ o)∧Below w4.heap.size w4 ((W.setCell ⟨fb,0,none⟩ vl).setCell ⟨fb,1,none⟩ o):=by
 have hb':Below w4.heap.size w4 ((W.setCell ⟨fb,0,none⟩ vl).setCell ⟨fb,1,none⟩ o):=(hb.setCell hf _).setCell hf _
 have hne:∀ (g:Nat) (c:Array Value) (ty:TypeId),W.heap[g]? = some (.cells c ty (0,0))→ty≠48→((W.setCell ⟨fb,0,none⟩ vl).setCell ⟨fb,1,none⟩ o).heap[g]? = W.heap[g]?:=fun g c ty h1 h2=>by
  have hgf:g≠fb:=by
   intro e
   rw [e,hbox] at h1
   simp only [Option.some.injEq,Obj.cells.injEq] at h1
   exact h2 h1.2.1.symm
  exact (Below.heap_setCell _ _ _ _ hgf).trans (Below.heap_setCell _ _ _ _ hgf)
 have hrow':∃ base,((W.setCell ⟨fb,0,none⟩ vl).setCell ⟨fb,1,none⟩ o).ownsRow base 3 1 vl l.length (l.map encZ):=by
  obtain ⟨base,a,h | ⟨g,cap,cur,rfl,hgb,hgh,hr⟩⟩:=hrow
  ·exact ⟨base,a,.inl h⟩
  ·exact ⟨base,a,.inr ⟨g,cap,cur,rfl,hgb,(hne _ _ _ hgh (by decide)).trans hgh,hr⟩⟩
 refine ⟨⟨hS.below hb',hv,heap_set (heap_set hbox 0 vl) 1 o,?_,hrow'⟩,hb'⟩
 obtain ⟨_,hr⟩:=hrow'
 obtain ⟨vl',g,c,h1,_,h3⟩:=hfn
 simp only [Value.agg.injEq,Array.mk.injEq,List.cons.injEq,and_true] at h1
 obtain ⟨rfl,rfl⟩:=h1
 obtain ⟨cc,h4,h5⟩:=h3
 exact ⟨_,g,c,rfl,owns_slI hr,⟨cc,(hne _ _ _ h4 (by decide)).trans h4,h5⟩⟩
end
set_option maxRecDepth 100000 in
set_option maxHeartbeats 40000000 in
theorem compiles_any {n:Int} {T:List (List Int)} {u:Value} {t:List VN} (w:World) (ba:Option Addr) (cap:Nat) (hT:TzTab w) (hP:PowTab w) (hv:SlT w u T∧T.length≤9223372036854775807∧(-9223372036854775808≤n∧n≤9223372036854775807)) (ht:t = []∨∃ b o,ba = some ⟨b,o,none⟩∧TreeAt w b o t) (htl:t.length≤5864062014805) :
  Calls Tryz.prog 3 #[.agg #[.int .i64 n,u],.slice ba t.length cap] w fun e w'=>e = .returned (.bool true)∧Below w.heap.size w w':=by
 obtain ⟨hv,hlT,_⟩:=hv
 have e0:=heap_alloc_new w (.cells #[.int .i64 n,u] 24)
 have hx1:Ext w (w.alloc (.cells #[.int .i64 n,u] 24)):=(Ext.refl w).alloc _
 have hw:∀ W,Below w.heap.size w W→Calls Tryz.prog 16 #[] W fun e w''=>e = .returned (.bool true)∧Below W.heap.size W w'':=fun W hx=>works27_any W (hT.same (hx.block _ hT.lt')) (hP.same (hx.block _ hP.lt))
 obtain ⟨w1,hw1⟩:∃ w1,w1 = w.alloc (.cells #[.int .i64 n,u] 24):=⟨_,rfl⟩
 rw [←hw1] at e0 hx1
 have c0:w1.cell? ⟨w.heap.size,0,none⟩ = some (.int .i64 n):=by rw [World.cell?,e0];rfl
 have c1:w1.cell? ⟨w.heap.size,1,none⟩ = some u:=by rw [World.cell?,e0];rfl
 have ql:=light27_any (n:=n) (hv.ext hx1.below) hlT
 have hvh:=Lib.hid hv
 obtain ⟨bb,cp,rfl,_⟩:=hv
 replace e0:=Lib.hid e0
 replace hw:=Lib.hid hw
 replace hx1:=Lib.hid hx1
 cases hL:light27B n T
 ·rw [hL] at ql
  go_enter Tryz.func3,Tryz.ntmps3
  go_wp2_with fail
  rw [←hw1]
  replace hw1:=Lib.hid hw1
  go_wp2_with fail
  refine ql.mono ?_
  rintro e w2 ⟨rfl,hx2⟩
  have hx:=hx1.out.trans hx2
  have q:=hw.out w2 hx.below
  clear ql
  go_wp2_with fail
  refine q.mono ?_
  rintro e w3 ⟨rfl,hb3⟩
  go_wp2_with fail
  go_ret
  exact ⟨rfl,hx.below.trans (hb3.mono hx.size)⟩
 ·rw [hL] at ql
  have qf:∀ W,Ext w1 W→Calls Tryz.prog 15 #[.slice ba t.length cap] W fun e w'=>e = .returned (.bool (few27B t))∧Ext W w':=fun W hx=>few27_any W ba cap (refchk_any W ba cap (ht.imp id fun ⟨b,o,e,h⟩=>⟨b,o,e,(h.ext hx1.out).ext hx⟩) htl)
  cases hF:few27B t
  ·rw [hF] at qf
   replace qf:=Lib.hid qf
   go_enter Tryz.func3,Tryz.ntmps3
   go_wp2_with fail
   rw [←hw1]
   replace hw1:=Lib.hid hw1
   go_wp2_with fail
   refine ql.mono ?_
   rintro e w2 ⟨rfl,hx2⟩
   have q:=qf.out w2 hx2
   clear ql
   go_wp2_with fail
   refine q.mono ?_
   rintro e w3 ⟨rfl,hx3⟩
   have hx:=(hx1.out.trans hx2).trans hx3
   have qw:=hw.out w3 hx.below
   clear q
   go_wp2_with fail
   refine qw.mono ?_
   rintro e w4 ⟨rfl,hb4⟩
   go_wp2_with fail
   go_ret
   exact ⟨rfl,hx.below.trans (hb4.mono hx.size)⟩
  ·rw [hF] at qf
   replace qf:=Lib.hid qf
   obtain ⟨hT60,hc140⟩:=light_sizes hL
   have h300:=few_300 hF
   have hvl:SlT w1 (.slice bb T.length cp) T:=hvh.out.ext hx1.out.below
   have ht1:t = []∨∃ b o,ba = some ⟨b,o,none⟩∧TreeAt w1 b o t:=ht.imp id fun ⟨b,o,e,h⟩=>⟨b,o,e,h.ext hx1.out⟩
   have qcp:=fun (W:World) (h:Ext w1 W)=>copy5_any (n:=n) (hvl.ext h.below) hT60 hc140
   have qcd:=fun (W:World) (h:Below w1.heap.size w1 W)=>copied_all (t:=t) W ba cap (ht1.imp id fun ⟨b,o,e,h'⟩=>⟨b,o,e,h'.below h⟩) h300
   replace qcp:=Lib.hid qcp
   replace qcd:=Lib.hid qcd
   replace hc140:=Lib.hid hc140
   replace ht1:=Lib.hid ht1
   go_enter Tryz.func3,Tryz.ntmps3
   go_wp2_with fail
   rw [←hw1]
   replace hw1:=Lib.hid hw1
   go_wp2_with fail
   refine ql.mono ?_
   rintro e w2 ⟨rfl,hx2⟩
   have q:=qf.out w2 hx2
   have a0:=hx2.cell c0
   have a1:=hx2.cell c1
   clear ql c0 c1
   go_wp2_with fail
   refine q.mono ?_
   rintro e w3 ⟨rfl,hx3⟩
   have hx:=(hx1.out.trans hx2).trans hx3
   have hx13:=hx2.trans hx3
   have b0:=hx3.cell a0
   have b1:=hx3.cell a1
   clear q a0 a1 hx2 hx3
   replace hx:=Lib.hid hx
   go_wp2_with fail
   refine (qcp.out w3 hx13).mono ?_
   rintro e w4 ⟨vL,us,rfl,ho4,hR4,hb4⟩
   go_wp2_with fail
   have hbs:=hb4.size
   refine (qcd.out w4 (hx13.below.trans (hb4.mono hx13.size))).mono ?_
   rintro e w5 ⟨tb,tc,rfl,ht5,hb5⟩
   have ho5:=ownsRow_keep ho4 (fun g c h=>hb5.block g (Array.getElem?_eq_some_iff.1 h).1)
   have hR5:=hR4.keep (fun g c h=>hb5.block g (Array.getElem?_eq_some_iff.1 h).1)
   have hv5:=RowsOf.slT ho5 hR5
   obtain ⟨lb,lc,rfl⟩:∃ b c,vL = .slice b T.length c:=by obtain ⟨b,c,h,_⟩:=hv5;exact ⟨b,c,h⟩
   clear ho4 hR4 ho5 hR5
   go_wp2_with fail
   have hB5:Below w3.heap.size w3 w5:=hb4.trans (hb5.mono hbs)
   have hbx:Below w5.heap.size w5 (w5.alloc (.cells #[.int .i64 n,.slice lb T.length lc] 24)):=(Below.refl _ _).alloc (Nat.le_refl _) _
   have nB:=heap_alloc_new w5 (.cells #[.int .i64 n,.slice lb T.length lc] 24)
   have hB6:=hB5.trans (hbx.mono hB5.size)
   have hv6:=hv5.ext hbx
   have ht6:=ht5.below hbx
   obtain ⟨w6,hw6⟩:∃ W,W = w5.alloc (.cells #[.int .i64 n,.slice lb T.length lc] 24):=⟨_,rfl⟩
   rw [←hw6] at hbx nB hB6 hv6 ht6 ⊢
   replace hw6:=Lib.hid hw6
   have hbe6:Below w.heap.size w w6:=hx.out.below.trans (hB6.mono hx.out.size)
   clear hv5 ht5 hbx hB5 hb5 hb4 hbs
   by_cases hE:compE n T t = 0
   ·obtain ⟨hok,hc,hsub⟩:=compE_ok hE
    obtain ⟨b,o,hba,htr⟩:∃ b o,ba = some ⟨b,o,none⟩∧TreeAt w1 b o t:=by
     obtain ⟨b,o,e,h⟩:=tree_some hc ht1.out
     exact ⟨b,o,e,h⟩
    have hfew:=few_len hF hc
    have h30:=light_few hL hok
    have hl6:=L.nv_le hc (v:=t.length - 1) (by have:=(check_ok hc).1;omega)
    obtain ⟨m,rfl⟩:∃ m:Nat,n = m:=⟨n.toNat,by have:=(L.thChk_ok.1 hok).1;omega⟩
    have qc:=compile_ok (n:=m) hv6 tb 0 tc hok h30 ht6 hc hfew hsub (hT.same (hbe6.block _ hT.lt')) (hP.same (hbe6.block _ hP.lt))
    have hTl:=hT
    have hPl:=hP
    replace hok:=Lib.hid hok
    replace hc:=Lib.hid hc
    replace hE:=Lib.hid hE
    replace hsub:=Lib.hid hsub
    replace htr:=Lib.hid htr
    have hFh:=Lib.hid hF
    clear hL hF
    replace hTl:=Lib.hid hTl
    replace hPl:=Lib.hid hPl
    replace hba:=Lib.hid hba
    go_wp2_with fail
    refine qc.mono ?_
    rintro e w7 ⟨sb,root,s4,rfl,hS7,hv7,hb7⟩
    have hS7:=hS7.base hbe6
    replace hS7:=Lib.hid hS7
    replace hv7:=Lib.hid hv7
    clear qc
    have qfl:=full_gen 0 ba t.length cap w7
    rw [show (decide ((0:Int) = 7) && decide (7 < t.length)) = false by rfl] at qfl
    go_wp2_with fail
    refine qfl.mono ?_
    rintro e w8 ⟨rfl,rfl⟩
    clear qfl
    have hx17:Below w1.heap.size w1 w7:=hx13.below.trans ((hB6.trans (hb7.mono hB6.size)).mono hx13.size)
    have hcc:∀ V,Below w7.heap.size w7 V→V.cell? ⟨w.heap.size,0,none⟩ = some (.int .i64 (m:Nat))∧V.cell? ⟨w.heap.size,1,none⟩ = some (.slice bb T.length cp):=fun V h=>by
     have f0:=((hx17.trans (h.mono hx17.size)).block _ (Array.getElem?_eq_some_iff.1 e0.out).1).trans e0.out
     exact ⟨by rw [World.cell?,f0];rfl,by rw [World.cell?,f0];rfl⟩
    have hci:∀ V,Below w7.heap.size w7 V→V.cell? ⟨w5.heap.size,0,none⟩ = some (.int .i64 (m:Nat))∧V.cell? ⟨w5.heap.size,1,none⟩ = some (.slice lb T.length lc):=fun V h=>by
     have f0:=((hb7.trans (h.mono hb7.size)).block _ (Array.getElem?_eq_some_iff.1 nB).1).trans nB
     exact ⟨by rw [World.cell?,f0];rfl,by rw [World.cell?,f0];rfl⟩
    replace hcc:=Lib.hid hcc
    replace hci:=Lib.hid hci
    have hvl7:=hvl.ext hx17
    have hvc7:=hv6.ext hb7
    have ht7:t = []∨∃ b o,ba = some ⟨b,o,none⟩∧TreeAt w7 b o t:=ht1.out.imp id fun ⟨b,o,e,h⟩=>⟨b,o,e,h.below hx17⟩
    have htc7:=ht6.below hb7
    have hd7:=Lib.hid ((Below.refl w7.heap.size w7).drew)
    have q5:=fun (W:World) (h:Below w7.heap.size w7 W)=>refSame5_any (n:=(m:Nat)) (hvc7.ext h) (hvl7.ext h) (Nat.le_trans hT60 (by decide)) (fun c hc=>Nat.le_trans (hc140.out c hc) (by decide))
    have q25:=fun (W:World) (h:Below w7.heap.size w7 W)=>vsame_any (t:=t) (u:=t) W (some ⟨tb,0,none⟩) ba tc cap (Or.inr ⟨tb,0,rfl,htc7.below h⟩) (ht7.imp id fun ⟨b,o,e,h'⟩=>⟨b,o,e,h'.below h⟩) (Nat.le_trans h300 (by decide))
    simp only [decide_true] at q25
    replace q5:=Lib.hid q5
    replace q25:=Lib.hid q25
    go_wp2_with fail
    (refine wp_region_held_drew (S:=(fun V=>V.cell? ⟨w.heap.size,0,none⟩ = some (.int .i64 (m:Nat))∧V.cell? ⟨w.heap.size,1,none⟩ = some (.slice bb T.length cp))) (by kernel_rfl) ?_ (fun hHeld=>?_))
    ·exact hcc.out _ hd7.out
    (refine takeL (i:=0) (v:=?_) rfl (by kernel_rfl) (by kernel_rfl) (by kernel_rfl) (fun _ _ _ h=>h) (Or.inl ⟨by rfl,?_⟩) (by assumption) ?_)
    rotate_left
    ·(intro w hSw;(try dsimp only at hSw);go_simp;first | done | with_reducible rfl)
    (try simp only [Act.put,List.setIfInBounds_toArray,List.set_cons_zero,List.set_cons_succ])
    (refine takeL (i:=2) (v:=?_) rfl (by kernel_rfl) (by kernel_rfl) (by kernel_rfl) (fun _ _ _ h=>h) (Or.inl ⟨by rfl,?_⟩) (by assumption) ?_)
    rotate_left
    ·(intro w hSw;(try dsimp only at hSw);go_simp;first | done | with_reducible rfl)
    (try simp only [Act.put,List.setIfInBounds_toArray,List.set_cons_zero,List.set_cons_succ])
    (refine takeL (i:=4) (v:=?_) rfl (by kernel_rfl) (by kernel_rfl) (by kernel_rfl) (fun _ _ _ h=>h) (Or.inl ⟨by rfl,?_⟩) (by assumption) ?_)
    rotate_left
    ·(intro w hSw;(try dsimp only at hSw);go_simp;first | done | with_reducible rfl)
    (try simp only [Act.put,List.setIfInBounds_toArray,List.set_cons_zero,List.set_cons_succ])
    (refine wpAnyH_ready (rs:=[1]) (by kernel_rfl) (by simp) ?_)
    (refine consL rfl (fun K hK=>?_))
    ((rw [if_pos (by rfl)]);go_simp;refine (rcheck_any (hvl7.ext hd7.out)).mono ?_;rintro e w8 ⟨rfl,hb8⟩;have hd8:=Lib.hid (hd7.out.trans (hb8.below.mono hd7.out.size));refine hK.out _ _ (hcc.out _ hd8.out) (fun hHeld=>?_);clear hb8)
    (clear hK K)
    (try simp only [Act.put,List.setIfInBounds_toArray,List.set_cons_zero,List.set_cons_succ])
    (refine wpAnyH_ready (rs:=[3]) (by kernel_rfl) (by simp) ?_)
    (refine consL rfl (fun K hK=>?_))
    ((rw [if_pos (by rfl)]);go_simp;refine (refVars5_any (n:=(m:Nat)) (hvl7.ext hd8.out)).mono ?_;rintro e w9 ⟨rfl,hb9⟩;have hd9:=Lib.hid (hd8.out.trans (hb9.below.mono hd8.out.size));refine hK.out _ _ (hcc.out _ hd9.out) (fun hHeld=>?_);clear hb9)
    (clear hK K)
    (try simp only [Act.put,List.setIfInBounds_toArray,List.set_cons_zero,List.set_cons_succ])
    (unfold encS)
    (refine wpAnyH_ready (rs:=[5]) (by kernel_rfl) (by simp) ?_)
    (refine consL rfl (fun K hK=>?_))
    ((rw [if_pos (by rfl)]);go_simp;refine (refErr27_any (n:=(m:Nat)) (T:=T) (fun h=>by rw [if_pos h]) _ ba cap (ht7.imp id fun ⟨b,o,e,h⟩=>⟨b,o,e,h.below hd9.out⟩) htl hFh.out).mono ?_;rintro e w10 ⟨rfl,hb10⟩;have hd10:=Lib.hid (hd9.out.trans (hb10.mono hd9.out.size));refine hK.out _ _ (hcc.out _ hd10.out) (fun hHeld=>?_);clear hb10)
    (clear hK K)
    (try simp only [Act.put,List.setIfInBounds_toArray,List.set_cons_zero,List.set_cons_succ])
    (refine takeL (i:=6) (v:=?_) rfl (by kernel_rfl) (by kernel_rfl) (by kernel_rfl) (fun _ _ _ h=>h) (Or.inl ⟨by rfl,?_⟩) (by assumption) ?_)
    rotate_left
    ·(intro w hSw;(try dsimp only at hSw);go_simp;first | done | with_reducible rfl)
    (try simp only [Act.put,List.setIfInBounds_toArray,List.set_cons_zero,List.set_cons_succ])
    (refine wpAnyH_done (by kernel_rfl) ?_ _)
    clear hHeld
    rw [hE.out]
    generalize (if L.thChk (m:Nat) T = 0 then L.thVars T else 0) = vS
    obtain ⟨x0,x1⟩:=hci.out _ hd10.out
    obtain ⟨x2,x3⟩:=hcc.out _ hd10.out
    have q5':=q5.out _ hd10.out
    go_wp2_with fail
    refine q5'.mono ?_
    rintro e w11 ⟨rfl,hx11⟩
    have hd11:=Lib.hid (hd10.out.trans (hx11.below.mono hd10.out.size))
    have q25':=q25.out _ hd11.out
    clear q5' x0 x1 x2 x3 hx11
    go_wp2_with fail
    refine q25'.mono ?_
    rintro e w12 ⟨rfl,hx12⟩
    have hd12:=Lib.hid (hd11.out.trans (hx12.below.mono hd11.out.size))
    clear q25' hx12
    have hSB:=hS7.out.below hd12.out
    have hcT:∀ V,Below w12.heap.size w12 V→V.cell? ⟨w.heap.size,0,none⟩ = some (.int .i64 (m:Nat))∧V.cell? ⟨w.heap.size,1,none⟩ = some (.slice bb T.length cp):=fun V h=>hcc.out V (hd12.out.trans (h.mono hd12.out.size))
    have qv:=fun (W:World) (h:Below w12.heap.size w12 W)=>variables_any W b o cap ((htr.out.below hx17).below (hd12.out.trans (h.mono hd12.out.size))) hc.out
    have hrl:∀ (l:List Int),L.SortedBel t (t.length - 1) l→l.Nodup∧(∀ v∈l,1≤v∧v≤128)∧l.length≤12:=fun l hl=>⟨L.sorted_nodup hl.sorted,fun v hv=>(sorted_var hc.out hl hv).range,by rw [hl.len hc.out (by have:=(check_ok hc.out).1;omega)];omega⟩
    have qt:=fun (W:World) (h:Below w12.heap.size w12 W) (vl:Value) (l:List Int) (hl:SlI W vl l) (hs:L.SortedBel t (t.length - 1) l)=>fnTheory_any (n:=m) (hvl7.ext (hd12.out.trans (h.mono hd12.out.size))) hok.out hl (hrl l hs).1 (hrl l hs).2.1 (hrl l hs).2.2
    obtain ⟨φ,hφ⟩:∃ φ,φ = L.thφ T:=⟨_,rfl⟩
    have hvφ:=hv7.out
    rw [←hφ] at hvφ qt
    replace hφ:=Lib.hid hφ
    have hmade:=fun (W:World) (fb:Nat) (n1 n2 vl o:Value) (l:List Int) (hb:Below w12.heap.size w12 W) (hf:w12.heap.size≤fb) (hbox:W.heap[fb]? = some (.cells #[n1,n2] 48)) (hfn:FnAt W (.agg #[vl,o]) l φ) (hrow:∃ base,W.ownsRow base 3 1 vl l.length (l.map encZ))=>CB.made hSB hvφ hb hf hbox hfn hrow
    have hw12:Below w.heap.size w w12:=hSB.bel
    replace hmade:=Lib.hid hmade
    replace hcT:=Lib.hid hcT
    replace qv:=Lib.hid qv
    replace qt:=Lib.hid qt
    replace hrl:=Lib.hid hrl
    replace hSB:=Lib.hid hSB
    replace hvφ:=Lib.hid hvφ
    replace hw12:=Lib.hid hw12
    have hd4:=Lib.hid ((Below.refl w12.heap.size w12).drew)
    obtain ⟨b0,b1⟩:=hcT.out w12 (Below.refl _ _)
    rw [hba.out]
    go_upto_region 12 with fail
    go_cut [11] from 69 to 72 (fun s10 wx=>∃ (fb:Nat) (vl vo:Value) (l:List Int),s10 = .pointer (some ⟨fb,0,none⟩)∧Hid (L.SortedBel t (t.length - 1) l)∧Hid (CB t sb 50820 root fb vl vo l φ s4 w wx))
    case first =>
     (refine wp_region_held_drew (S:=(fun V=>V.cell? ⟨w.heap.size,0,none⟩ = some (.int .i64 (m:Nat))∧V.cell? ⟨w.heap.size,1,none⟩ = some (.slice bb T.length cp))) (by kernel_rfl) ?_ (fun hHeld=>?_))
     ·exact hcT.out _ hd4.out
     (refine takeL (i:=0) (v:=?_) rfl (by kernel_rfl) (by kernel_rfl) (by kernel_rfl) (fun _ _ _ h=>h) (Or.inl ⟨by rfl,?_⟩) (by assumption) ?_)
     rotate_left
     ·(intro w hSw;(try dsimp only at hSw);go_simp;first | done | with_reducible rfl)
     (try simp only [Act.put,List.setIfInBounds_toArray,List.set_cons_zero,List.set_cons_succ])
     (refine takeL (i:=1) (v:=?_) rfl (by kernel_rfl) (by kernel_rfl) (by kernel_rfl) (fun _ _ _ h=>h) (Or.inl ⟨by rfl,?_⟩) (by assumption) ?_)
     rotate_left
     ·(intro w hSw;(try dsimp only at hSw);go_simp;first | done | with_reducible rfl)
     (try simp only [Act.put,List.setIfInBounds_toArray,List.set_cons_zero,List.set_cons_succ])
     refine wpAnyH_ready (rs:=[2,4]) (by kernel_rfl) (by simp) ?_
     refine consL2 rfl rfl (fun K hK=>?_) (fun K hK=>?_)
     ·(rw [if_pos (by rfl)])
      go_simp
      refine (qv.out _ hd4.out).mono ?_
      rintro e w5 ⟨vl,l,rfl,hrow,hsl,hb5⟩
      obtain ⟨lb,lc,rfl⟩:∃ ba cp,vl = .slice ba l.length cp:=by obtain ⟨ba,cp,h,_⟩:=owns_slI hrow;exact ⟨ba,cp,h⟩
      have hd5:=Lib.hid (hd4.out.trans (hb5.mono hd4.out.size))
      refine hK.out _ _ (hcT.out _ hd5.out) (fun hHeld=>?_)
      clear hK K hb5
      (try simp only [Act.put,List.setIfInBounds_toArray,List.set_cons_zero,List.set_cons_succ])
      refine wpAnyH_ready (rs:=[3,4]) (by kernel_rfl) (by simp) ?_
      refine consL2 rfl rfl (fun K hK=>?_) (fun K hK=>?_)
      ·(rw [if_pos (by rfl)])
       go_simp
       refine (qt.out _ hd5.out _ l (owns_slI hrow) hsl).mono ?_
       rintro e w6 ⟨v,rfl,hfn,⟨vo,rfl⟩,hby⟩
       obtain ⟨go,gn,gc,rfl⟩:∃ g N c,vo = .slice (some ⟨g,0,none⟩) N c:=by
        obtain ⟨_,g,c,h1,_⟩:=hfn
        simp only [Value.agg.injEq,Array.mk.injEq,List.cons.injEq,and_true] at h1
        exact ⟨g,_,c,h1.2⟩
       have hdt:=Lib.hid (hd5.out.trans (hby.mono hd5.out.size))
       have hrowt:=own_stays hrow (Stays.of_below hby)
       refine hK.out _ _ (hcT.out _ hdt.out) (fun hHeld=>?_)
       clear hK K
       (try simp only [Act.put,List.setIfInBounds_toArray,List.set_cons_zero,List.set_cons_succ])
       refine wpAnyH_ready (rs:=[4]) (by kernel_rfl) (by simp) ?_
       refine consL rfl (fun K hK=>?_)
       (rw [if_pos (by rfl)])
       go_simp
       have nb:=heap_alloc_new w6 (.cells #[.slice none 0 0,.slice none 0 0] 48)
       have hba:=(Below.refl w6.heap.size w6).alloc (Nat.le_refl _) (.cells #[.slice none 0 0,.slice none 0 0] 48)
       have hd7:=Lib.hid (hdt.out.trans (hba.mono hdt.out.size))
       have hfl:w12.heap.size≤w6.heap.size:=hdt.out.size
       obtain ⟨fb,hfb⟩:∃ fb,fb = w6.heap.size:=⟨_,rfl⟩
       rw [←hfb] at nb hfl ⊢
       replace hfb:=Lib.hid hfb
       obtain ⟨w7,hww⟩:∃ W,W = w6.alloc (.cells #[.slice none 0 0,.slice none 0 0] 48):=⟨_,rfl⟩
       rw [←hww] at nb hba hd7 ⊢
       replace hww:=Lib.hid hww
       refine hK.out _ _ (hcT.out _ hd7.out) (fun hHeld=>?_)
       clear hK K
       (try simp only [Act.put,List.setIfInBounds_toArray,List.set_cons_zero,List.set_cons_succ])
       replace hfn:=hfn.below hba
       have hrow7:=own_stays hrowt (Stays.of_below hba)
       have hM:=Lib.hid (hmade.out w7 fb _ _ _ _ l hd7.out hfl nb hfn ⟨_,hrow7⟩)
       have x0:w7.cell? ⟨fb,0,none⟩ = some (.slice none 0 0):=by rw [World.cell?,nb];rfl
       have x1:w7.cell? ⟨fb,1,none⟩ = some (.slice none 0 0):=by rw [World.cell?,nb];rfl
       have y0:w7.frozen? ⟨fb,0,none⟩ = false:=by simp [World.frozen?,nb]
       have y1:w7.frozen? ⟨fb,1,none⟩ = false:=by simp [World.frozen?,nb]
       replace nb:=Lib.hid nb
       (refine wpAnyH_ready (rs:=[5]) (by kernel_rfl) (by simp) ?_)
       (refine consL rfl (fun K hK=>?_))
       ((rw [if_pos (by rfl)]);go_simp;refine hK.out _ _ (hcT.out _ hM.out.2) (fun hHeld=>?_))
       (clear hK K)
       (try simp only [Act.put,List.setIfInBounds_toArray,List.set_cons_zero,List.set_cons_succ])
       (refine wpAnyH_done (by kernel_rfl) ?_ _)
       go_wp2_with fail
       go_meet
       exact ⟨fb,_,_,l,rfl,Lib.hid hsl,Lib.hid hM.out.1⟩
      ·(rw [if_pos (by rfl)])
       go_simp
       have nb:=heap_alloc_new w5 (.cells #[.slice none 0 0,.slice none 0 0] 48)
       have hba:=(Below.refl w5.heap.size w5).alloc (Nat.le_refl _) (.cells #[.slice none 0 0,.slice none 0 0] 48)
       have hd6:=Lib.hid (hd5.out.trans (hba.mono hd5.out.size))
       have hfl:w12.heap.size≤w5.heap.size:=hd5.out.size
       obtain ⟨fb,hfb⟩:∃ fb,fb = w5.heap.size:=⟨_,rfl⟩
       rw [←hfb] at nb hfl ⊢
       replace hfb:=Lib.hid hfb
       obtain ⟨w6,hww⟩:∃ W,W = w5.alloc (.cells #[.slice none 0 0,.slice none 0 0] 48):=⟨_,rfl⟩
       rw [←hww] at nb hba hd6 ⊢
       replace hww:=Lib.hid hww
       refine hK.out _ _ (hcT.out _ hd6.out) (fun hHeld=>?_)
       clear hK K
       (try simp only [Act.put,List.setIfInBounds_toArray,List.set_cons_zero,List.set_cons_succ])
       have hrow6:=own_stays hrow (Stays.of_below hba)
       refine wpAnyH_ready (rs:=[3]) (by kernel_rfl) (by simp) ?_
       refine consL rfl (fun K hK=>?_)
       (rw [if_pos (by rfl)])
       go_simp
       refine (qt.out _ hd6.out _ l (owns_slI hrow6) hsl).mono ?_
       rintro e w7 ⟨v,rfl,hfn,⟨vo,rfl⟩,hby⟩
       obtain ⟨go,gn,gc,rfl⟩:∃ g N c,vo = .slice (some ⟨g,0,none⟩) N c:=by
        obtain ⟨_,g,c,h1,_⟩:=hfn
        simp only [Value.agg.injEq,Array.mk.injEq,List.cons.injEq,and_true] at h1
        exact ⟨g,_,c,h1.2⟩
       have hdt:=Lib.hid (hd6.out.trans (hby.mono hd6.out.size))
       have hrowt:=own_stays hrow6 (Stays.of_below hby)
       refine hK.out _ _ (hcT.out _ hdt.out) (fun hHeld=>?_)
       clear hK K
       (try simp only [Act.put,List.setIfInBounds_toArray,List.set_cons_zero,List.set_cons_succ])
       replace nb:=(hby.block _ (Array.getElem?_eq_some_iff.1 nb).1).trans nb
       have hM:=Lib.hid (hmade.out w7 fb _ _ _ _ l hdt.out hfl nb hfn ⟨_,hrowt⟩)
       have x0:w7.cell? ⟨fb,0,none⟩ = some (.slice none 0 0):=by rw [World.cell?,nb];rfl
       have x1:w7.cell? ⟨fb,1,none⟩ = some (.slice none 0 0):=by rw [World.cell?,nb];rfl
       have y0:w7.frozen? ⟨fb,0,none⟩ = false:=by simp [World.frozen?,nb]
       have y1:w7.frozen? ⟨fb,1,none⟩ = false:=by simp [World.frozen?,nb]
       replace nb:=Lib.hid nb
       (refine wpAnyH_ready (rs:=[5]) (by kernel_rfl) (by simp) ?_)
       (refine consL rfl (fun K hK=>?_))
       ((rw [if_pos (by rfl)]);go_simp;refine hK.out _ _ (hcT.out _ hM.out.2) (fun hHeld=>?_))
       (clear hK K)
       (try simp only [Act.put,List.setIfInBounds_toArray,List.set_cons_zero,List.set_cons_succ])
       (refine wpAnyH_done (by kernel_rfl) ?_ _)
       go_wp2_with fail
       go_meet
       exact ⟨fb,_,_,l,rfl,Lib.hid hsl,Lib.hid hM.out.1⟩
     ·(rw [if_pos (by rfl)])
      go_simp
      have nb:((w12.alloc (.cells #[.slice none 0 0,.slice none 0 0] 48)).drew).heap[w12.heap.size]? = some (.cells #[.slice none 0 0,.slice none 0 0] 48):=heap_alloc_new w12 (.cells #[.slice none 0 0,.slice none 0 0] 48)
      have hba:=((Below.refl w12.heap.size w12).alloc (Nat.le_refl _) (.cells #[.slice none 0 0,.slice none 0 0] 48)).drew
      have hd5a:=Lib.hid hba
      obtain ⟨fb,hfb⟩:∃ fb,fb = w12.heap.size:=⟨_,rfl⟩
      have hfl:w12.heap.size≤fb:=Nat.le_of_eq hfb.symm
      rw [←hfb] at nb ⊢
      replace hfb:=Lib.hid hfb
      obtain ⟨w5a,hww⟩:∃ W,W = (w12.alloc (.cells #[.slice none 0 0,.slice none 0 0] 48)).drew:=⟨_,rfl⟩
      rw [←hww] at nb hba hd5a ⊢
      replace hww:=Lib.hid hww
      refine hK.out _ _ (hcT.out _ hd5a.out) (fun hHeld=>?_)
      clear hK K
      (try simp only [Act.put,List.setIfInBounds_toArray,List.set_cons_zero,List.set_cons_succ])
      refine wpAnyH_ready (rs:=[2]) (by kernel_rfl) (by simp) ?_
      refine consL rfl (fun K hK=>?_)
      (rw [if_pos (by rfl)])
      go_simp
      refine (qv.out _ hd5a.out).mono ?_
      rintro e w5 ⟨vl,l,rfl,hrow,hsl,hb5⟩
      obtain ⟨lb,lc,rfl⟩:∃ ba cp,vl = .slice ba l.length cp:=by obtain ⟨ba,cp,h,_⟩:=owns_slI hrow;exact ⟨ba,cp,h⟩
      have hd5:=Lib.hid (hd5a.out.trans (hb5.mono hd5a.out.size))
      refine hK.out _ _ (hcT.out _ hd5.out) (fun hHeld=>?_)
      clear hK K
      (try simp only [Act.put,List.setIfInBounds_toArray,List.set_cons_zero,List.set_cons_succ])
      replace nb:=(hb5.block _ (Array.getElem?_eq_some_iff.1 nb).1).trans nb
      refine wpAnyH_ready (rs:=[3]) (by kernel_rfl) (by simp) ?_
      refine consL rfl (fun K hK=>?_)
      (rw [if_pos (by rfl)])
      go_simp
      refine (qt.out _ hd5.out _ l (owns_slI hrow) hsl).mono ?_
      rintro e w7 ⟨v,rfl,hfn,⟨vo,rfl⟩,hby⟩
      obtain ⟨go,gn,gc,rfl⟩:∃ g N c,vo = .slice (some ⟨g,0,none⟩) N c:=by
       obtain ⟨_,g,c,h1,_⟩:=hfn
       simp only [Value.agg.injEq,Array.mk.injEq,List.cons.injEq,and_true] at h1
       exact ⟨g,_,c,h1.2⟩
      have hdt:=Lib.hid (hd5.out.trans (hby.mono hd5.out.size))
      have hrowt:=own_stays hrow (Stays.of_below hby)
      refine hK.out _ _ (hcT.out _ hdt.out) (fun hHeld=>?_)
      clear hK K
      (try simp only [Act.put,List.setIfInBounds_toArray,List.set_cons_zero,List.set_cons_succ])
      replace nb:=(hby.block _ (Array.getElem?_eq_some_iff.1 nb).1).trans nb
      have hM:=Lib.hid (hmade.out w7 fb _ _ _ _ l hdt.out hfl nb hfn ⟨_,hrowt⟩)
      have x0:w7.cell? ⟨fb,0,none⟩ = some (.slice none 0 0):=by rw [World.cell?,nb];rfl
      have x1:w7.cell? ⟨fb,1,none⟩ = some (.slice none 0 0):=by rw [World.cell?,nb];rfl
      have y0:w7.frozen? ⟨fb,0,none⟩ = false:=by simp [World.frozen?,nb]
      have y1:w7.frozen? ⟨fb,1,none⟩ = false:=by simp [World.frozen?,nb]
      replace nb:=Lib.hid nb
      (refine wpAnyH_ready (rs:=[5]) (by kernel_rfl) (by simp) ?_)
      (refine consL rfl (fun K hK=>?_))
      ((rw [if_pos (by rfl)]);go_simp;refine hK.out _ _ (hcT.out _ hM.out.2) (fun hHeld=>?_))
      (clear hK K)
      (try simp only [Act.put,List.setIfInBounds_toArray,List.set_cons_zero,List.set_cons_succ])
      (refine wpAnyH_done (by kernel_rfl) ?_ _)
      go_wp2_with fail
      go_meet
      exact ⟨fb,_,_,l,rfl,Lib.hid hsl,Lib.hid hM.out.1⟩
    case rest =>
     obtain ⟨fb,vl,vo,l,rfl,hsl,hG⟩:=hcut
     obtain ⟨lb2,lc2,rfl⟩:∃ ba cp,vl = .slice ba l.length cp:=by
      obtain ⟨_,hr⟩:=hG.out.row
      obtain ⟨ba,cp,h,_⟩:=owns_slI hr
      exact ⟨ba,cp,h⟩
     obtain ⟨go,gn,gc,rfl⟩:∃ g N c,vo = .slice (some ⟨g,0,none⟩) N c:=by
      obtain ⟨_,g,c,h1,_⟩:=hG.out.fn
      simp only [Value.agg.injEq,Array.mk.injEq,List.cons.injEq,and_true] at h1
      exact ⟨g,_,c,h1.2⟩
     obtain ⟨hnd,hrr,hl12⟩:=hrl.out l hsl.out
     have hcntl:L.cnt (L.vl t (t.length - 1)) φ = L.cnt l φ:=(L.cnt_perm (L.sorted_perm hc.out (by have:=(check_ok hc.out).1;omega) hsl.out) φ).symm
     have hc64:L.cnt l φ≤64:=Nat.le_trans (L.cnt_le l φ) (by have hl:l.length≤6:=by (have:=hsl.out.len hc.out (by have:=(check_ok hc.out).1;omega);omega)
                                                             exact Nat.pow_le_pow_right (by decide) hl)
     have qn:=count_any hG.out.sl hG.out.val
     rw [hcntl] at qn
     have qs:=fun (W:World) (h:CB t sb 50820 root fb (.slice lb2 l.length lc2) (.slice (some ⟨go,0,none⟩) gn gc) l φ s4 w W)=>stands_any h.sl h.val h.fn hnd hrr hl12
     have qk:=fun (W:World) (h:CB t sb 50820 root fb (.slice lb2 l.length lc2) (.slice (some ⟨go,0,none⟩) gn gc) l φ s4 w W)=>fnCount_any h.fn hnd hl12
     have qo:=fun (W:World)=>natOf_any (w:=W) (n:=L.cnt l φ) (by omega)
     have hne:=fun (W:World)=>natEq (a:=L.cnt l φ) (b:=L.cnt l φ) (by omega) (by omega) W
     simp only [decide_true] at hne
     generalize L.cnt l φ = N at *
     obtain ⟨SN,hSN⟩:∃ x,natV N = .agg #[.string x]:=⟨_,rfl⟩
     simp only [hSN] at hne qo qn
     replace hSN:=Lib.hid hSN
     replace qs:=Lib.hid qs
     replace qk:=Lib.hid qk
     replace qo:=Lib.hid qo
     replace hcntl:=Lib.hid hcntl
     replace hnd:=Lib.hid hnd
     replace hrr:=Lib.hid hrr
     clear b0 b1 hd4
     go_wp2_with fail
     refine qn.mono ?_
     rintro e w14 ⟨rfl,hb14⟩
     have hGn:=hG.out.below hb14
     clear qn
     have hba15:=(Below.refl w14.heap.size w14).alloc (Nat.le_refl _) (.cells #[.string SN] 52)
     have hn15:=heap_alloc_new w14 (.cells #[.string SN] 52)
     have hG15:=hGn.below hba15
     obtain ⟨w15,hw15⟩:∃ W,W = w14.alloc (.cells #[.string SN] 52):=⟨_,rfl⟩
     rw [←hw15] at hba15 hn15 hG15
     obtain ⟨nb,hnb⟩:∃ x,x = w14.heap.size:=⟨_,rfl⟩
     rw [←hnb] at hn15
     have hcn:∀ V,Below w15.heap.size w15 V→V.cell? ⟨nb,0,none⟩ = some (.string SN):=fun V h=>by
      rw [World.cell?,h.block _ (Array.getElem?_eq_some_iff.1 hn15).1,hn15];rfl
     have hce:∀ V,Below w15.heap.size w15 V→(V.cell? ⟨fb,0,none⟩ = some (.slice lb2 l.length lc2)∧V.cell? ⟨fb,1,none⟩ = some (.slice (some ⟨go,0,none⟩) gn gc))∧V.cell? ⟨nb,0,none⟩ = some (.string SN):=fun V h=>⟨(hG15.below h).cells,hcn V h⟩
     replace hce:=Lib.hid hce
     replace hG15:=Lib.hid hG15
     replace hGn:=Lib.hid hGn
     replace hG:=Lib.hid hG
     go_wp2_with fail
     rw [←hw15,←hnb]
     replace hw15:=Lib.hid hw15
     replace hnb:=Lib.hid hnb
     have e15:=Lib.hid ((Below.refl w15.heap.size w15).drew)
     try go_wp2_with fail
     (refine wp_region_held_drew (S:=(fun V=>(V.cell? ⟨fb,0,none⟩ = some (.slice lb2 l.length lc2)∧V.cell? ⟨fb,1,none⟩ = some (.slice (some ⟨go,0,none⟩) gn gc))∧V.cell? ⟨nb,0,none⟩ = some (.string SN))) (by kernel_rfl) ?_ (fun hHeld=>?_))
     ·exact hce.out _ e15.out
     (refine takeL (i:=0) (v:=?_) rfl (by kernel_rfl) (by kernel_rfl) (by kernel_rfl) (fun _ _ _ h=>h) (Or.inl ⟨by rfl,?_⟩) (by assumption) ?_)
     rotate_left
     ·(intro w hSw;(try dsimp only at hSw);go_simp;first | done | with_reducible rfl)
     (try simp only [Act.put,List.setIfInBounds_toArray,List.set_cons_zero,List.set_cons_succ])
     (refine takeL (i:=1) (v:=?_) rfl (by kernel_rfl) (by kernel_rfl) (by kernel_rfl) (fun _ _ _ h=>h) (Or.inl ⟨by rfl,?_⟩) (by assumption) ?_)
     rotate_left
     ·(intro w hSw;(try dsimp only at hSw);go_simp;first | done | with_reducible rfl)
     (try simp only [Act.put,List.setIfInBounds_toArray,List.set_cons_zero,List.set_cons_succ])
     (refine takeL (i:=2) (v:=?_) rfl (by kernel_rfl) (by kernel_rfl) (by kernel_rfl) (fun _ _ _ h=>h) (Or.inl ⟨by rfl,?_⟩) (by assumption) ?_)
     rotate_left
     ·(intro w hSw;(try dsimp only at hSw);go_simp;first | done | with_reducible rfl)
     (try simp only [Act.put,List.setIfInBounds_toArray,List.set_cons_zero,List.set_cons_succ])
     (refine wpAnyH_ready (rs:=[3]) (by kernel_rfl) (by simp) ?_)
     (refine consL rfl (fun K hK=>?_))
     ((rw [if_pos (by rfl)]);go_simp;(go_at_call 29);refine (qs.out _ (hG15.out.below e15.out)).mono ?_;rintro e v1 ⟨rfl,hv1⟩;have e16:=Lib.hid (e15.out.trans (hv1.mono e15.out.size));refine hK.out _ _ (hce.out _ e16.out) (fun hHeld=>?_);clear hv1)
     (clear hK K)
     (try simp only [Act.put,List.setIfInBounds_toArray,List.set_cons_zero,List.set_cons_succ])
     (refine takeL (i:=4) (v:=?_) rfl (by kernel_rfl) (by kernel_rfl) (by kernel_rfl) (fun _ _ _ h=>h) (Or.inl ⟨by rfl,?_⟩) (by assumption) ?_)
     rotate_left
     ·(intro w hSw;(try dsimp only at hSw);go_simp;first | done | with_reducible rfl)
     (try simp only [Act.put,List.setIfInBounds_toArray,List.set_cons_zero,List.set_cons_succ])
     (refine takeL (i:=5) (v:=?_) rfl (by kernel_rfl) (by kernel_rfl) (by kernel_rfl) (fun _ _ _ h=>h) (Or.inl ⟨by rfl,?_⟩) (by assumption) ?_)
     rotate_left
     ·(intro w hSw;(try dsimp only at hSw);go_simp;first | done | with_reducible rfl)
     (try simp only [Act.put,List.setIfInBounds_toArray,List.set_cons_zero,List.set_cons_succ])
     (refine takeL (i:=6) (v:=?_) rfl (by kernel_rfl) (by kernel_rfl) (by kernel_rfl) (fun _ _ _ h=>h) (Or.inl ⟨by rfl,?_⟩) (by assumption) ?_)
     rotate_left
     ·(intro w hSw;(try dsimp only at hSw);go_simp;first | done | with_reducible rfl)
     (try simp only [Act.put,List.setIfInBounds_toArray,List.set_cons_zero,List.set_cons_succ])
     (refine takeL (i:=7) (v:=?_) rfl (by kernel_rfl) (by kernel_rfl) (by kernel_rfl) (fun _ _ _ h=>h) (Or.inl ⟨by rfl,?_⟩) (by assumption) ?_)
     rotate_left
     ·(intro w hSw;(try dsimp only at hSw);go_simp;first | done | with_reducible rfl)
     (try simp only [Act.put,List.setIfInBounds_toArray,List.set_cons_zero,List.set_cons_succ])
     (refine takeL (i:=8) (v:=?_) rfl (by kernel_rfl) (by kernel_rfl) (by kernel_rfl) (fun _ _ _ h=>h) (Or.inl ⟨by rfl,?_⟩) (by assumption) ?_)
     rotate_left
     ·(intro w hSw;(try dsimp only at hSw);go_simp;first | done | with_reducible rfl)
     (try simp only [Act.put,List.setIfInBounds_toArray,List.set_cons_zero,List.set_cons_succ])
     (refine takeL (i:=9) (v:=?_) rfl (by kernel_rfl) (by kernel_rfl) (by kernel_rfl) (fun _ _ _ h=>h) (Or.inl ⟨by rfl,?_⟩) (by assumption) ?_)
     rotate_left
     ·(intro w hSw;(try dsimp only at hSw);go_simp;first | done | with_reducible rfl)
     (try simp only [Act.put,List.setIfInBounds_toArray,List.set_cons_zero,List.set_cons_succ])
     (refine takeL (i:=10) (v:=?_) rfl (by kernel_rfl) (by kernel_rfl) (by kernel_rfl) (fun _ _ _ h=>h) (Or.inl ⟨by rfl,?_⟩) (by assumption) ?_)
     rotate_left
     ·(intro w hSw;(try dsimp only at hSw);go_simp;first | done | with_reducible rfl)
     (try simp only [Act.put,List.setIfInBounds_toArray,List.set_cons_zero,List.set_cons_succ])
     (refine wpAnyH_ready (rs:=[11]) (by kernel_rfl) (by simp) ?_)
     (refine consL rfl (fun K hK=>?_))
     ((rw [if_pos (by rfl)]);go_simp;(go_at_call 31);refine (qk.out _ (hG15.out.below e16.out)).mono ?_;rintro e v2 ⟨rfl,hv2⟩;have e17:=Lib.hid (e16.out.trans (hv2.below.mono e16.out.size));refine hK.out _ _ (hce.out _ e17.out) (fun hHeld=>?_);clear hv2)
     (clear hK K)
     (try simp only [Act.put,List.setIfInBounds_toArray,List.set_cons_zero,List.set_cons_succ])
     have hcv:IntKind.u64.wrap (N:Int) = (N:Int):=by simp [IntKind.wrap,IntKind.bits,IntKind.signed];omega
     (refine takeL (i:=12) (v:=?_) rfl (by kernel_rfl) (by kernel_rfl) (by kernel_rfl) (fun _ _ _ h=>h) (Or.inl ⟨by rfl,?_⟩) (by assumption) ?_)
     rotate_left
     ·(intro w hSw;(try dsimp only at hSw);go_simp;first | done | with_reducible rfl)
     (try simp only [Act.put,List.setIfInBounds_toArray,List.set_cons_zero,List.set_cons_succ])
     (refine wpAnyH_ready (rs:=[13]) (by kernel_rfl) (by simp) ?_)
     (refine consL rfl (fun K hK=>?_))
     ((rw [if_pos (by rfl)]);go_simp;(go_at_call 30);refine (qo.out _).mono ?_;rintro e v3 ⟨rfl,hv3⟩;have e18:=Lib.hid (e17.out.trans (hv3.mono e17.out.size));refine hK.out _ _ (hce.out _ e18.out) (fun hHeld=>?_);clear hv3)
     (clear hK K)
     (try simp only [Act.put,List.setIfInBounds_toArray,List.set_cons_zero,List.set_cons_succ])
     (refine takeL (i:=14) (v:=?_) rfl (by kernel_rfl) (by kernel_rfl) (by kernel_rfl) (fun _ _ _ h=>h) (Or.inl ⟨by rfl,?_⟩) (by assumption) ?_)
     rotate_left
     ·(intro w hSw;(try dsimp only at hSw);go_simp;first | done | with_reducible rfl)
     (try simp only [Act.put,List.setIfInBounds_toArray,List.set_cons_zero,List.set_cons_succ])
     (refine takeL (i:=15) (v:=?_) rfl (by kernel_rfl) (by kernel_rfl) (by kernel_rfl) (fun _ _ _ h=>h) (Or.inl ⟨by rfl,?_⟩) (by assumption) ?_)
     rotate_left
     ·(intro w hSw;(try dsimp only at hSw);go_simp;first | done | with_reducible rfl)
     (try simp only [Act.put,List.setIfInBounds_toArray,List.set_cons_zero,List.set_cons_succ])
     (refine takeL (i:=16) (v:=?_) rfl (by kernel_rfl) (by kernel_rfl) (by kernel_rfl) (fun _ _ _ h=>h) (Or.inl ⟨by rfl,?_⟩) (by assumption) ?_)
     rotate_left
     ·(intro w hSw;(try dsimp only at hSw);go_simp;first | done | with_reducible rfl)
     (try simp only [Act.put,List.setIfInBounds_toArray,List.set_cons_zero,List.set_cons_succ])
     (refine wpAnyH_ready (rs:=[17]) (by kernel_rfl) (by simp) ?_)
     (refine consL rfl (fun K hK=>?_))
     ((rw [if_pos (by rfl)]);go_simp;(go_at_call 16);refine (hw.out _ (hG15.out.below e18.out).sl.bel).mono ?_;rintro e v4 ⟨rfl,hv4⟩;have e19:=Lib.hid (e18.out.trans (hv4.mono e18.out.size));refine hK.out _ _ (hce.out _ e19.out) (fun hHeld=>?_);clear hv4)
     (clear hK K)
     (try simp only [Act.put,List.setIfInBounds_toArray,List.set_cons_zero,List.set_cons_succ])
     (refine takeL (i:=18) (v:=?_) rfl (by kernel_rfl) (by kernel_rfl) (by kernel_rfl) (fun _ _ _ h=>h) (Or.inl ⟨by rfl,?_⟩) (by assumption) ?_)
     rotate_left
     ·(intro w hSw;(try dsimp only at hSw);go_simp;first | done | with_reducible rfl)
     (try simp only [Act.put,List.setIfInBounds_toArray,List.set_cons_zero,List.set_cons_succ])
     (refine takeL (i:=19) (v:=?_) rfl (by kernel_rfl) (by kernel_rfl) (by kernel_rfl) (fun _ _ _ h=>h) (Or.inl ⟨by rfl,?_⟩) (by assumption) ?_)
     rotate_left
     ·(intro w hSw;(try dsimp only at hSw);go_simp;first | done | with_reducible rfl)
     (try simp only [Act.put,List.setIfInBounds_toArray,List.set_cons_zero,List.set_cons_succ])
     (refine wpAnyH_done (by kernel_rfl) ?_ _)
     clear hHeld
     go_wp2_with fail
     go_ret
     exact ⟨rfl,hG15.out.sl.bel.trans (e19.out.mono hG15.out.sl.bel.size)⟩
   ·have qc:=compile_no (n:=n) hv6 (some ⟨tb,0,none⟩) tc (Or.inr ⟨tb,0,rfl,ht6⟩) hE
    have hd:(compE n T t != 0) = true:=by simpa using hE
    obtain ⟨z,hz⟩:∃ z,z = compE n T t:=⟨_,rfl⟩
    rw [←hz] at qc hd hE
    have hzz:(z != z) = false:=by simp
    replace hz:=Lib.hid hz
    replace hE:=Lib.hid hE
    have hFh:=Lib.hid hF
    clear hL hF
    refine qc.mono ?_
    rintro e w7 ⟨rfl,hb7⟩
    have hbe7:Below w.heap.size w w7:=hbe6.trans (hb7.mono hbe6.size)
    clear qc
    have qfl:=full_gen z ba t.length cap w7
    cases hB:(decide (z = 7) && decide (7 < t.length))
    ·rw [hB] at qfl
     go_wp2_with fail
     refine qfl.mono ?_
     rintro e w8 ⟨rfl,rfl⟩
     have hx17:Below w1.heap.size w1 w7:=hx13.below.trans ((hB6.trans (hb7.mono hB6.size)).mono hx13.size)
     have hcc:∀ V,Below w7.heap.size w7 V→V.cell? ⟨w.heap.size,0,none⟩ = some (.int .i64 n)∧V.cell? ⟨w.heap.size,1,none⟩ = some (.slice bb T.length cp):=fun V h=>by
      have f0:=((hx17.trans (h.mono hx17.size)).block _ (Array.getElem?_eq_some_iff.1 e0.out).1).trans e0.out
      exact ⟨by rw [World.cell?,f0];rfl,by rw [World.cell?,f0];rfl⟩
     have hci:∀ V,Below w7.heap.size w7 V→V.cell? ⟨w5.heap.size,0,none⟩ = some (.int .i64 n)∧V.cell? ⟨w5.heap.size,1,none⟩ = some (.slice lb T.length lc):=fun V h=>by
      have f0:=((hb7.trans (h.mono hb7.size)).block _ (Array.getElem?_eq_some_iff.1 nB).1).trans nB
      exact ⟨by rw [World.cell?,f0];rfl,by rw [World.cell?,f0];rfl⟩
     replace hcc:=Lib.hid hcc
     replace hci:=Lib.hid hci
     have hvl7:=hvl.ext hx17
     have hvc7:=hv6.ext hb7
     have ht7:t = []∨∃ b o,ba = some ⟨b,o,none⟩∧TreeAt w7 b o t:=ht1.out.imp id fun ⟨b,o,e,h⟩=>⟨b,o,e,h.below hx17⟩
     have htc7:=ht6.below hb7
     have hd7:=Lib.hid ((Below.refl w7.heap.size w7).drew)
     have q5:=fun (W:World) (h:Below w7.heap.size w7 W)=>refSame5_any (n:=n) (hvc7.ext h) (hvl7.ext h) (Nat.le_trans hT60 (by decide)) (fun c hc=>Nat.le_trans (hc140.out c hc) (by decide))
     have q25:=fun (W:World) (h:Below w7.heap.size w7 W)=>vsame_any (t:=t) (u:=t) W (some ⟨tb,0,none⟩) ba tc cap (Or.inr ⟨tb,0,rfl,htc7.below h⟩) (ht7.imp id fun ⟨b,o,e,h'⟩=>⟨b,o,e,h'.below h⟩) (Nat.le_trans h300 (by decide))
     simp only [decide_true] at q25
     replace q5:=Lib.hid q5
     replace q25:=Lib.hid q25
     go_wp2_with fail
     (refine wp_region_held_drew (S:=(fun V=>V.cell? ⟨w.heap.size,0,none⟩ = some (.int .i64 n)∧V.cell? ⟨w.heap.size,1,none⟩ = some (.slice bb T.length cp))) (by kernel_rfl) ?_ (fun hHeld=>?_))
     ·exact hcc.out _ hd7.out
     (refine takeL (i:=0) (v:=?_) rfl (by kernel_rfl) (by kernel_rfl) (by kernel_rfl) (fun _ _ _ h=>h) (Or.inl ⟨by rfl,?_⟩) (by assumption) ?_)
     rotate_left
     ·(intro w hSw;(try dsimp only at hSw);go_simp;first | done | with_reducible rfl)
     (try simp only [Act.put,List.setIfInBounds_toArray,List.set_cons_zero,List.set_cons_succ])
     (refine takeL (i:=2) (v:=?_) rfl (by kernel_rfl) (by kernel_rfl) (by kernel_rfl) (fun _ _ _ h=>h) (Or.inl ⟨by rfl,?_⟩) (by assumption) ?_)
     rotate_left
     ·(intro w hSw;(try dsimp only at hSw);go_simp;first | done | with_reducible rfl)
     (try simp only [Act.put,List.setIfInBounds_toArray,List.set_cons_zero,List.set_cons_succ])
     (refine takeL (i:=4) (v:=?_) rfl (by kernel_rfl) (by kernel_rfl) (by kernel_rfl) (fun _ _ _ h=>h) (Or.inl ⟨by rfl,?_⟩) (by assumption) ?_)
     rotate_left
     ·(intro w hSw;(try dsimp only at hSw);go_simp;first | done | with_reducible rfl)
     (try simp only [Act.put,List.setIfInBounds_toArray,List.set_cons_zero,List.set_cons_succ])
     (refine wpAnyH_ready (rs:=[1]) (by kernel_rfl) (by simp) ?_)
     (refine consL rfl (fun K hK=>?_))
     ((rw [if_pos (by rfl)]);go_simp;refine (rcheck_any (hvl7.ext hd7.out)).mono ?_;rintro e w8 ⟨rfl,hb8⟩;have hd8:=Lib.hid (hd7.out.trans (hb8.below.mono hd7.out.size));refine hK.out _ _ (hcc.out _ hd8.out) (fun hHeld=>?_);clear hb8)
     (clear hK K)
     (try simp only [Act.put,List.setIfInBounds_toArray,List.set_cons_zero,List.set_cons_succ])
     (refine wpAnyH_ready (rs:=[3]) (by kernel_rfl) (by simp) ?_)
     (refine consL rfl (fun K hK=>?_))
     ((rw [if_pos (by rfl)]);go_simp;refine (refVars5_any (n:=n) (hvl7.ext hd8.out)).mono ?_;rintro e w9 ⟨rfl,hb9⟩;have hd9:=Lib.hid (hd8.out.trans (hb9.below.mono hd8.out.size));refine hK.out _ _ (hcc.out _ hd9.out) (fun hHeld=>?_);clear hb9)
     (clear hK K)
     (try simp only [Act.put,List.setIfInBounds_toArray,List.set_cons_zero,List.set_cons_succ])
     (unfold encS)
     (refine wpAnyH_ready (rs:=[5]) (by kernel_rfl) (by simp) ?_)
     (refine consL rfl (fun K hK=>?_))
     ((rw [if_pos (by rfl)]);go_simp;refine (refErr27_any (n:=n) (T:=T) (fun h=>by rw [if_pos h]) _ ba cap (ht7.imp id fun ⟨b,o,e,h⟩=>⟨b,o,e,h.below hd9.out⟩) htl hFh.out).mono ?_;rintro e w10 ⟨rfl,hb10⟩;have hd10:=Lib.hid (hd9.out.trans (hb10.mono hd9.out.size));refine hK.out _ _ (hcc.out _ hd10.out) (fun hHeld=>?_);clear hb10)
     (clear hK K)
     (try simp only [Act.put,List.setIfInBounds_toArray,List.set_cons_zero,List.set_cons_succ])
     (refine takeL (i:=6) (v:=?_) rfl (by kernel_rfl) (by kernel_rfl) (by kernel_rfl) (fun _ _ _ h=>h) (Or.inl ⟨by rfl,?_⟩) (by assumption) ?_)
     rotate_left
     ·(intro w hSw;(try dsimp only at hSw);go_simp;first | done | with_reducible rfl)
     (try simp only [Act.put,List.setIfInBounds_toArray,List.set_cons_zero,List.set_cons_succ])
     (refine wpAnyH_done (by kernel_rfl) ?_ _)
     clear hHeld
     rw [←hz.out]
     generalize (if L.thChk n T = 0 then L.thVars T else 0) = vS
     obtain ⟨x0,x1⟩:=hci.out _ hd10.out
     obtain ⟨x2,x3⟩:=hcc.out _ hd10.out
     have q5':=q5.out _ hd10.out
     go_wp2_with fail
     refine q5'.mono ?_
     rintro e w11 ⟨rfl,hx11⟩
     have hd11:=Lib.hid (hd10.out.trans (hx11.below.mono hd10.out.size))
     have q25':=q25.out _ hd11.out
     clear q5' x0 x1 x2 x3 hx11
     go_wp2_with fail
     refine q25'.mono ?_
     rintro e w12 ⟨rfl,hx12⟩
     have hd12:=Lib.hid (hd11.out.trans (hx12.below.mono hd11.out.size))
     clear q25' hx12
     have hbe12:Below w.heap.size w w12:=hbe7.trans (hd12.out.mono hbe7.size)
     have qw:=hw.out w12 hbe12
     go_wp2_with fail
     refine qw.mono ?_
     rintro e w13 ⟨rfl,hb13⟩
     go_wp2_with fail
     go_ret
     exact ⟨rfl,hbe12.trans (hb13.mono hbe12.size)⟩
    ·rw [hB] at qfl
     have qw:=hw.out w7 hbe7
     go_wp2_with fail
     refine qfl.mono ?_
     rintro e w8 ⟨rfl,rfl⟩
     go_wp2_with fail
     refine qw.mono ?_
     rintro e w9 ⟨rfl,hb9⟩
     go_wp2_with fail
     go_ret
     exact ⟨rfl,hbe7.trans (hb9.mono hbe7.size)⟩
end Go.Proofs.YtmnjakejhbpkoaaGreatDoor
