import Derived.Test.YtmnjakejhbpkoaaGreatDoorXT27j
import Derived.Test.YtmnjakejhbpkoaaGreatDoorXPro27
import Derived.Test.YtmnjakejhbpkoaaGreatDoorXLaw11
import Derived.Test.YtmnjakejhbpkoaaGreatDoorXEv5
import Derived.Deep.CutRange
set_option linter.unusedSimpArgs false
set_option linter.unusedVariables false
namespace Go.Proofs.YtmnjakejhbpkoaaGreatDoor
open Go Go.RowKit Go.Shelf
structure GB (t:List VN) (sb k root zb fb:Nat) (z0 z1:Int) (vl o:Value) (l:List Int) (φ:L.Asg→Bool) (s:St) (w0 W:World):Prop where
 sl:SL t sb k [] s w0 W
 val:Val s root φ
 box:W.heap[fb]? = some (.cells #[vl,o] 48)
 z:W.heap[zb]? = some (.cells #[.int .i64 z0,.int .i64 z1] 64)
 fn:FnAt W (.agg #[vl,o]) l φ
 row:∃ base,W.ownsRow base 3 1 vl l.length (l.map encZ)
section
variable {t:List VN} {sb k k' root zb fb:Nat} {z0 z1:Int} {vl o:Value} {l:List Int} {φ:L.Asg→Bool} {s s':St} {w0 W W':World}
theorem GB.stays (h:GB t sb k root zb fb z0 z1 vl o l φ s w0 W) (hs:SL t sb k' [] s' w0 W') (hv:Val s' root φ) (hS:Stays W W'):GB t sb k' root zb fb z0 z1 vl o l φ s' w0 W' :=
 ⟨hs,hv,hS.get h.box (by decide) (by decide),hS.get h.z (by decide) (by decide),(by obtain ⟨_,hr⟩:=h.row;exact h.fn.stays rfl hr hS),(by obtain ⟨_,hr⟩:=h.row;exact ⟨_,own_stays hr hS⟩)⟩
theorem GB.below (h:GB t sb k root zb fb z0 z1 vl o l φ s w0 W) (hb:Below W.heap.size W W'):GB t sb k root zb fb z0 z1 vl o l φ s w0 W':=h.stays (h.sl.below hb) h.val (Stays.of_below hb)
theorem GB.cells (h:GB t sb k root zb fb z0 z1 vl o l φ s w0 W):(W.cell? ⟨fb,0,none⟩ = some vl∧W.cell? ⟨fb,1,none⟩ = some o)∧W.cell? ⟨zb,0,none⟩ = some (.int .i64 z0)∧W.cell? ⟨zb,1,none⟩ = some (.int .i64 z1):=by
 refine ⟨⟨?_,?_⟩,?_,?_⟩
 ·rw [World.cell?,h.box];rfl
 ·rw [World.cell?,h.box];rfl
 ·rw [World.cell?,h.z];rfl
 ·rw [World.cell?,h.z];rfl
theorem GB.made {w4:World} {n1 n2:Value} (hS:SL t sb k [] s w0 w4) (hv:Val s root φ) (hb:Below w4.heap.size w4 W) (hf:w4.heap.size≤fb) (hbox:W.heap[fb]? = some (.cells #[n1,n2] 48)) (hz:w4.heap[zb]? = some (.cells #[.int .i64 z0,.int .i64 z1] 64)) (hfn:FnAt W (.agg #[vl,o]) l φ) (hrow:∃ base,W.ownsRow base 3 1 vl l.length (l.map encZ)) :
  GB t sb k root zb fb z0 z1 vl o l φ s w0 ((W.setCell ⟨fb,0,none⟩ vl).setCell ⟨fb,1,none⟩ o)∧Below w4.heap.size w4 ((W.setCell ⟨fb,0,none⟩ vl).setCell ⟨fb,1,none⟩ o):=by
 have hb':Below w4.heap.size w4 ((W.setCell ⟨fb,0,none⟩ vl).setCell ⟨fb,1,none⟩ o):=(hb.setCell hf _).setCell hf _
 have hne:∀ (g:Nat) (c:Array Value) (ty:TypeId),W.heap[g]? = some (.cells c ty (0,0))→ty≠48→((W.setCell ⟨fb,0,none⟩ vl).setCell ⟨fb,1,none⟩ o).heap[g]? = W.heap[g]?:=fun g c ty h1 h2=>by
  have hgf:g≠fb:=by
   intro e
   rw [e,hbox] at h1
   simp only [Option.some.injEq,Obj.cells.injEq] at h1
   exact h2 h1.2.1.symm
  exact (Below.heap_setCell _ _ _ _ hgf).trans (Below.heap_setCell _ _ _ _ hgf)
 have hrow':∃ base,((W.setCell ⟨fb,0,none⟩ vl).setCell ⟨fb,1,none⟩ o).ownsRow base 3 1 vl l.length (l.map encZ):=by
  obtain ⟨base,a,h | ⟨g,cap,cur,rfl,hgb,hgh,hr⟩⟩:=hrow
  ·exact ⟨base,a,.inl h⟩
  ·exact ⟨base,a,.inr ⟨g,cap,cur,rfl,hgb,(hne _ _ _ hgh (by decide)).trans hgh,hr⟩⟩
 refine ⟨⟨hS.below hb',hv,heap_set (heap_set hbox 0 vl) 1 o,?_,?_,hrow'⟩,hb'⟩
 ·exact (hb'.block _ (Array.getElem?_eq_some_iff.1 hz).1).trans hz
 ·obtain ⟨_,hr⟩:=hrow'
  obtain ⟨vl',g,c,h1,_,h3⟩:=hfn
  simp only [Value.agg.injEq,Array.mk.injEq,List.cons.injEq,and_true] at h1
  obtain ⟨rfl,rfl⟩:=h1
  obtain ⟨cc,h4,h5⟩:=h3
  exact ⟨_,g,c,rfl,owns_slI hr,⟨cc,(hne _ _ _ h4 (by decide)).trans h4,h5⟩⟩
end
set_option maxRecDepth 100000 in
set_option maxHeartbeats 40000000 in
theorem givens_any {n:Int} {T:List (List Int)} {u:Value} {t:List VN} {z0 z1:Int} (w:World) (ba:Option Addr) (cap:Nat) (hT:TzTab w) (hP:PowTab w) (hv:SlT w u T∧T.length≤9223372036854775807∧(-9223372036854775808≤n∧n≤9223372036854775807)) (ht:t = []∨∃ b o,ba = some ⟨b,o,none⟩∧TreeAt w b o t) (htl:t.length≤5864062014805) (hz:(-9223372036854775808≤z0∧z0≤9223372036854775807)∧(-9223372036854775808≤z1∧z1≤9223372036854775807)) :
  Calls Tryz.prog 5 #[.agg #[.int .i64 n,u],.slice ba t.length cap,.agg #[.int .i64 z0,.int .i64 z1]] w fun e w'=>e = .returned (.bool true)∧Below w.heap.size w w':=by
 obtain ⟨hv,hlT,_⟩:=hv
 obtain ⟨e0,e1⟩:=alloc2h w (.cells #[.int .i64 n,u] 24) (.cells #[.int .i64 z0,.int .i64 z1] 64)
 have hx1:Ext w ((w.alloc (.cells #[.int .i64 n,u] 24)).alloc (.cells #[.int .i64 z0,.int .i64 z1] 64)):=((Ext.refl w).alloc _).alloc _
 have hw:∀ W,Below w.heap.size w W→Calls Tryz.prog 16 #[] W fun e w''=>e = .returned (.bool true)∧Below W.heap.size W w'':=fun W hx=>works27_any W (hT.same (hx.block _ hT.lt')) (hP.same (hx.block _ hP.lt))
 obtain ⟨w1,hw1⟩:∃ w1,w1 = (w.alloc (.cells #[.int .i64 n,u] 24)).alloc (.cells #[.int .i64 z0,.int .i64 z1] 64):=⟨_,rfl⟩
 rw [←hw1] at e0 e1 hx1
 have c0:w1.cell? ⟨w.heap.size,0,none⟩ = some (.int .i64 n):=by rw [World.cell?,e0];rfl
 have c1:w1.cell? ⟨w.heap.size,1,none⟩ = some u:=by rw [World.cell?,e0];rfl
 have ql:=light27_any (n:=n) (hv.ext hx1.below) hlT
 have hvh:=Lib.hid hv
 obtain ⟨bb,cp,rfl,_⟩:=hv
 replace e0:=Lib.hid e0
 replace e1:=Lib.hid e1
 replace hw:=Lib.hid hw
 replace hx1:=Lib.hid hx1
 replace hz:=Lib.hid hz
 cases hL:light27B n T
 ·rw [hL] at ql
  go_enter Tryz.func5,Tryz.ntmps5
  go_wp2_with fail
  rw [←hw1]
  replace hw1:=Lib.hid hw1
  go_wp2_with fail
  refine ql.mono ?_
  rintro e w2 ⟨rfl,hx2⟩
  have hx:=hx1.out.trans hx2
  have q:=hw.out w2 hx.below
  clear ql
  go_wp2_with fail
  refine q.mono ?_
  rintro e w3 ⟨rfl,hb3⟩
  go_wp2_with fail
  go_ret
  exact ⟨rfl,hx.below.trans (hb3.mono hx.size)⟩
 ·rw [hL] at ql
  have qf:∀ W,Ext w1 W→Calls Tryz.prog 15 #[.slice ba t.length cap] W fun e w'=>e = .returned (.bool (few27B t))∧Ext W w':=fun W hx=>few27_any W ba cap (refchk_any W ba cap (ht.imp id fun ⟨b,o,e,h⟩=>⟨b,o,e,(h.ext hx1.out).ext hx⟩) htl)
  cases hF:few27B t
  ·rw [hF] at qf
   replace qf:=Lib.hid qf
   go_enter Tryz.func5,Tryz.ntmps5
   go_wp2_with fail
   rw [←hw1]
   replace hw1:=Lib.hid hw1
   go_wp2_with fail
   refine ql.mono ?_
   rintro e w2 ⟨rfl,hx2⟩
   have q:=qf.out w2 hx2
   clear ql
   go_wp2_with fail
   refine q.mono ?_
   rintro e w3 ⟨rfl,hx3⟩
   have hx:=(hx1.out.trans hx2).trans hx3
   have qw:=hw.out w3 hx.below
   clear q
   go_wp2_with fail
   refine qw.mono ?_
   rintro e w4 ⟨rfl,hb4⟩
   go_wp2_with fail
   go_ret
   exact ⟨rfl,hx.below.trans (hb4.mono hx.size)⟩
  ·rw [hF] at qf
   replace qf:=Lib.hid qf
   by_cases hE:compE n T t = 0
   ·obtain ⟨hok,hc,hsub⟩:=compE_ok hE
    obtain ⟨b,o,rfl,htr⟩:=tree_some hc ht
    have hfew:=few_len hF hc
    have h30:=light_few hL hok
    have hl6:=L.nv_le hc (v:=t.length - 1) (by have:=(check_ok hc).1;omega)
    obtain ⟨m,rfl⟩:∃ m:Nat,n = m:=⟨n.toNat,by have:=(L.thChk_ok.1 hok).1;omega⟩
    have hmf:∀ (fn:Fn) (first cap:Array Value) (w:World),(Instr.makeFunc fn first cap).run Tryz.prog w = .ok (.func fn first cap) w:=fun _ _ _ _=>rfl
    have hK1:∀ (c:Array Value) (w:World),(callFunc 36 c).run Tryz.prog w = .ok (.enter 36 c) w:=fun c w=>by simp [go_sem,Tryz.func36]
    replace hsub:=Lib.hid hsub
    replace htr:=Lib.hid htr
    replace hok:=Lib.hid hok
    replace hc:=Lib.hid hc
    replace hE:=Lib.hid hE
    clear hL hF ht
    go_enter Tryz.func5,Tryz.ntmps5
    go_wp2_with fail
    rw [←hw1]
    replace hw1:=Lib.hid hw1
    go_wp2_with fail
    refine ql.mono ?_
    rintro e w2 ⟨rfl,hx2⟩
    have q:=qf.out w2 hx2
    have a0:=hx2.cell c0
    have a1:=hx2.cell c1
    clear ql c0 c1
    go_wp2_with fail
    refine q.mono ?_
    rintro e w3 ⟨rfl,hx3⟩
    have hx:=(hx1.out.trans hx2).trans hx3
    have hx13:=hx2.trans hx3
    have b0:=hx3.cell a0
    have b1:=hx3.cell a1
    have qc:=compile_ok (hvh.out.ext hx.below) b o cap hok.out h30 (htr.out.ext hx) hc.out hfew hsub.out (hT.ext hx) (hP.below hx.below)
    clear q a0 a1 hx2 hx3
    replace hx:=Lib.hid hx
    go_wp2_with fail
    refine qc.mono ?_
    rintro e w4 ⟨sb,root,s4,rfl,hS4,hv4,hb4⟩
    have hS4:=hS4.base hx.out.below
    have hb14:Below w1.heap.size w1 w4:=hx13.below.trans (hb4.mono hx13.size)
    have hbe4:=hS4.bel
    have hcT:∀ V,Below w4.heap.size w4 V→V.cell? ⟨w.heap.size,0,none⟩ = some (.int .i64 (m:Nat))∧V.cell? ⟨w.heap.size,1,none⟩ = some (.slice bb T.length cp):=fun V h=>by
     have f0:=((hb14.trans (h.mono hb14.size)).block _ (Array.getElem?_eq_some_iff.1 e0.out).1).trans e0.out
     exact ⟨by rw [World.cell?,f0];rfl,by rw [World.cell?,f0];rfl⟩
    have hzb:w4.heap[w.heap.size+1]? = some (.cells #[.int .i64 z0,.int .i64 z1] 64):=(hb14.block _ (Array.getElem?_eq_some_iff.1 e1.out).1).trans e1.out
    have qv:=fun (W:World) (h:Below w4.heap.size w4 W)=>variables_any W b o cap (htr.out.below (hbe4.trans (h.mono hbe4.size))) hc.out
    have hrl:∀ (l:List Int),L.SortedBel t (t.length - 1) l→l.Nodup∧(∀ v∈l,1≤v∧v≤128)∧l.length≤12:=fun l hl=>⟨L.sorted_nodup hl.sorted,fun v hv=>(sorted_var hc.out hl hv).range,by rw [hl.len hc.out (by have:=(check_ok hc.out).1;omega)];omega⟩
    have qt:=fun (W:World) (h:Below w4.heap.size w4 W) (vl:Value) (l:List Int) (hl:SlI W vl l) (hs:L.SortedBel t (t.length - 1) l)=>fnTheory_any (n:=m) (hvh.out.ext (hbe4.trans (h.mono hbe4.size))) hok.out hl (hrl l hs).1 (hrl l hs).2.1 (hrl l hs).2.2
    obtain ⟨φ,hφ⟩:∃ φ,φ = L.thφ T:=⟨_,rfl⟩
    rw [←hφ] at hv4 qt
    replace hφ:=Lib.hid hφ
    have hmade:=fun (W:World) (fb:Nat) (n1 n2 vl o:Value) (l:List Int) (hb:Below w4.heap.size w4 W) (hf:w4.heap.size≤fb) (hbox:W.heap[fb]? = some (.cells #[n1,n2] 48)) (hfn:FnAt W (.agg #[vl,o]) l φ) (hrow:∃ base,W.ownsRow base 3 1 vl l.length (l.map encZ))=>GB.made hS4 hv4 hb hf hbox hzb hfn hrow
    replace hmade:=Lib.hid hmade
    replace hzb:=Lib.hid hzb
    replace hcT:=Lib.hid hcT
    replace hbe4:=Lib.hid hbe4
    replace hb14:=Lib.hid hb14
    replace qv:=Lib.hid qv
    replace qt:=Lib.hid qt
    replace hrl:=Lib.hid hrl
    have hd4:=Lib.hid ((Below.refl w4.heap.size w4).drew)
    clear qc hb4 hx13 b0 b1 hb14 hS4 hv4
    obtain ⟨b0,b1⟩:=hcT.out w4 (Below.refl _ _)
    go_upto_region 6 with fail
    go_cut [10] from 32 to 35 (fun s10 wx=>∃ (fb:Nat) (vl vo:Value) (l:List Int),s10 = .pointer (some ⟨fb,0,none⟩)∧Hid (L.SortedBel t (t.length - 1) l)∧Hid (GB t sb 50820 root (w.heap.size+1) fb z0 z1 vl vo l φ s4 w wx))
    case first =>
     (refine wp_region_held_drew (S:=(fun V=>V.cell? ⟨w.heap.size,0,none⟩ = some (.int .i64 (m:Nat))∧V.cell? ⟨w.heap.size,1,none⟩ = some (.slice bb T.length cp))) (by kernel_rfl) ?_ (fun hHeld=>?_))
     ·exact hcT.out _ hd4.out
     (refine takeL (i:=0) (v:=?_) rfl (by kernel_rfl) (by kernel_rfl) (by kernel_rfl) (fun _ _ _ h=>h) (Or.inl ⟨by rfl,?_⟩) (by assumption) ?_)
     rotate_left
     ·(intro w hSw;(try dsimp only at hSw);go_simp;first | done | with_reducible rfl)
     (try simp only [Act.put,List.setIfInBounds_toArray,List.set_cons_zero,List.set_cons_succ])
     (refine takeL (i:=1) (v:=?_) rfl (by kernel_rfl) (by kernel_rfl) (by kernel_rfl) (fun _ _ _ h=>h) (Or.inl ⟨by rfl,?_⟩) (by assumption) ?_)
     rotate_left
     ·(intro w hSw;(try dsimp only at hSw);go_simp;first | done | with_reducible rfl)
     (try simp only [Act.put,List.setIfInBounds_toArray,List.set_cons_zero,List.set_cons_succ])
     refine wpAnyH_ready (rs:=[2,4]) (by kernel_rfl) (by simp) ?_
     refine consL2 rfl rfl (fun K hK=>?_) (fun K hK=>?_)
     ·(rw [if_pos (by rfl)])
      go_simp
      refine (qv.out _ hd4.out).mono ?_
      rintro e w5 ⟨vl,l,rfl,hrow,hsl,hb5⟩
      obtain ⟨lb,lc,rfl⟩:∃ ba cp,vl = .slice ba l.length cp:=by obtain ⟨ba,cp,h,_⟩:=owns_slI hrow;exact ⟨ba,cp,h⟩
      have hd5:=Lib.hid (hd4.out.trans (hb5.mono hd4.out.size))
      refine hK.out _ _ (hcT.out _ hd5.out) (fun hHeld=>?_)
      clear hK K hb5
      (try simp only [Act.put,List.setIfInBounds_toArray,List.set_cons_zero,List.set_cons_succ])
      refine wpAnyH_ready (rs:=[3,4]) (by kernel_rfl) (by simp) ?_
      refine consL2 rfl rfl (fun K hK=>?_) (fun K hK=>?_)
      ·(rw [if_pos (by rfl)])
       go_simp
       refine (qt.out _ hd5.out _ l (owns_slI hrow) hsl).mono ?_
       rintro e w6 ⟨v,rfl,hfn,⟨vo,rfl⟩,hby⟩
       obtain ⟨go,gn,gc,rfl⟩:∃ g N c,vo = .slice (some ⟨g,0,none⟩) N c:=by
        obtain ⟨_,g,c,h1,_⟩:=hfn
        simp only [Value.agg.injEq,Array.mk.injEq,List.cons.injEq,and_true] at h1
        exact ⟨g,_,c,h1.2⟩
       have hdt:=Lib.hid (hd5.out.trans (hby.mono hd5.out.size))
       have hrowt:=own_stays hrow (Stays.of_below hby)
       refine hK.out _ _ (hcT.out _ hdt.out) (fun hHeld=>?_)
       clear hK K
       (try simp only [Act.put,List.setIfInBounds_toArray,List.set_cons_zero,List.set_cons_succ])
       refine wpAnyH_ready (rs:=[4]) (by kernel_rfl) (by simp) ?_
       refine consL rfl (fun K hK=>?_)
       (rw [if_pos (by rfl)])
       go_simp
       have nb:=heap_alloc_new w6 (.cells #[.slice none 0 0,.slice none 0 0] 48)
       have hba:=(Below.refl w6.heap.size w6).alloc (Nat.le_refl _) (.cells #[.slice none 0 0,.slice none 0 0] 48)
       have hd7:=Lib.hid (hdt.out.trans (hba.mono hdt.out.size))
       have hfl:w4.heap.size≤w6.heap.size:=hdt.out.size
       obtain ⟨fb,hfb⟩:∃ fb,fb = w6.heap.size:=⟨_,rfl⟩
       rw [←hfb] at nb hfl ⊢
       replace hfb:=Lib.hid hfb
       obtain ⟨w7,hww⟩:∃ W,W = w6.alloc (.cells #[.slice none 0 0,.slice none 0 0] 48):=⟨_,rfl⟩
       rw [←hww] at nb hba hd7 ⊢
       replace hww:=Lib.hid hww
       refine hK.out _ _ (hcT.out _ hd7.out) (fun hHeld=>?_)
       clear hK K
       (try simp only [Act.put,List.setIfInBounds_toArray,List.set_cons_zero,List.set_cons_succ])
       replace hfn:=hfn.below hba
       have hrow7:=own_stays hrowt (Stays.of_below hba)
       have hM:=Lib.hid (hmade.out w7 fb _ _ _ _ l hd7.out hfl nb hfn ⟨_,hrow7⟩)
       have x0:w7.cell? ⟨fb,0,none⟩ = some (.slice none 0 0):=by rw [World.cell?,nb];rfl
       have x1:w7.cell? ⟨fb,1,none⟩ = some (.slice none 0 0):=by rw [World.cell?,nb];rfl
       have y0:w7.frozen? ⟨fb,0,none⟩ = false:=by simp [World.frozen?,nb]
       have y1:w7.frozen? ⟨fb,1,none⟩ = false:=by simp [World.frozen?,nb]
       replace nb:=Lib.hid nb
       (refine wpAnyH_ready (rs:=[5]) (by kernel_rfl) (by simp) ?_)
       (refine consL rfl (fun K hK=>?_))
       ((rw [if_pos (by rfl)]);go_simp;refine hK.out _ _ (hcT.out _ hM.out.2) (fun hHeld=>?_))
       (clear hK K)
       (try simp only [Act.put,List.setIfInBounds_toArray,List.set_cons_zero,List.set_cons_succ])
       (refine wpAnyH_done (by kernel_rfl) ?_ _)
       go_wp2_with fail
       go_meet
       exact ⟨fb,_,_,l,rfl,Lib.hid hsl,Lib.hid hM.out.1⟩
      ·(rw [if_pos (by rfl)])
       go_simp
       have nb:=heap_alloc_new w5 (.cells #[.slice none 0 0,.slice none 0 0] 48)
       have hba:=(Below.refl w5.heap.size w5).alloc (Nat.le_refl _) (.cells #[.slice none 0 0,.slice none 0 0] 48)
       have hd6:=Lib.hid (hd5.out.trans (hba.mono hd5.out.size))
       have hfl:w4.heap.size≤w5.heap.size:=hd5.out.size
       obtain ⟨fb,hfb⟩:∃ fb,fb = w5.heap.size:=⟨_,rfl⟩
       rw [←hfb] at nb hfl ⊢
       replace hfb:=Lib.hid hfb
       obtain ⟨w6,hww⟩:∃ W,W = w5.alloc (.cells #[.slice none 0 0,.slice none 0 0] 48):=⟨_,rfl⟩
       rw [←hww] at nb hba hd6 ⊢
       replace hww:=Lib.hid hww
       refine hK.out _ _ (hcT.out _ hd6.out) (fun hHeld=>?_)
       clear hK K
       (try simp only [Act.put,List.setIfInBounds_toArray,List.set_cons_zero,List.set_cons_succ])
       have hrow6:=own_stays hrow (Stays.of_below hba)
       refine wpAnyH_ready (rs:=[3]) (by kernel_rfl) (by simp) ?_
       refine consL rfl (fun K hK=>?_)
       (rw [if_pos (by rfl)])
       go_simp
       refine (qt.out _ hd6.out _ l (owns_slI hrow6) hsl).mono ?_
       rintro e w7 ⟨v,rfl,hfn,⟨vo,rfl⟩,hby⟩
       obtain ⟨go,gn,gc,rfl⟩:∃ g N c,vo = .slice (some ⟨g,0,none⟩) N c:=by
        obtain ⟨_,g,c,h1,_⟩:=hfn
        simp only [Value.agg.injEq,Array.mk.injEq,List.cons.injEq,and_true] at h1
        exact ⟨g,_,c,h1.2⟩
       have hdt:=Lib.hid (hd6.out.trans (hby.mono hd6.out.size))
       have hrowt:=own_stays hrow6 (Stays.of_below hby)
       refine hK.out _ _ (hcT.out _ hdt.out) (fun hHeld=>?_)
       clear hK K
       (try simp only [Act.put,List.setIfInBounds_toArray,List.set_cons_zero,List.set_cons_succ])
       replace nb:=(hby.block _ (Array.getElem?_eq_some_iff.1 nb).1).trans nb
       have hM:=Lib.hid (hmade.out w7 fb _ _ _ _ l hdt.out hfl nb hfn ⟨_,hrowt⟩)
       have x0:w7.cell? ⟨fb,0,none⟩ = some (.slice none 0 0):=by rw [World.cell?,nb];rfl
       have x1:w7.cell? ⟨fb,1,none⟩ = some (.slice none 0 0):=by rw [World.cell?,nb];rfl
       have y0:w7.frozen? ⟨fb,0,none⟩ = false:=by simp [World.frozen?,nb]
       have y1:w7.frozen? ⟨fb,1,none⟩ = false:=by simp [World.frozen?,nb]
       replace nb:=Lib.hid nb
       (refine wpAnyH_ready (rs:=[5]) (by kernel_rfl) (by simp) ?_)
       (refine consL rfl (fun K hK=>?_))
       ((rw [if_pos (by rfl)]);go_simp;refine hK.out _ _ (hcT.out _ hM.out.2) (fun hHeld=>?_))
       (clear hK K)
       (try simp only [Act.put,List.setIfInBounds_toArray,List.set_cons_zero,List.set_cons_succ])
       (refine wpAnyH_done (by kernel_rfl) ?_ _)
       go_wp2_with fail
       go_meet
       exact ⟨fb,_,_,l,rfl,Lib.hid hsl,Lib.hid hM.out.1⟩
     ·(rw [if_pos (by rfl)])
      go_simp
      have nb:((w4.alloc (.cells #[.slice none 0 0,.slice none 0 0] 48)).drew).heap[w4.heap.size]? = some (.cells #[.slice none 0 0,.slice none 0 0] 48):=heap_alloc_new w4 (.cells #[.slice none 0 0,.slice none 0 0] 48)
      have hba:=((Below.refl w4.heap.size w4).alloc (Nat.le_refl _) (.cells #[.slice none 0 0,.slice none 0 0] 48)).drew
      have hd5a:=Lib.hid hba
      obtain ⟨fb,hfb⟩:∃ fb,fb = w4.heap.size:=⟨_,rfl⟩
      have hfl:w4.heap.size≤fb:=Nat.le_of_eq hfb.symm
      rw [←hfb] at nb ⊢
      replace hfb:=Lib.hid hfb
      obtain ⟨w5a,hww⟩:∃ W,W = (w4.alloc (.cells #[.slice none 0 0,.slice none 0 0] 48)).drew:=⟨_,rfl⟩
      rw [←hww] at nb hba hd5a ⊢
      replace hww:=Lib.hid hww
      refine hK.out _ _ (hcT.out _ hd5a.out) (fun hHeld=>?_)
      clear hK K
      (try simp only [Act.put,List.setIfInBounds_toArray,List.set_cons_zero,List.set_cons_succ])
      refine wpAnyH_ready (rs:=[2]) (by kernel_rfl) (by simp) ?_
      refine consL rfl (fun K hK=>?_)
      (rw [if_pos (by rfl)])
      go_simp
      refine (qv.out _ hd5a.out).mono ?_
      rintro e w5 ⟨vl,l,rfl,hrow,hsl,hb5⟩
      obtain ⟨lb,lc,rfl⟩:∃ ba cp,vl = .slice ba l.length cp:=by obtain ⟨ba,cp,h,_⟩:=owns_slI hrow;exact ⟨ba,cp,h⟩
      have hd5:=Lib.hid (hd5a.out.trans (hb5.mono hd5a.out.size))
      refine hK.out _ _ (hcT.out _ hd5.out) (fun hHeld=>?_)
      clear hK K
      (try simp only [Act.put,List.setIfInBounds_toArray,List.set_cons_zero,List.set_cons_succ])
      replace nb:=(hb5.block _ (Array.getElem?_eq_some_iff.1 nb).1).trans nb
      refine wpAnyH_ready (rs:=[3]) (by kernel_rfl) (by simp) ?_
      refine consL rfl (fun K hK=>?_)
      (rw [if_pos (by rfl)])
      go_simp
      refine (qt.out _ hd5.out _ l (owns_slI hrow) hsl).mono ?_
      rintro e w7 ⟨v,rfl,hfn,⟨vo,rfl⟩,hby⟩
      obtain ⟨go,gn,gc,rfl⟩:∃ g N c,vo = .slice (some ⟨g,0,none⟩) N c:=by
       obtain ⟨_,g,c,h1,_⟩:=hfn
       simp only [Value.agg.injEq,Array.mk.injEq,List.cons.injEq,and_true] at h1
       exact ⟨g,_,c,h1.2⟩
      have hdt:=Lib.hid (hd5.out.trans (hby.mono hd5.out.size))
      have hrowt:=own_stays hrow (Stays.of_below hby)
      refine hK.out _ _ (hcT.out _ hdt.out) (fun hHeld=>?_)
      clear hK K
      (try simp only [Act.put,List.setIfInBounds_toArray,List.set_cons_zero,List.set_cons_succ])
      replace nb:=(hby.block _ (Array.getElem?_eq_some_iff.1 nb).1).trans nb
      have hM:=Lib.hid (hmade.out w7 fb _ _ _ _ l hdt.out hfl nb hfn ⟨_,hrowt⟩)
      have x0:w7.cell? ⟨fb,0,none⟩ = some (.slice none 0 0):=by rw [World.cell?,nb];rfl
      have x1:w7.cell? ⟨fb,1,none⟩ = some (.slice none 0 0):=by rw [World.cell?,nb];rfl
      have y0:w7.frozen? ⟨fb,0,none⟩ = false:=by simp [World.frozen?,nb]
      have y1:w7.frozen? ⟨fb,1,none⟩ = false:=by simp [World.frozen?,nb]
      replace nb:=Lib.hid nb
      (refine wpAnyH_ready (rs:=[5]) (by kernel_rfl) (by simp) ?_)
      (refine consL rfl (fun K hK=>?_))
      ((rw [if_pos (by rfl)]);go_simp;refine hK.out _ _ (hcT.out _ hM.out.2) (fun hHeld=>?_))
      (clear hK K)
      (try simp only [Act.put,List.setIfInBounds_toArray,List.set_cons_zero,List.set_cons_succ])
      (refine wpAnyH_done (by kernel_rfl) ?_ _)
      go_wp2_with fail
      go_meet
      exact ⟨fb,_,_,l,rfl,Lib.hid hsl,Lib.hid hM.out.1⟩
    case rest =>
     obtain ⟨fb,vl,vo,l,rfl,hsl,hG⟩:=hcut
     obtain ⟨lb,lc,rfl⟩:∃ ba cp,vl = .slice ba l.length cp:=by
      obtain ⟨_,hr⟩:=hG.out.row
      obtain ⟨ba,cp,h,_⟩:=owns_slI hr
      exact ⟨ba,cp,h⟩
     obtain ⟨go,gn,gc,rfl⟩:∃ g N c,vo = .slice (some ⟨g,0,none⟩) N c:=by
      obtain ⟨_,g,c,h1,_⟩:=hG.out.fn
      simp only [Value.agg.injEq,Array.mk.injEq,List.cons.injEq,and_true] at h1
      exact ⟨g,_,c,h1.2⟩
     have hmem:∀ x,x∈l↔VarOf t x:=fun x=>(hsl.out.mem x).trans (bel_root hc.out x)
     obtain ⟨hnd,hrr,hl12⟩:=hrl.out l hsl.out
     obtain ⟨y,hy⟩:∃ y:Int,wrap64 (-z0) = y:=⟨_,rfl⟩
     have hyv:y = -z0∨(z0 = -9223372036854775808∧y = z0):=by
      have:=hz.out
      unfold wrap64 at hy
      omega
     have hin:=fun (s:St) (k:Nat) (W:World) (h:GB t sb k root (w.heap.size+1) fb z0 z1 (.slice lb l.length lc) (.slice (some ⟨go,0,none⟩) gn gc) l φ s w W) (x:Int)=>in_any (by obtain ⟨_,hr⟩:=h.row;exact owns_slI hr) h.cells.1.1 hl12 x
     have hnat0:¬ z0∈l→¬ y∈l→¬ VarOf t (z0.natAbs:Int):=fun h1 h2 h3=>by
      have:=h3.range
      rcases hyv with h | h
      ·rcases (by omega:(z0.natAbs:Int) = z0∨(z0.natAbs:Int) = y) with e | e
       ·exact h1 ((hmem _).2 (e ▸ h3))
       ·exact h2 ((hmem _).2 (e ▸ h3))
      ·omega
     have hnatA:z0∈l→(z0.natAbs:Int) = z0∧decide (0 < z0) = true:=fun h=>by
      have:=hrr _ h
      exact ⟨by omega,decide_eq_true (by omega)⟩
     have hnatB:y∈l→¬ z0∈l→(z0.natAbs:Int) = y∧decide (0 < z0) = false∧z0 = -y:=fun h h'=>by
      have:=hrr _ h
      rcases hyv with h1 | h1
      ·exact ⟨by omega,decide_eq_false (by omega),by omega⟩
      ·omega
     replace hmem:=Lib.hid hmem
     replace hnat0:=Lib.hid hnat0
     replace hnatA:=Lib.hid hnatA
     replace hnatB:=Lib.hid hnatB
     replace hyv:=Lib.hid hyv
     replace hin:=Lib.hid hin
     replace hrr:=Lib.hid hrr
     replace hnd:=Lib.hid hnd
     clear hl6 hfew h30
     by_cases hz0:z0∈l
     ·obtain ⟨ha1,ha2⟩:=hnatA.out hz0
      have hV0:VarOf t (z0.natAbs:Int):=by rw [ha1];exact (hmem.out z0).1 hz0
      have hd0:decide (z0∈l) = true:=decide_eq_true hz0
      have qx:=Given_any (k':=46000) hG.out.sl hG.out.val hV0 (by omega)
      rw [ha1,ha2] at qx
      replace hz0:=Lib.hid hz0
      replace hV0:=Lib.hid hV0
      replace hd0:=Lib.hid hd0
      replace ha1:=Lib.hid ha1
      replace ha2:=Lib.hid ha2
      obtain ⟨⟨p0,p1⟩,p2,p3⟩:=hG.out.cells
      go_wp2_with fail
      refine qx.mono ?_
      rintro e w10 ⟨r1,s10,rfl,hS10,hs10,hv10,_,hst10⟩
      replace hG:=Lib.hid (hG.out.stays hS10 (hG.out.val.step hG.out.sl.inv hs10) hst10)
      replace hv10:=Lib.hid hv10
      clear qx hS10 hs10 hst10
      clear p0 p1 p2 p3
      obtain ⟨⟨p0,p1⟩,p2,p3⟩:=hG.out.cells
      have qi0:=hin.out _ _ _ hG.out z0
      rw [hd0.out] at qi0
      go_wp2_with fail
      refine qi0.mono ?_
      rintro e w11 ⟨rfl,hbi0⟩
      replace hG:=Lib.hid (hG.out.below hbi0.below)
      clear qi0 hbi0
      clear p0 p1 p2 p3
      obtain ⟨⟨p0,p1⟩,p2,p3⟩:=hG.out.cells
      have qf0:=fun W=>full_any (some ⟨b,o,none⟩) t.length cap W
      go_wp2_with fail
      refine (qf0 _).mono ?_
      rintro e w13 ⟨rfl,rfl⟩
      clear qf0
      have qg:=fnGiven_any hG.out.fn hnd.out hrr.out hl12 (z:=z0) (v:=z0) (b:=true) hz0.out (Or.inl ⟨rfl,rfl⟩)
      go_wp2_with fail
      refine qg.mono ?_
      rintro e w14 ⟨vg,rfl,hfg,hbg⟩
      replace hG:=Lib.hid (hG.out.below hbg)
      clear qg hbg
      clear p0 p1 p2 p3
      obtain ⟨⟨p0,p1⟩,p2,p3⟩:=hG.out.cells
      have qs:=stands_any hG.out.sl hv10.out hfg hnd.out hrr.out hl12
      replace hfg:=Lib.hid hfg
      go_wp2_with fail
      refine qs.mono ?_
      rintro e w15 ⟨rfl,hbs⟩
      replace hG:=Lib.hid (hG.out.below hbs)
      clear qs hbs hfg hv10
      clear p0 p1 p2 p3
      obtain ⟨⟨p0,p1⟩,p2,p3⟩:=hG.out.cells
      by_cases hz1:z1∈l
      ·have hV1:=(hmem.out z1).1 hz1
       have qx:=Exists_any (k':=20000) hG.out.sl hG.out.val hV1 (by omega)
       have hd1:decide (z1∈l) = true:=decide_eq_true hz1
       replace hz1:=Lib.hid hz1
       replace hV1:=Lib.hid hV1
       replace hd1:=Lib.hid hd1
       go_wp2_with fail
       refine qx.mono ?_
       rintro e w20 ⟨r2,s20,rfl,hS20,hs20,hv20,_,hst20⟩
       replace hG:=Lib.hid (hG.out.stays hS20 (hG.out.val.step hG.out.sl.inv hs20) hst20)
       replace hv20:=Lib.hid hv20
       clear qx hS20 hs20 hst20
       clear p0 p1 p2 p3
       obtain ⟨⟨p0,p1⟩,p2,p3⟩:=hG.out.cells
       have qi2:=hin.out _ _ _ hG.out z1
       rw [hd1.out] at qi2
       go_wp2_with fail
       refine qi2.mono ?_
       rintro e w21 ⟨rfl,hbi2⟩
       replace hG:=Lib.hid (hG.out.below hbi2.below)
       clear qi2 hbi2
       clear p0 p1 p2 p3
       obtain ⟨⟨p0,p1⟩,p2,p3⟩:=hG.out.cells
       have qf2:=fun W=>full_any (some ⟨b,o,none⟩) t.length cap W
       go_wp2_with fail
       refine (qf2 _).mono ?_
       rintro e w22 ⟨rfl,rfl⟩
       clear qf2
       have qg:=fnExists_any hG.out.fn hnd.out hrr.out hl12 (v:=z1) hz1.out
       go_wp2_with fail
       refine qg.mono ?_
       rintro e w23 ⟨vg,rfl,hfg,hbg⟩
       replace hG:=Lib.hid (hG.out.below hbg)
       clear qg hbg
       clear p0 p1 p2 p3
       obtain ⟨⟨p0,p1⟩,p2,p3⟩:=hG.out.cells
       have qs:=stands_any hG.out.sl hv20.out hfg hnd.out hrr.out hl12
       replace hfg:=Lib.hid hfg
       go_wp2_with fail
       refine qs.mono ?_
       rintro e w24 ⟨rfl,hbs⟩
       replace hG:=Lib.hid (hG.out.below hbs)
       clear qs hbs hfg hv20
       clear p0 p1 p2 p3
       obtain ⟨⟨p0,p1⟩,p2,p3⟩:=hG.out.cells
       have qs:=stands_any hG.out.sl hG.out.val hG.out.fn hnd.out hrr.out hl12
       go_wp2_with fail
       refine qs.mono ?_
       rintro e w25a ⟨rfl,hbs⟩
       replace hG:=Lib.hid (hG.out.below hbs)
       clear qs hbs
       clear p0 p1 p2 p3
       have qw:=hw.out _ hG.out.sl.bel
       go_wp2_with fail
       refine qw.mono ?_
       rintro e w25b ⟨rfl,hbw⟩
       go_wp2_with fail
       go_ret
       exact ⟨rfl,hG.out.sl.bel.trans (hbw.mono hG.out.sl.bel.size)⟩
      ·have hV1:¬ VarOf t z1:=fun h=>hz1 ((hmem.out z1).2 h)
       have qx:=exists_bad hG.out.sl hG.out.val hV1
       have hd1:decide (z1∈l) = false:=decide_eq_false hz1
       replace hz1:=Lib.hid hz1
       replace hV1:=Lib.hid hV1
       replace hd1:=Lib.hid hd1
       go_wp2_with fail
       refine qx.mono ?_
       rintro e w20 ⟨rfl,hb20⟩
       replace hG:=Lib.hid (hG.out.below hb20)
       clear qx hb20
       clear p0 p1 p2 p3
       obtain ⟨⟨p0,p1⟩,p2,p3⟩:=hG.out.cells
       have qi2:=hin.out _ _ _ hG.out z1
       rw [hd1.out] at qi2
       go_wp2_with fail
       refine qi2.mono ?_
       rintro e w21 ⟨rfl,hbi2⟩
       replace hG:=Lib.hid (hG.out.below hbi2.below)
       clear qi2 hbi2
       clear p0 p1 p2 p3
       obtain ⟨⟨p0,p1⟩,p2,p3⟩:=hG.out.cells
       have qs:=stands_any hG.out.sl hG.out.val hG.out.fn hnd.out hrr.out hl12
       go_wp2_with fail
       refine qs.mono ?_
       rintro e w25a ⟨rfl,hbs⟩
       replace hG:=Lib.hid (hG.out.below hbs)
       clear qs hbs
       clear p0 p1 p2 p3
       have qw:=hw.out _ hG.out.sl.bel
       go_wp2_with fail
       refine qw.mono ?_
       rintro e w25b ⟨rfl,hbw⟩
       go_wp2_with fail
       go_ret
       exact ⟨rfl,hG.out.sl.bel.trans (hbw.mono hG.out.sl.bel.size)⟩
     ·by_cases hy0:y∈l
      ·obtain ⟨ha1,ha2,ha3⟩:=hnatB.out hy0 hz0
       have hV0:VarOf t (z0.natAbs:Int):=by rw [ha1];exact (hmem.out y).1 hy0
       have hd0:decide (z0∈l) = false:=decide_eq_false hz0
       have hdy:decide (y∈l) = true:=decide_eq_true hy0
       replace hy0:=Lib.hid hy0
       replace hdy:=Lib.hid hdy
       replace ha3:=Lib.hid ha3
       have qx:=Given_any (k':=46000) hG.out.sl hG.out.val hV0 (by omega)
       rw [ha1,ha2] at qx
       replace hz0:=Lib.hid hz0
       replace hV0:=Lib.hid hV0
       replace hd0:=Lib.hid hd0
       replace ha1:=Lib.hid ha1
       replace ha2:=Lib.hid ha2
       obtain ⟨⟨p0,p1⟩,p2,p3⟩:=hG.out.cells
       go_wp2_with fail
       refine qx.mono ?_
       rintro e w10 ⟨r1,s10,rfl,hS10,hs10,hv10,_,hst10⟩
       replace hG:=Lib.hid (hG.out.stays hS10 (hG.out.val.step hG.out.sl.inv hs10) hst10)
       replace hv10:=Lib.hid hv10
       clear qx hS10 hs10 hst10
       clear p0 p1 p2 p3
       obtain ⟨⟨p0,p1⟩,p2,p3⟩:=hG.out.cells
       have qi0:=hin.out _ _ _ hG.out z0
       rw [hd0.out] at qi0
       go_wp2_with fail
       refine qi0.mono ?_
       rintro e w11 ⟨rfl,hbi0⟩
       replace hG:=Lib.hid (hG.out.below hbi0.below)
       clear qi0 hbi0
       clear p0 p1 p2 p3
       obtain ⟨⟨p0,p1⟩,p2,p3⟩:=hG.out.cells
       have qi1:=hin.out _ _ _ hG.out y
       rw [hdy.out] at qi1
       go_wp2_with fail
       refine qi1.mono ?_
       rintro e w12 ⟨rfl,hbi1⟩
       replace hG:=Lib.hid (hG.out.below hbi1.below)
       clear qi1 hbi1
       clear p0 p1 p2 p3
       obtain ⟨⟨p0,p1⟩,p2,p3⟩:=hG.out.cells
       have qf0:=fun W=>full_any (some ⟨b,o,none⟩) t.length cap W
       go_wp2_with fail
       refine (qf0 _).mono ?_
       rintro e w13 ⟨rfl,rfl⟩
       clear qf0
       have qg:=fnGiven_any hG.out.fn hnd.out hrr.out hl12 (z:=z0) (v:=y) (b:=false) hy0.out (Or.inr ⟨ha3.out,rfl⟩)
       go_wp2_with fail
       refine qg.mono ?_
       rintro e w14 ⟨vg,rfl,hfg,hbg⟩
       replace hG:=Lib.hid (hG.out.below hbg)
       clear qg hbg
       clear p0 p1 p2 p3
       obtain ⟨⟨p0,p1⟩,p2,p3⟩:=hG.out.cells
       have qs:=stands_any hG.out.sl hv10.out hfg hnd.out hrr.out hl12
       replace hfg:=Lib.hid hfg
       go_wp2_with fail
       refine qs.mono ?_
       rintro e w15 ⟨rfl,hbs⟩
       replace hG:=Lib.hid (hG.out.below hbs)
       clear qs hbs hfg hv10
       clear p0 p1 p2 p3
       obtain ⟨⟨p0,p1⟩,p2,p3⟩:=hG.out.cells
       by_cases hz1:z1∈l
       ·have hV1:=(hmem.out z1).1 hz1
        have qx:=Exists_any (k':=20000) hG.out.sl hG.out.val hV1 (by omega)
        have hd1:decide (z1∈l) = true:=decide_eq_true hz1
        replace hz1:=Lib.hid hz1
        replace hV1:=Lib.hid hV1
        replace hd1:=Lib.hid hd1
        go_wp2_with fail
        refine qx.mono ?_
        rintro e w20 ⟨r2,s20,rfl,hS20,hs20,hv20,_,hst20⟩
        replace hG:=Lib.hid (hG.out.stays hS20 (hG.out.val.step hG.out.sl.inv hs20) hst20)
        replace hv20:=Lib.hid hv20
        clear qx hS20 hs20 hst20
        clear p0 p1 p2 p3
        obtain ⟨⟨p0,p1⟩,p2,p3⟩:=hG.out.cells
        have qi2:=hin.out _ _ _ hG.out z1
        rw [hd1.out] at qi2
        go_wp2_with fail
        refine qi2.mono ?_
        rintro e w21 ⟨rfl,hbi2⟩
        replace hG:=Lib.hid (hG.out.below hbi2.below)
        clear qi2 hbi2
        clear p0 p1 p2 p3
        obtain ⟨⟨p0,p1⟩,p2,p3⟩:=hG.out.cells
        have qf2:=fun W=>full_any (some ⟨b,o,none⟩) t.length cap W
        go_wp2_with fail
        refine (qf2 _).mono ?_
        rintro e w22 ⟨rfl,rfl⟩
        clear qf2
        have qg:=fnExists_any hG.out.fn hnd.out hrr.out hl12 (v:=z1) hz1.out
        go_wp2_with fail
        refine qg.mono ?_
        rintro e w23 ⟨vg,rfl,hfg,hbg⟩
        replace hG:=Lib.hid (hG.out.below hbg)
        clear qg hbg
        clear p0 p1 p2 p3
        obtain ⟨⟨p0,p1⟩,p2,p3⟩:=hG.out.cells
        have qs:=stands_any hG.out.sl hv20.out hfg hnd.out hrr.out hl12
        replace hfg:=Lib.hid hfg
        go_wp2_with fail
        refine qs.mono ?_
        rintro e w24 ⟨rfl,hbs⟩
        replace hG:=Lib.hid (hG.out.below hbs)
        clear qs hbs hfg hv20
        clear p0 p1 p2 p3
        obtain ⟨⟨p0,p1⟩,p2,p3⟩:=hG.out.cells
        have qs:=stands_any hG.out.sl hG.out.val hG.out.fn hnd.out hrr.out hl12
        go_wp2_with fail
        refine qs.mono ?_
        rintro e w25a ⟨rfl,hbs⟩
        replace hG:=Lib.hid (hG.out.below hbs)
        clear qs hbs
        clear p0 p1 p2 p3
        have qw:=hw.out _ hG.out.sl.bel
        go_wp2_with fail
        refine qw.mono ?_
        rintro e w25b ⟨rfl,hbw⟩
        go_wp2_with fail
        go_ret
        exact ⟨rfl,hG.out.sl.bel.trans (hbw.mono hG.out.sl.bel.size)⟩
       ·have hV1:¬ VarOf t z1:=fun h=>hz1 ((hmem.out z1).2 h)
        have qx:=exists_bad hG.out.sl hG.out.val hV1
        have hd1:decide (z1∈l) = false:=decide_eq_false hz1
        replace hz1:=Lib.hid hz1
        replace hV1:=Lib.hid hV1
        replace hd1:=Lib.hid hd1
        go_wp2_with fail
        refine qx.mono ?_
        rintro e w20 ⟨rfl,hb20⟩
        replace hG:=Lib.hid (hG.out.below hb20)
        clear qx hb20
        clear p0 p1 p2 p3
        obtain ⟨⟨p0,p1⟩,p2,p3⟩:=hG.out.cells
        have qi2:=hin.out _ _ _ hG.out z1
        rw [hd1.out] at qi2
        go_wp2_with fail
        refine qi2.mono ?_
        rintro e w21 ⟨rfl,hbi2⟩
        replace hG:=Lib.hid (hG.out.below hbi2.below)
        clear qi2 hbi2
        clear p0 p1 p2 p3
        obtain ⟨⟨p0,p1⟩,p2,p3⟩:=hG.out.cells
        have qs:=stands_any hG.out.sl hG.out.val hG.out.fn hnd.out hrr.out hl12
        go_wp2_with fail
        refine qs.mono ?_
        rintro e w25a ⟨rfl,hbs⟩
        replace hG:=Lib.hid (hG.out.below hbs)
        clear qs hbs
        clear p0 p1 p2 p3
        have qw:=hw.out _ hG.out.sl.bel
        go_wp2_with fail
        refine qw.mono ?_
        rintro e w25b ⟨rfl,hbw⟩
        go_wp2_with fail
        go_ret
        exact ⟨rfl,hG.out.sl.bel.trans (hbw.mono hG.out.sl.bel.size)⟩
      ·have hV0:=hnat0.out hz0 hy0
       have hd0:decide (z0∈l) = false:=decide_eq_false hz0
       have hdy:decide (y∈l) = false:=decide_eq_false hy0
       have qx:=given_bad hG.out.sl hG.out.val hV0
       replace hz0:=Lib.hid hz0
       replace hy0:=Lib.hid hy0
       replace hV0:=Lib.hid hV0
       replace hd0:=Lib.hid hd0
       replace hdy:=Lib.hid hdy
       obtain ⟨⟨p0,p1⟩,p2,p3⟩:=hG.out.cells
       go_wp2_with fail
       refine qx.mono ?_
       rintro e w10 ⟨rfl,hb10⟩
       replace hG:=Lib.hid (hG.out.below hb10)
       clear qx hb10
       clear p0 p1 p2 p3
       obtain ⟨⟨p0,p1⟩,p2,p3⟩:=hG.out.cells
       have qi0:=hin.out _ _ _ hG.out z0
       rw [hd0.out] at qi0
       go_wp2_with fail
       refine qi0.mono ?_
       rintro e w11 ⟨rfl,hbi0⟩
       replace hG:=Lib.hid (hG.out.below hbi0.below)
       clear qi0 hbi0
       clear p0 p1 p2 p3
       obtain ⟨⟨p0,p1⟩,p2,p3⟩:=hG.out.cells
       have qi1:=hin.out _ _ _ hG.out y
       rw [hdy.out] at qi1
       go_wp2_with fail
       refine qi1.mono ?_
       rintro e w12 ⟨rfl,hbi1⟩
       replace hG:=Lib.hid (hG.out.below hbi1.below)
       clear qi1 hbi1
       clear p0 p1 p2 p3
       obtain ⟨⟨p0,p1⟩,p2,p3⟩:=hG.out.cells
       by_cases hz1:z1∈l
       ·have hV1:=(hmem.out z1).1 hz1
        have qx:=Exists_any (k':=20000) hG.out.sl hG.out.val hV1 (by omega)
        have hd1:decide (z1∈l) = true:=decide_eq_true hz1
        replace hz1:=Lib.hid hz1
        replace hV1:=Lib.hid hV1
        replace hd1:=Lib.hid hd1
        go_wp2_with fail
        refine qx.mono ?_
        rintro e w20 ⟨r2,s20,rfl,hS20,hs20,hv20,_,hst20⟩
        replace hG:=Lib.hid (hG.out.stays hS20 (hG.out.val.step hG.out.sl.inv hs20) hst20)
        replace hv20:=Lib.hid hv20
        clear qx hS20 hs20 hst20
        clear p0 p1 p2 p3
        obtain ⟨⟨p0,p1⟩,p2,p3⟩:=hG.out.cells
        have qi2:=hin.out _ _ _ hG.out z1
        rw [hd1.out] at qi2
        go_wp2_with fail
        refine qi2.mono ?_
        rintro e w21 ⟨rfl,hbi2⟩
        replace hG:=Lib.hid (hG.out.below hbi2.below)
        clear qi2 hbi2
        clear p0 p1 p2 p3
        obtain ⟨⟨p0,p1⟩,p2,p3⟩:=hG.out.cells
        have qf2:=fun W=>full_any (some ⟨b,o,none⟩) t.length cap W
        go_wp2_with fail
        refine (qf2 _).mono ?_
        rintro e w22 ⟨rfl,rfl⟩
        clear qf2
        have qg:=fnExists_any hG.out.fn hnd.out hrr.out hl12 (v:=z1) hz1.out
        go_wp2_with fail
        refine qg.mono ?_
        rintro e w23 ⟨vg,rfl,hfg,hbg⟩
        replace hG:=Lib.hid (hG.out.below hbg)
        clear qg hbg
        clear p0 p1 p2 p3
        obtain ⟨⟨p0,p1⟩,p2,p3⟩:=hG.out.cells
        have qs:=stands_any hG.out.sl hv20.out hfg hnd.out hrr.out hl12
        replace hfg:=Lib.hid hfg
        go_wp2_with fail
        refine qs.mono ?_
        rintro e w24 ⟨rfl,hbs⟩
        replace hG:=Lib.hid (hG.out.below hbs)
        clear qs hbs hfg hv20
        clear p0 p1 p2 p3
        obtain ⟨⟨p0,p1⟩,p2,p3⟩:=hG.out.cells
        have qs:=stands_any hG.out.sl hG.out.val hG.out.fn hnd.out hrr.out hl12
        go_wp2_with fail
        refine qs.mono ?_
        rintro e w25a ⟨rfl,hbs⟩
        replace hG:=Lib.hid (hG.out.below hbs)
        clear qs hbs
        clear p0 p1 p2 p3
        have qw:=hw.out _ hG.out.sl.bel
        go_wp2_with fail
        refine qw.mono ?_
        rintro e w25b ⟨rfl,hbw⟩
        go_wp2_with fail
        go_ret
        exact ⟨rfl,hG.out.sl.bel.trans (hbw.mono hG.out.sl.bel.size)⟩
       ·have hV1:¬ VarOf t z1:=fun h=>hz1 ((hmem.out z1).2 h)
        have qx:=exists_bad hG.out.sl hG.out.val hV1
        have hd1:decide (z1∈l) = false:=decide_eq_false hz1
        replace hz1:=Lib.hid hz1
        replace hV1:=Lib.hid hV1
        replace hd1:=Lib.hid hd1
        go_wp2_with fail
        refine qx.mono ?_
        rintro e w20 ⟨rfl,hb20⟩
        replace hG:=Lib.hid (hG.out.below hb20)
        clear qx hb20
        clear p0 p1 p2 p3
        obtain ⟨⟨p0,p1⟩,p2,p3⟩:=hG.out.cells
        have qi2:=hin.out _ _ _ hG.out z1
        rw [hd1.out] at qi2
        go_wp2_with fail
        refine qi2.mono ?_
        rintro e w21 ⟨rfl,hbi2⟩
        replace hG:=Lib.hid (hG.out.below hbi2.below)
        clear qi2 hbi2
        clear p0 p1 p2 p3
        obtain ⟨⟨p0,p1⟩,p2,p3⟩:=hG.out.cells
        have qs:=stands_any hG.out.sl hG.out.val hG.out.fn hnd.out hrr.out hl12
        go_wp2_with fail
        refine qs.mono ?_
        rintro e w25a ⟨rfl,hbs⟩
        replace hG:=Lib.hid (hG.out.below hbs)
        clear qs hbs
        clear p0 p1 p2 p3
        have qw:=hw.out _ hG.out.sl.bel
        go_wp2_with fail
        refine qw.mono ?_
        rintro e w25b ⟨rfl,hbw⟩
        go_wp2_with fail
        go_ret
        exact ⟨rfl,hG.out.sl.bel.trans (hbw.mono hG.out.sl.bel.size)⟩
   ·replace hE:=Lib.hid hE
    go_enter Tryz.func5,Tryz.ntmps5
    go_wp2_with fail
    rw [←hw1]
    replace hw1:=Lib.hid hw1
    go_wp2_with fail
    refine ql.mono ?_
    rintro e w2 ⟨rfl,hx2⟩
    have q:=qf.out w2 hx2
    have a0:=hx2.cell c0
    have a1:=hx2.cell c1
    clear ql c0 c1
    go_wp2_with fail
    refine q.mono ?_
    rintro e w3 ⟨rfl,hx3⟩
    have hx:=(hx1.out.trans hx2).trans hx3
    have b0:=hx3.cell a0
    have b1:=hx3.cell a1
    have qc:=compile_no (hvh.out.ext hx.below) ba cap (ht.imp id fun ⟨b,o,e,h⟩=>⟨b,o,e,h.ext hx⟩) hE.out
    have hd:(compE n T t != 0) = true:=by simpa using hE.out
    generalize compE n T t = zE at *
    clear q a0 a1 hx2 hx3
    go_wp2_with fail
    refine qc.mono ?_
    rintro e w4 ⟨rfl,hb4⟩
    have hbe:=hx.below.trans (hb4.mono hx.size)
    have qw:=hw.out _ hbe
    clear qc
    go_wp2_with fail
    refine qw.mono ?_
    rintro e w5 ⟨rfl,hb5⟩
    go_wp2_with fail
    go_ret
    exact ⟨rfl,hbe.trans (hb5.mono hbe.size)⟩
end Go.Proofs.YtmnjakejhbpkoaaGreatDoor
