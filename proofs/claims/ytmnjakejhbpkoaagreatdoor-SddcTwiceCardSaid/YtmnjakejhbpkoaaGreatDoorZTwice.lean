import Derived.Test.YtmnjakejhbpkoaaGreatDoorZTwo
import Derived.Deep.CutRange
set_option linter.unusedSimpArgs false
set_option linter.unusedVariables false
namespace Go.Proofs.YtmnjakejhbpkoaaGreatDoor
open Go Go.RowKit Go.Shelf
structure TwB (sb bs bl bv:Nat) (ba:Option Addr) (n cap:Nat) (w:World):Prop where
 s:w.heap[bs]? = some (.cells #[.pointer (some ⟨sb,0,none⟩)] 32 (0,0))
 l:w.heap[bl]? = some (.cells #[.bool false] 4 (0,0))
 v:w.heap[bv]? = some (.cells #[.slice ba n cap] 26 (0,0))
theorem TwB.stays {sb bs bl bv:Nat} {ba:Option Addr} {n cap:Nat} {w w':World} (h:TwB sb bs bl bv ba n cap w) (hs:Stays w w'):TwB sb bs bl bv ba n cap w' :=
 ⟨hs.get h.s (by decide) (by decide),hs.get h.l (by decide) (by decide),hs.get h.v (by decide) (by decide)⟩
theorem TwB.cells {sb bs bl bv:Nat} {ba:Option Addr} {n cap:Nat} {w:World} (h:TwB sb bs bl bv ba n cap w):w.cell? ⟨bs,0,none⟩ = some (.pointer (some ⟨sb,0,none⟩))∧w.cell? ⟨bl,0,none⟩ = some (.bool false)∧w.frozen? ⟨bl,0,none⟩ = false∧w.cell? ⟨bv,0,none⟩ = some (.slice ba n cap):=by
 refine ⟨?_,?_,?_,?_⟩
 ·rw [World.cell?,h.s];rfl
 ·rw [World.cell?,h.l];rfl
 ·simp [World.frozen?,h.l]
 ·rw [World.cell?,h.v];rfl
def RetTw (t:List VN) (sb k' bs bl bv:Nat) (ba:Option Addr) (n cap:Nat) (s:St) (w0 w:World) (φ:L.Asg→Bool) (e:Ending) (w':World):Prop :=
 ∃ (r:Nat) (s':St),e = .returned (.int .i64 (r:Nat))∧SL t sb k' [] s' w0 w'∧L.Step s s'∧Val s' r φ∧TwB sb bs bl bv ba n cap w'∧Stays w w'
set_option maxRecDepth 100000 in
set_option maxHeartbeats 2000000 in
theorem twgiven_any {t:List VN} {sb k k':Nat} {s:St} {w0 w:World} (h:SL t sb k [] s w0 w) {a:Nat} {φ:L.Asg→Bool} (ha:Val s a φ) {l:Int} (hl:VarOf t (l.natAbs:Int)) (hk:k'+3920≤k) {bs bl bv n cap:Nat} {ba:Option Addr} (hB:TwB sb bs bl bv ba n cap w) :
  Calls Tryz.prog 33 #[.int .i64 (a:Nat),.int .i64 l,.pointer (some ⟨bs,0,none⟩),.pointer (some ⟨bl,0,none⟩),.pointer (some ⟨bv,0,none⟩)] w (RetTw t sb k' bs bl bv ba n cap s w0 w (L.giv φ (l.natAbs:Int) (decide (0 < l)))):=by
 obtain ⟨c0,c1,c2,c3⟩:=hB.cells
 have q:=Given_any h ha hl hk
 replace h:=Lib.hid h
 replace hB:=Lib.hid hB
 go_enter Tryz.func33,Tryz.ntmps33
 go_wp2_with fail
 refine q.mono ?_
 rintro e w2 ⟨r,s',rfl,h2,hs2,hv2,_,hst⟩
 have hB2:=hB.out.stays hst
 obtain ⟨d0,d1,d2,d3⟩:=hB2.cells
 have hset:=Lib.hid (setCell_same hB2.l)
 replace h2:=Lib.hid h2
 replace hB2:=Lib.hid hB2
 clear q c0 c1 c2 c3
 go_wp2_with fail
 refine (full_any ba n cap _).mono ?_
 rintro e w3 ⟨rfl,rfl⟩
 go_wp2_with fail
 go_ret
 rw [hset.out]
 exact ⟨r,s',rfl,h2.out,hs2,hv2,hB2.out,hst⟩
theorem giv_both (φ:L.Asg→Bool) (x y:Int) (h:x≠-y∨x = 0):L.giv (L.giv φ (x.natAbs:Int) (decide (0 < x))) (y.natAbs:Int) (decide (0 < y)) = L.giv (L.giv φ (y.natAbs:Int) (decide (0 < y))) (x.natAbs:Int) (decide (0 < x)):=by
 by_cases e:(x.natAbs:Int) = (y.natAbs:Int)
 ·have:x = y:=by omega
  subst this
  rfl
 ·exact L.giv_comm φ _ _ e
theorem giv_neg (φ:L.Asg→Bool) (x:Int) (b:Bool):L.giv (L.giv φ (x.natAbs:Int) b) ((-x).natAbs:Int) (decide (0 < -x)) = L.giv φ (x.natAbs:Int) b:=by
 rw [show ((-x).natAbs:Int) = (x.natAbs:Int) by omega,L.giv_giv]
theorem giv_some (φ:L.Asg→Bool) (v:Int) (b:Bool) (u:Int) (hu:u = v):L.giv (fun x=>L.giv φ v true x || L.giv φ v false x) u b = fun x=>L.giv φ v true x || L.giv φ v false x:=by
 subst hu
 funext x
 show (L.giv (L.giv φ u true) u b x || L.giv (L.giv φ u false) u b x) = _
 rw [L.giv_giv,L.giv_giv]
set_option maxRecDepth 100000 in
set_option maxHeartbeats 16000000 in
theorem twice_any {n:Int} {T:List (List Int)} {u:Value} {t:List VN} {z0 z1:Nat} (w:World) (ba:Option Addr) (cap:Nat) (hT:TzTab w) (hP:PowTab w) (hv:SlT w u T∧T.length≤9223372036854775807∧(-9223372036854775808≤n∧n≤9223372036854775807)) (ht:t = []∨∃ b o,ba = some ⟨b,o,none⟩∧TreeAt w b o t) (htl:t.length≤5864062014805) (hz:z0 < 256∧z1 < 256) :
  Calls Tryz.prog 4 #[.agg #[.int .i64 n,u],.slice ba t.length cap,.agg #[.int .u8 (z0:Nat),.int .u8 (z1:Nat)]] w fun e w'=>e = .returned (.bool true)∧Below w.heap.size w w':=by
 obtain ⟨hv,hlT,_⟩:=hv
 obtain ⟨e0,e1,e2⟩:=alloc3h w (.cells #[.int .i64 n,u] 24) (.cells #[.slice ba t.length cap] 26) (.cells #[.int .u8 (z0:Nat),.int .u8 (z1:Nat)] 59)
 have hx1:Ext w (((w.alloc (.cells #[.int .i64 n,u] 24)).alloc (.cells #[.slice ba t.length cap] 26)).alloc (.cells #[.int .u8 (z0:Nat),.int .u8 (z1:Nat)] 59)):=(((Ext.refl w).alloc _).alloc _).alloc _
 have hw:∀ W,Below w.heap.size w W→Calls Tryz.prog 16 #[] W fun e w''=>e = .returned (.bool true)∧Below W.heap.size W w'':=fun W hx=>works27_any W (hT.same (hx.block _ hT.lt')) (hP.same (hx.block _ hP.lt))
 obtain ⟨w1,hw1⟩:∃ w1,w1 = ((w.alloc (.cells #[.int .i64 n,u] 24)).alloc (.cells #[.slice ba t.length cap] 26)).alloc (.cells #[.int .u8 (z0:Nat),.int .u8 (z1:Nat)] 59):=⟨_,rfl⟩
 rw [←hw1] at e0 e1 e2 hx1
 have c0:w1.cell? ⟨w.heap.size,0,none⟩ = some (.int .i64 n):=by rw [World.cell?,e0];rfl
 have c1:w1.cell? ⟨w.heap.size,1,none⟩ = some u:=by rw [World.cell?,e0];rfl
 have c2:w1.cell? ⟨w.heap.size+1,0,none⟩ = some (.slice ba t.length cap):=by rw [World.cell?,e1];rfl
 have ql:=light27_any (n:=n) (hv.ext hx1.below) hlT
 have hvh:=Lib.hid hv
 obtain ⟨bb,cp,rfl,_⟩:=hv
 replace e0:=Lib.hid e0
 replace e1:=Lib.hid e1
 replace e2:=Lib.hid e2
 replace hw:=Lib.hid hw
 replace hx1:=Lib.hid hx1
 cases hL:light27B n T
 ·rw [hL] at ql
  go_enter Tryz.func4,Tryz.ntmps4
  go_wp2_with fail
  rw [←hw1]
  replace hw1:=Lib.hid hw1
  go_wp2_with fail
  refine ql.mono ?_
  rintro e w2 ⟨rfl,hx2⟩
  have hx:=hx1.out.trans hx2
  have q:=hw.out w2 hx.below
  clear ql
  go_wp2_with fail
  refine q.mono ?_
  rintro e w3 ⟨rfl,hb3⟩
  go_wp2_with fail
  go_ret
  exact ⟨rfl,hx.below.trans (hb3.mono hx.size)⟩
 ·rw [hL] at ql
  have qf:∀ W,Ext w1 W→Calls Tryz.prog 15 #[.slice ba t.length cap] W fun e w'=>e = .returned (.bool (few27B t))∧Ext W w':=fun W hx=>few27_any W ba cap (refchk_any W ba cap (ht.imp id fun ⟨b,o,e,h⟩=>⟨b,o,e,(h.ext hx1.out).ext hx⟩) htl)
  cases hF:few27B t
  ·rw [hF] at qf
   replace qf:=Lib.hid qf
   go_enter Tryz.func4,Tryz.ntmps4
   go_wp2_with fail
   rw [←hw1]
   replace hw1:=Lib.hid hw1
   go_wp2_with fail
   refine ql.mono ?_
   rintro e w2 ⟨rfl,hx2⟩
   have q:=qf.out w2 hx2
   have a2:=hx2.cell c2
   clear ql
   go_wp2_with fail
   refine q.mono ?_
   rintro e w3 ⟨rfl,hx3⟩
   have hx:=(hx1.out.trans hx2).trans hx3
   have qw:=hw.out w3 hx.below
   clear q
   go_wp2_with fail
   refine qw.mono ?_
   rintro e w4 ⟨rfl,hb4⟩
   go_wp2_with fail
   go_ret
   exact ⟨rfl,hx.below.trans (hb4.mono hx.size)⟩
  ·rw [hF] at qf
   replace qf:=Lib.hid qf
   by_cases hE:compE n T t = 0
   ·obtain ⟨hok,hc,hsub⟩:=compE_ok hE
    obtain ⟨b,o,rfl,htr⟩:=tree_some hc ht
    have hfew:=few_len hF hc
    have h30:=light_few hL hok
    have hl6:=L.nv_le hc (v:=t.length - 1) (by have:=(check_ok hc).1;omega)
    have hmf:∀ (fn:Fn) (first cap:Array Value) (w:World),(Instr.makeFunc fn first cap).run Tryz.prog w = .ok (.func fn first cap) w:=fun _ _ _ _=>rfl
    have hK1:∀ (c:Array Value) (w:World),(callFunc 33 c).run Tryz.prog w = .ok (.enter 33 c) w:=fun c w=>by simp [go_sem,Tryz.func33]
    replace hsub:=Lib.hid hsub
    replace htr:=Lib.hid htr
    replace hok:=Lib.hid hok
    replace hc:=Lib.hid hc
    replace hE:=Lib.hid hE
    clear hL hF ht
    go_enter Tryz.func4,Tryz.ntmps4
    go_wp2_with fail
    rw [←hw1]
    replace hw1:=Lib.hid hw1
    go_wp2_with fail
    refine ql.mono ?_
    rintro e w2 ⟨rfl,hx2⟩
    have q:=qf.out w2 hx2
    have a0:=hx2.cell c0
    have a1:=hx2.cell c1
    have a2:=hx2.cell c2
    clear ql c0 c1 c2
    go_wp2_with fail
    refine q.mono ?_
    rintro e w3 ⟨rfl,hx3⟩
    have hx:=(hx1.out.trans hx2).trans hx3
    have hx13:=hx2.trans hx3
    have b0:=hx3.cell a0
    have b1:=hx3.cell a1
    have b2:=hx3.cell a2
    have qc:=compile_ok (hvh.out.ext hx.below) b o cap hok.out h30 (htr.out.ext hx) hc.out hfew hsub.out (hT.ext hx) (hP.below hx.below)
    clear q a0 a1 a2 hx2 hx3
    replace hx:=Lib.hid hx
    go_wp2_with fail
    refine qc.mono ?_
    rintro e w4 ⟨sb,root,s4,rfl,hS4,hv4,hb4⟩
    have hSw:=hS4.base hx.out.below
    have hb14:Below w1.heap.size w1 w4:=hx13.below.trans (hb4.mono hx13.size)
    have hbS:Below w4.heap.size w4 (w4.alloc (.cells #[.pointer (some ⟨sb,0,none⟩)] 32)):=(Below.refl _ _).alloc (Nat.le_refl _) _
    have nS:=heap_alloc_new w4 (.cells #[.pointer (some ⟨sb,0,none⟩)] 32)
    obtain ⟨w5,hw5⟩:∃ w5,w5 = w4.alloc (.cells #[.pointer (some ⟨sb,0,none⟩)] 32):=⟨_,rfl⟩
    have f2':(w4.alloc (.cells #[.pointer (some ⟨sb,0,none⟩)] 32)).cell? ⟨w.heap.size+1,0,none⟩ = some (.slice (some ⟨b,o,none⟩) t.length cap):=by
     have h1:=hb14.block _ (Array.getElem?_eq_some_iff.1 e1.out).1
     rw [World.cell?,hbS.block _ (Nat.lt_of_lt_of_le (Array.getElem?_eq_some_iff.1 e1.out).1 hb14.size),h1,e1.out];rfl
    rw [←hw5] at hbS nS
    have hb15:=hb14.trans (hbS.mono hb14.size)
    have hS5:=hSw.below hbS
    have hbe5:=hS5.bel
    have qo:=over_any (cap:=cap) w5 b o (htr.out.below hbe5) hc.out (hT.same (hbe5.block _ hT.lt'))
    replace hS5:=Lib.hid hS5
    replace hbe5:=Lib.hid hbe5
    replace hb15:=Lib.hid hb15
    clear qc hS4 hSw b0 b1 b2 hb14 hbS hb4 hx13
    go_wp2_with fail
    rw [←hw5]
    replace hw5:=Lib.hid hw5
    refine qo.mono ?_
    rintro e w6 ⟨lv,l,rfl,hol,hsl,hb6⟩
    have hl0:=sorted_pos hc.out hsl
    have hnv:=hsl.len hc.out (by have:=(check_ok hc.out).1;omega)
    have hl6':l.length≤6:=by omega
    obtain ⟨g,lc,rfl,hg,hlc⟩:=own_open hol (by intro e;rw [e] at hl0;simp at hl0)
    have hi:z0 / 2 % l.length < l.length:=Nat.mod_lt _ hl0
    have hj:z1 / 2 % l.length < l.length:=Nat.mod_lt _ hl0
    have hxm:l[z0 / 2 % l.length]∈l:=List.getElem_mem hi
    have hym:l[z1 / 2 % l.length]∈l:=List.getElem_mem hj
    have hcell:∀ i (hi:i < l.length),w6.cell? ⟨g,i,none⟩ = some (.int .i64 l[i]):=fun i hi=>by
     have:=hlc i (encZ l[i]) (by rw [List.getElem?_map,List.getElem?_eq_getElem hi];rfl)
     rw [Go.WideShapes.add_plain] at this
     simpa [encZ] using this
    have k0:=hcell _ hi
    have k1:=hcell _ hj
    have hS6:=hS5.out.below hb6
    have hb16:=hb15.out.trans (hb6.mono hb15.out.size)
    have nS6:=(hb6.block _ (Array.getElem?_eq_some_iff.1 nS).1).trans nS
    have nV6:=(hb16.block _ (Array.getElem?_eq_some_iff.1 e1.out).1).trans e1.out
    have nZ6:=(hb16.block _ (Array.getElem?_eq_some_iff.1 e2.out).1).trans e2.out
    have zc0:w6.cell? ⟨w.heap.size+1+1,0,none⟩ = some (.int .u8 (z0:Nat)):=by rw [World.cell?,nZ6];rfl
    have zc1:w6.cell? ⟨w.heap.size+1+1,1,none⟩ = some (.int .u8 (z1:Nat)):=by rw [World.cell?,nZ6];rfl
    have hzi:((z0 / 2:Nat):Int) % (l.length:Int) = ((z0 / 2 % l.length:Nat):Int):=by simp
    have hzj:((z1 / 2:Nat):Int) % (l.length:Int) = ((z1 / 2 % l.length:Nat):Int):=by simp
    generalize hX:l[z0 / 2 % l.length] = x at *
    generalize hY:l[z1 / 2 % l.length] = y at *
    have hq0:(z0:Int) / 2 = ((z0 / 2:Nat):Int):=by omega
    have hq1:(z1:Int) / 2 = ((z1 / 2:Nat):Int):=by omega
    generalize hi':z0 / 2 % l.length = i at *
    generalize hj':z1 / 2 % l.length = j at *
    replace hi':=Lib.hid hi'
    replace hj':=Lib.hid hj'
    have hb0:z0 / 2 < 128:=by omega
    have hb1:z1 / 2 < 128:=by omega
    generalize hqq0:z0 / 2 = q0 at *
    generalize hqq1:z1 / 2 = q1 at *
    replace hqq0:=Lib.hid hqq0
    replace hqq1:=Lib.hid hqq1
    have w8a:IntKind.u8.wrap (q0:Int) = q0:=IntWalk.u8_in _ (by omega)
    have w8b:IntKind.u8.wrap (q1:Int) = q1:=IntWalk.u8_in _ (by omega)
    have w6a:IntKind.i64.wrap (q0:Int) = q0:=IntWalk.i64_in _ (by omega)
    have w6b:IntKind.i64.wrap (q1:Int) = q1:=IntWalk.i64_in _ (by omega)
    have hzm:(q0:Int).tmod (l.length:Int) = (i:Int):=by rw [Int.tmod_eq_emod_of_nonneg (by omega)];exact hzi
    have hzn:(q1:Int).tmod (l.length:Int) = (j:Int):=by rw [Int.tmod_eq_emod_of_nonneg (by omega)];exact hzj
    have dne:¬ ((l.length:Int) = 0):=by omega
    have dne2:¬ (l.length = 0):=by omega
    have dne3:¬ (l = []):=by intro e;rw [e] at hl0;simp at hl0
    have gi0:(0:Int)≤i:=by omega
    have gi1:(i:Int) < l.length:=by omega
    have gj0:(0:Int)≤j:=by omega
    have gj1:(j:Int) < l.length:=by omega
    have dl:((l.length:Int) == 0) = false:=beq_eq_false_iff_ne.2 (by omega)
    have F:=Lib.hid fun (W:World) (hW:Ext w6 W)=>And.intro (And.intro (hW.cell zc0) (hW.cell zc1)) (And.intro (hW.cell k0) (hW.cell k1))
    replace hS6:=Lib.hid hS6
    replace hsl:=Lib.hid hsl
    replace hnv:=Lib.hid hnv
    replace hxm:=Lib.hid hxm
    replace hym:=Lib.hid hym
    replace hb16:=Lib.hid hb16
    replace nS6:=Lib.hid nS6
    replace nV6:=Lib.hid nV6
    replace nZ6:=Lib.hid nZ6
    clear qo hlc hol hcell hX hY k0 k1 zc0 zc1 nS f2'
    go_wp2_with fail
    (refine wp_region_below (by kernel_rfl) (by kernel_rfl) ?_
     repeat (refine wpQuiet_step (fun K hK=>?_)
             go_simp
             first
              | (refine hK _ ?_;clear hK K)
              | (replace hK:=Lib.hid hK
                 apply Exists.intro
                 refine ⟨fun wq hq=>?_,hK.out _ ?_⟩
                 ·(obtain ⟨⟨f1,f2⟩,f3,f4⟩:=F.out wq hq)
                  go_simp
                  first
                   | done
                   | rfl
                   | exact ⟨rfl,rfl⟩
                   | fail
                 clear hK K))
     refine wpQuiet_nil ?_)
    intro w7 hx7
    have g7:=F.out w7 hx7
    obtain ⟨⟨y0,y1⟩,_,_⟩:=g7
    have hvx:=sorted_var hc.out hsl.out hxm.out
    have hvy:=sorted_var hc.out hsl.out hym.out
    have hxr:=hvx.range
    have hyr:=hvy.range
    have wnx:wrap64 (-x) = -x:=by unfold wrap64;omega
    have wny:wrap64 (-y) = -y:=by unfold wrap64;omega
    have hm0:(z0:Int) % 2 = ((z0 % 2:Nat):Int):=by omega
    have hm1:(z1:Int) % 2 = ((z1 % 2:Nat):Int):=by omega
    have hp0:z0 % 2 = 0∨z0 % 2 = 1:=by omega
    have hp1:z1 % 2 = 0∨z1 % 2 = 1:=by omega
    obtain ⟨X,hX⟩:∃ X:Int,X = if z0 % 2 = 1 then -x else x:=⟨_,rfl⟩
    obtain ⟨Y,hY⟩:∃ Y:Int,Y = if z1 % 2 = 1 then -y else y:=⟨_,rfl⟩
    generalize z0 % 2 = p0 at *
    generalize z1 % 2 = p1 at *
    have hX1:(X.natAbs:Int) = x:=by rw [hX];split <;> omega
    have hY1:(Y.natAbs:Int) = y:=by rw [hY];split <;> omega
    replace hX:=Lib.hid hX
    replace hY:=Lib.hid hY
    replace hX1:=Lib.hid hX1
    replace hY1:=Lib.hid hY1
    replace hvx:=Lib.hid hvx
    replace hvy:=Lib.hid hvy
    have wp0:IntKind.u8.wrap (p0:Int) = p0:=IntWalk.u8_in _ (by omega)
    have wp1:IntKind.u8.wrap (p1:Int) = p1:=IntWalk.u8_in _ (by omega)
    go_upto_if 66 with fail
    go_cut [11] from 63 to 68 (fun s11 wx=>wx = w7∧s11 = .int .i64 X)
    case first =>
     rcases hp0 with rfl | rfl
     ·have hXx:X = x:=hX.out
      subst hXx
      go_wp2_with fail
      go_meet
      exact ⟨rfl,rfl⟩
     ·have hXx:X = -x:=hX.out
      subst hXx
      go_wp2_with fail
      go_meet
      exact ⟨rfl,rfl⟩
    case rest =>
     obtain ⟨rfl,rfl⟩:=hcut
     go_upto_if 72 with fail
     go_cut [12] from 69 to 74 (fun s12 wx=>wx = wc∧s12 = .int .i64 Y)
     case first =>
      rcases hp1 with rfl | rfl
      ·have hYx:Y = y:=hY.out
       subst hYx
       go_wp2_with fail
       go_meet
       exact ⟨rfl,rfl⟩
      ·have hYx:Y = -y:=hY.out
       subst hYx
       go_wp2_with fail
       go_meet
       exact ⟨rfl,rfl⟩
     case rest =>
      obtain ⟨rfl,rfl⟩:=hcut
      have hVX:VarOf t (X.natAbs:Int):=by rw [hX1.out];exact hvx.out
      have hVXn:VarOf t ((-X).natAbs:Int):=by rw [show ((-X).natAbs:Int) = (X.natAbs:Int) by omega];exact hVX
      have hVY:VarOf t (Y.natAbs:Int):=by rw [hY1.out];exact hvy.out
      have hXa:=hX1.out
      have hYa:=hY1.out
      have wX:wrap64 (-X) = -X:=by unfold wrap64;omega
      have wY:wrap64 (-Y) = -Y:=by unfold wrap64;omega
      have mX:max X (-X) = x:=by omega
      have hXn:((-X).natAbs:Int) = x:=by omega
      have hX0:X≠0:=by omega
      have hbl:Below wc.heap.size wc (wc.alloc (.cells #[.bool false] 4)):=(Below.refl _ _).alloc (Nat.le_refl _) _
      have nL:=heap_alloc_new wc (.cells #[.bool false] 4)
      obtain ⟨w8,hw8⟩:∃ w8,w8 = wc.alloc (.cells #[.bool false] 4):=⟨_,rfl⟩
      rw [←hw8] at hbl nL
      have hb68:Below w6.heap.size w6 w8:=hx7.below.trans (hbl.mono hx7.size)
      have hB8:TwB sb w4.heap.size wc.heap.size (w.heap.size+1) (some ⟨b,o,none⟩) t.length cap w8:=⟨(hb68.block _ (Array.getElem?_eq_some_iff.1 nS6.out).1).trans nS6.out,nL,(hb68.block _ (Array.getElem?_eq_some_iff.1 nV6.out).1).trans nV6.out⟩
      have hS8:=hS6.out.below hb68
      have q1:=twgiven_any (k':=46000) hS8 hv4 (l:=X) hVX (by omega) hB8
      replace hS8:=Lib.hid hS8
      replace hv4:=Lib.hid hv4
      replace hVX:=Lib.hid hVX
      replace hVXn:=Lib.hid hVXn
      replace hVY:=Lib.hid hVY
      replace hXa:=Lib.hid hXa
      replace hYa:=Lib.hid hYa
      replace hXn:=Lib.hid hXn
      replace hX0:=Lib.hid hX0
      clear F hm0 hm1 hp0 hp1 wp0 wp1 hX hY y0 y1 hzi hzj hzm hzn w8a w8b w6a w6b hq0 hq1 dne dne2 dne3 gi0 gi1 gj0 gj1 wnx wny hbl hb68 nL nS6 nV6 nZ6 hb6 hx7 hB8
      go_wp2_with fail
      rw [←hw8]
      replace hw8:=Lib.hid hw8
      refine q1.mono ?_
      rintro e w9 ⟨r1,s9,rfl,hS9,hs9,hv9,hB9,_⟩
      have hroot9:=hv4.out.step hS8.out.inv hs9
      have dr:decide ((r1:Int)≥0) = true:=decide_eq_true (by omega)
      have dr2:decide (0≤(r1:Int)) = true:=decide_eq_true (by omega)
      have q2:=twgiven_any (k':=42000) hS9 hv9 (l:=X) hVX.out (by omega) hB9
      rw [L.giv_giv] at q2
      replace hS9:=Lib.hid hS9
      replace hv9:=Lib.hid hv9
      replace hroot9:=Lib.hid hroot9
      clear q1 hB9 hs9
      go_wp2_with fail
      refine q2.mono ?_
      rintro e w10 ⟨r2,s10,rfl,hS10,hs10,hv10,hB10,_⟩
      have hva10:=hv9.out.step hS9.out.inv hs10
      have hroot10:=hroot9.out.step hS9.out.inv hs10
      obtain rfl:r2 = r1:=Val.eq hS10.inv hv10 hva10 (fun _=>rfl)
      have q3:=twgiven_any (k':=38000) hS10 hva10 (l:=-X) hVXn.out (by omega) hB10
      rw [giv_neg] at q3
      replace hS10:=Lib.hid hS10
      replace hva10:=Lib.hid hva10
      replace hroot10:=Lib.hid hroot10
      clear q2 hB10 hs10 hv10 hv9
      go_wp2_with fail
      refine q3.mono ?_
      rintro e w11 ⟨r3,s11,rfl,hS11,hs11,hv11,hB11,_⟩
      have hva11:=hva10.out.step hS10.out.inv hs11
      have hroot11:=hroot10.out.step hS10.out.inv hs11
      obtain rfl:r3 = r2:=Val.eq hS11.inv hv11 hva11 (fun _=>rfl)
      have q4:=twgiven_any (k':=34000) hS11 hva11 (l:=Y) hVY.out (by omega) hB11
      replace hS11:=Lib.hid hS11
      replace hroot11:=Lib.hid hroot11
      clear q3 hB11 hs11 hv11 hva11 hva10
      go_wp2_with fail
      refine q4.mono ?_
      rintro e w12 ⟨rb,s12,rfl,hS12,hs12,hv12,hB12,_⟩
      have hroot12:=hroot11.out.step hS11.out.inv hs12
      have q5:=twgiven_any (k':=30000) hS12 hroot12 (l:=Y) hVY.out (by omega) hB12
      replace hS12:=Lib.hid hS12
      replace hv12:=Lib.hid hv12
      replace hroot12:=Lib.hid hroot12
      clear q4 hB12 hs12
      go_wp2_with fail
      refine q5.mono ?_
      rintro e w13 ⟨rr,s13,rfl,hS13,hs13,hv13,hB13,_⟩
      have hroot13:=hroot12.out.step hS12.out.inv hs13
      have hvb13:=hv12.out.step hS12.out.inv hs13
      have q6:=twgiven_any (k':=26000) hS13 hv13 (l:=X) hVX.out (by omega) hB13
      replace hS13:=Lib.hid hS13
      replace hvb13:=Lib.hid hvb13
      replace hroot13:=Lib.hid hroot13
      clear q5 hB13 hs13 hv13
      go_wp2_with fail
      refine q6.mono ?_
      rintro e w14 ⟨rc,s14,rfl,hS14,hs14,hv14,hB14,_⟩
      have hroot14:=hroot13.out.step hS13.out.inv hs14
      have hvb14:=hvb13.out.step hS13.out.inv hs14
      have hbc:X = -Y∨rb = rc:=by
       by_cases h:X = -Y
       ·exact .inl h
       ·exact .inr (Val.eq hS14.inv hvb14 hv14 (fun z=>by rw [giv_both _ X Y (.inl h)]))
      obtain ⟨c0,_,_,_⟩:=hB14.cells
      have q7:=Exists_any (k':=18000) hS14 hroot14 (v:=x) hvx.out (by omega)
      replace hS14:=Lib.hid hS14
      replace hroot14:=Lib.hid hroot14
      replace hB14:=Lib.hid hB14
      replace hbc:=Lib.hid hbc
      clear q6 hs14 hv14 hvb14 hvb13
      go_upto_region 20 with fail
      go_cut [122] from 114 to 121 (fun s122 wx=>wx = w14∧s122 = .bool false)
      case first =>
       rcases hbc.out with hxy | hxy
       ·have dxy:(X != -Y) = false:=by simp [hxy]
        by_cases hrr:rb = rc
        ·subst hrr
         replace hxy:=Lib.hid hxy
         go_wp2_with fail
         go_meet
         exact ⟨rfl,rfl⟩
        ·have drr:((rb:Int) != (rc:Int)) = true:=by
          simp only [bne_iff_ne,ne_eq]
          omega
         replace hxy:=Lib.hid hxy
         replace hrr:=Lib.hid hrr
         go_wp2_with fail
         go_meet
         exact ⟨rfl,rfl⟩
       ·subst hxy
        go_wp2_with fail
        go_meet
        exact ⟨rfl,rfl⟩
      case rest =>
       obtain ⟨rfl,rfl⟩:=hcut
       go_wp2_with fail
       refine q7.mono ?_
       rintro e w15 ⟨r7,s15,rfl,hS15,hs15,hv15,_,hst15⟩
       have hB15:=hB14.out.stays hst15
       have q8:=twgiven_any (k':=14000) hS15 hv15 (l:=X) hVX.out (by omega) hB15
       rw [giv_some _ x _ _ hXa.out] at q8
       replace hS15:=Lib.hid hS15
       replace hv15:=Lib.hid hv15
       clear q7 hB15 hs15 hst15 c0
       go_wp2_with fail
       refine q8.mono ?_
       rintro e w16 ⟨r8,s16,rfl,hS16,hs16,hv16,hB16,_⟩
       have hva16:=hv15.out.step hS15.out.inv hs16
       obtain rfl:r8 = r7:=Val.eq hS16.inv hv16 hva16 (fun _=>rfl)
       have q9:=twgiven_any (k':=10000) hS16 hva16 (l:=-X) hVXn.out (by omega) hB16
       rw [giv_some _ x _ _ hXn.out] at q9
       replace hS16:=Lib.hid hS16
       replace hva16:=Lib.hid hva16
       clear q8 hB16 hs16 hv16 hv15
       go_wp2_with fail
       refine q9.mono ?_
       rintro e w17 ⟨r9,s17,rfl,hS17,hs17,hv17,hB17,_⟩
       obtain rfl:r9 = r8:=Val.eq hS17.inv hv17 (hva16.out.step hS16.out.inv hs17) (fun _=>rfl)
       have hbe17:=hS17.bel
       have qw:=hw.out w17 hbe17
       replace hS17:=Lib.hid hS17
       replace hB17:=Lib.hid hB17
       clear q9 hs17 hv17 hva16
       go_wp2_with fail
       refine qw.mono ?_
       rintro e w18 ⟨rfl,hb18⟩
       go_wp2_with fail
       go_ret
       exact ⟨rfl,hbe17.trans (hb18.mono hbe17.size)⟩
   ·replace hE:=Lib.hid hE
    go_enter Tryz.func4,Tryz.ntmps4
    go_wp2_with fail
    rw [←hw1]
    replace hw1:=Lib.hid hw1
    go_wp2_with fail
    refine ql.mono ?_
    rintro e w2 ⟨rfl,hx2⟩
    have q:=qf.out w2 hx2
    have a0:=hx2.cell c0
    have a1:=hx2.cell c1
    have a2:=hx2.cell c2
    clear ql c0 c1 c2
    go_wp2_with fail
    refine q.mono ?_
    rintro e w3 ⟨rfl,hx3⟩
    have hx:=(hx1.out.trans hx2).trans hx3
    have b0:=hx3.cell a0
    have b1:=hx3.cell a1
    have b2:=hx3.cell a2
    have qc:=compile_no (hvh.out.ext hx.below) ba cap (ht.imp id fun ⟨b,o,e,h⟩=>⟨b,o,e,h.ext hx⟩) hE.out
    have hd:(compE n T t != 0) = true:=by simpa using hE.out
    generalize compE n T t = zE at *
    clear q a0 a1 a2 hx2 hx3
    go_wp2_with fail
    refine qc.mono ?_
    rintro e w4 ⟨rfl,hb4⟩
    have hbe:=hx.below.trans (hb4.mono hx.size)
    have hbS:Below w4.heap.size w4 (w4.alloc (.cells #[.pointer none] 32)):=(Below.refl _ _).alloc (Nat.le_refl _) _
    have hbe5:=hbe.trans (hbS.mono hbe.size)
    have qw:=hw.out _ hbe5
    clear qc
    go_wp2_with fail
    refine qw.mono ?_
    rintro e w5 ⟨rfl,hb5⟩
    go_wp2_with fail
    go_ret
    exact ⟨rfl,hbe5.trans (hb5.mono hbe5.size)⟩
end Go.Proofs.YtmnjakejhbpkoaaGreatDoor
