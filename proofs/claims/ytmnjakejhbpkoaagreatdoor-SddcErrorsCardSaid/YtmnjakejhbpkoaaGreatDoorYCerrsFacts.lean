import Derived.Test.YtmnjakejhbpkoaaGreatDoorYElem
import Derived.Test.YtmnjakejhbpkoaaGreatDoorYRefChk
import Derived.Test.YtmnjakejhbpkoaaGreatDoorYCf
import Derived.Test.YtmnjakejhbpkoaaGreatDoorChecked
import Derived.Test.YtmnjakejhbpkoaaGreatDoorRows
import Derived.JoinedCond
import Derived.Deep.DeepHandedRow
import Derived.ProofKit
import Derived.WalkKit
section
set_option linter.unusedSimpArgs false
set_option linter.unusedVariables false
namespace Go.Proofs.YtmnjakejhbpkoaaGreatDoor
open Go Go.RowKit Go.Shelf
def Refs (p:Option Addr) (err:Int) (G:List Int→Prop) (w:World):Prop :=
 ∀ (W:World) (v:Value) (l:List Int),Below w.heap.size w W→SlI W v l→l.length≤2→G l→Calls Tryz.prog 104 #[.pointer p,v] W fun e w'=>e = .returned (.int .i64 err)∧Ext W w'
theorem Refs.ext {p:Option Addr} {err:Int} {G:List Int→Prop} {w w':World} (h:Refs p err G w) (hx:Below w.heap.size w w'):Refs p err G w':=fun W v l hb=>h W v l (hx.trans (hb.mono hx.size))
theorem check_bad {t:List VN} {B0:Blks} {w0 w:World} {k:Nat} {s:St} (h:SS t B0 w0 k s w) (a:Int) (ha:¬ (0≤a∧a < s.nodes.length)):Refs (some ⟨B0.sb,0,none⟩) 1 (fun l=>a∈l) w:=fun W v l hb hv hl hg=>by
 obtain ⟨B,hR,hS⟩:=(h.below hb).held
 rw [←hS.sb]
 have hch:chkF s.nodes.length l = 1:=by
  unfold chkF
  rw [if_neg]
  rw [List.all_eq_true]
  intro hall
  have:=hall a hg
  simp only [Bool.and_eq_true,decide_eq_true_eq] at this
  exact ha this
 have:=sck_any hR h.ne hv (by omega)
 rw [hch] at this
 refine this.mono ?_
 rintro e w' ⟨rfl,rfl⟩
 exact ⟨rfl,Ext.refl _⟩
set_option maxRecDepth 100000 in
set_option maxHeartbeats 1000000 in
theorem at_ref {p:Option Addr} {err:Int} {G:List Int→Prop} {w:World} {a:Int} (hR:Refs p err G w) (hg:G [a]) (he:(err != 0) = true) :
  Calls Tryz.prog 60 #[.pointer p,.int .i64 a] w fun e w'=>e = .returned (.tuple #[.int .i64 0,.int .i64 err])∧Ext w w':=by
 have hx:=(Ext.refl w).alloc (.cells #[.int .i64 a] 3)
 have hz:=heap_alloc_new w (.cells #[.int .i64 a] 3)
 go_enter Tryz.func60,Tryz.ntmps60
 go_wp2_with fail
 generalize w.alloc (.cells #[.int .i64 a] 3) = w1 at *
 have hq:=hR w1 _ _ hx.below (slI_one hz) (by simp) hg
 clear hz
 refine hq.mono ?_
 rintro e w2 ⟨rfl,hx2⟩
 go_wp2_with fail
 go_ret2
 exact ⟨rfl,hx.trans hx2⟩
end Go.Proofs.YtmnjakejhbpkoaaGreatDoor
end
section
set_option linter.unusedSimpArgs false
set_option linter.unusedVariables false
namespace Go.Proofs.YtmnjakejhbpkoaaGreatDoor
open Go Go.RowKit Go.Shelf
def LookE (p:Option Addr) (a err:Int) (w:World):Prop:=∀ W,Below w.heap.size w W→Calls Tryz.prog 96 #[.pointer p,.int .i64 a] W fun e w'=>e = .returned (.tuple #[.pointer none,.int .i64 err])∧Below W.heap.size W w'
theorem LookE.ext {p:Option Addr} {a err:Int} {w w':World} (h:LookE p a err w) (hb:Below w.heap.size w w'):LookE p a err w':=fun W hW=>h W (hb.trans (hW.mono hb.size))
set_option maxRecDepth 100000 in
set_option maxHeartbeats 1000000 in
theorem look_nil (a:Int) (w:World):LookE none a 9 w:=fun W _=>by
 go_enter Tryz.func96,Tryz.ntmps96
 go_wp2_with fail
 go_ret2
 exact ⟨rfl,Below.refl _ _⟩
set_option maxRecDepth 100000 in
set_option maxHeartbeats 1000000 in
theorem look_bad {b:Nat} {a err:Int} {G:List Int→Prop} {w:World} (hR:Refs (some ⟨b,0,none⟩) err G w) (hg:G [a]) (he:(err != 0) = true):LookE (some ⟨b,0,none⟩) a err w:=fun W hW=>by
 have q:=at_ref (hR.ext hW) hg he
 replace hR:=Lib.hid hR
 go_enter Tryz.func96,Tryz.ntmps96
 go_wp2_with fail
 refine q.mono ?_
 rintro e w2 ⟨rfl,hb2⟩
 go_wp2_with fail
 go_ret2
 exact ⟨rfl,by first | exact hb2 | exact hb2.below⟩
section
variable {p:Option Addr} {a err:Int} {w:World}
set_option maxRecDepth 100000 in
set_option maxHeartbeats 1000000 in
theorem count_e (hl:LookE p a err w) (he:(err != 0) = true):Calls Tryz.prog 28 #[.pointer p,.int .i64 a] w fun e w'=>e = .returned (.tuple #[.agg #[.string ⟨#[]⟩],.int .i64 err])∧Below w.heap.size w w':=by
 have hb1:=(Below.refl w.heap.size w).alloc (Nat.le_refl _) (.cells #[.string ⟨#[]⟩] 52)
 have hx1:=heap_alloc_new w (.cells #[.string ⟨#[]⟩] 52)
 obtain ⟨w1,hw1⟩:∃ w1,w1 = w.alloc (.cells #[.string ⟨#[]⟩] 52):=⟨_,rfl⟩
 rw [←hw1] at hb1 hx1
 have q:=hl w1 hb1
 go_enter Tryz.func28,Tryz.ntmps28
 go_wp2_with fail
 rw [←hw1]
 replace hw1:=Lib.hid hw1
 refine q.mono ?_
 rintro e w2 ⟨rfl,hb2⟩
 have hr2:=(hb2.block _ (Array.getElem?_eq_some_iff.1 hx1).1).trans hx1
 have fz:w2.frozen? ⟨w.heap.size,0,none⟩ = false:=by simp [World.frozen?,hr2]
 have hcc:w2.cell? ⟨w.heap.size,0,none⟩ = some (.string ⟨#[]⟩):=by simp [World.cell?,hr2]
 have hfin:((w2.setCell ⟨w.heap.size,0,none⟩ (.string ⟨#[]⟩)).cell? ⟨w.heap.size,0,none⟩ = some (.string ⟨#[]⟩)):=by simp [World.cell?,heap_set hr2 0 _]
 have hbe:=(hb1.trans (hb2.mono hb1.size)).setCell (p:=⟨w.heap.size,0,none⟩) (Nat.le_refl _) (.string ⟨#[]⟩)
 replace hfin:=Lib.hid hfin
 replace hbe:=Lib.hid hbe
 clear q hb1 hb2 hx1 hr2
 go_wp2_with fail
 refine bodyPost_ret (v:=.tuple #[.agg #[.string ⟨#[]⟩],.int .i64 err]) (by simp [results,Tryz.results28,go_sem,hfin.out]) rfl ⟨rfl,hbe.out⟩
set_option maxRecDepth 100000 in
set_option maxHeartbeats 1000000 in
theorem given_e (hl:LookE p a err w) (he:(err != 0) = true) (z:Int):Calls Tryz.prog 34 #[.pointer p,.int .i64 a,.int .i64 z] w fun e w'=>e = .returned (.tuple #[.int .i64 0,.int .i64 err])∧Below w.heap.size w w':=by
 have q:=hl w (Below.refl _ _)
 go_enter Tryz.func34,Tryz.ntmps34
 go_wp2_with fail
 refine q.mono ?_
 rintro e w2 ⟨rfl,hb2⟩
 clear q
 go_wp2_with fail
 go_ret2
 exact ⟨rfl,hb2⟩
set_option maxRecDepth 100000 in
set_option maxHeartbeats 1000000 in
theorem exists_e (hl:LookE p a err w) (he:(err != 0) = true) (z:Int):Calls Tryz.prog 35 #[.pointer p,.int .i64 a,.int .i64 z] w fun e w'=>e = .returned (.tuple #[.int .i64 0,.int .i64 err])∧Below w.heap.size w w':=by
 have q:=hl w (Below.refl _ _)
 go_enter Tryz.func35,Tryz.ntmps35
 go_wp2_with fail
 refine q.mono ?_
 rintro e w2 ⟨rfl,hb2⟩
 clear q
 go_wp2_with fail
 go_ret2
 exact ⟨rfl,hb2⟩
set_option maxRecDepth 100000 in
set_option maxHeartbeats 1000000 in
theorem net_e (hl:LookE p a err w) (he:(err != 0) = true):Calls Tryz.prog 57 #[.pointer p,.int .i64 a] w fun e w'=>e = .returned (.tuple #[.agg #[.int .i64 0,.slice none 0 0],.int .i64 err])∧Below w.heap.size w w':=by
 have hb1:=(Below.refl w.heap.size w).alloc (Nat.le_refl _) (.cells #[.int .i64 0,.slice none 0 0] 95)
 have hx1:=heap_alloc_new w (.cells #[.int .i64 0,.slice none 0 0] 95)
 obtain ⟨w1,hw1⟩:∃ w1,w1 = w.alloc (.cells #[.int .i64 0,.slice none 0 0] 95):=⟨_,rfl⟩
 rw [←hw1] at hb1 hx1
 have q:=hl w1 hb1
 go_enter Tryz.func57,Tryz.ntmps57
 go_wp2_with fail
 rw [←hw1]
 replace hw1:=Lib.hid hw1
 refine q.mono ?_
 rintro e w2 ⟨rfl,hb2⟩
 have hr2:=(hb2.block _ (Array.getElem?_eq_some_iff.1 hx1).1).trans hx1
 have fz0:w2.frozen? ⟨w.heap.size,0,none⟩ = false:=by simp [World.frozen?,hr2]
 have fz1:w2.frozen? ⟨w.heap.size,1,none⟩ = false:=by simp [World.frozen?,hr2]
 have hc0:w2.cell? ⟨w.heap.size,0,none⟩ = some (.int .i64 0):=by simp [World.cell?,hr2]
 have hc1:w2.cell? ⟨w.heap.size,1,none⟩ = some (.slice none 0 0):=by simp [World.cell?,hr2]
 have hf:=heap_set2 hr2 (.int .i64 0) (.slice none 0 0)
 have hf0:((w2.setCell ⟨w.heap.size,0,none⟩ (.int .i64 0)).setCell ⟨w.heap.size,1,none⟩ (.slice none 0 0)).cell? ⟨w.heap.size,0,none⟩ = some (.int .i64 0):=by simp [World.cell?,hf]
 have hf1:((w2.setCell ⟨w.heap.size,0,none⟩ (.int .i64 0)).setCell ⟨w.heap.size,1,none⟩ (.slice none 0 0)).cell? ⟨w.heap.size,1,none⟩ = some (.slice none 0 0):=by simp [World.cell?,hf]
 have hbe:=((hb1.trans (hb2.mono hb1.size)).setCell (p:=⟨w.heap.size,0,none⟩) (Nat.le_refl _) (.int .i64 0)).setCell (p:=⟨w.heap.size,1,none⟩) (Nat.le_refl _) (.slice none 0 0)
 replace hf0:=Lib.hid hf0
 replace hf1:=Lib.hid hf1
 replace hbe:=Lib.hid hbe
 clear q hb1 hb2 hx1 hr2 hf
 go_wp2_with fail
 refine bodyPost_ret (v:=.tuple #[.agg #[.int .i64 0,.slice none 0 0],.int .i64 err]) (by simp [results,Tryz.results57,go_sem,hf0.out,hf1.out]) rfl ⟨rfl,hbe.out⟩
end
set_option maxRecDepth 100000 in
set_option maxHeartbeats 16000000 in
theorem errs27_any {n:Int} {T:List (List Int)} {u:Value} {t:List VN} {z0 z1:Int} (w:World) (ba:Option Addr) (cap:Nat) (hT:TzTab w) (hP:PowTab w) (hv:SlT w u T∧T.length≤9223372036854775807∧(-9223372036854775808≤n∧n≤9223372036854775807)) (ht:t = []∨∃ b o,ba = some ⟨b,o,none⟩∧TreeAt w b o t) (htl:t.length≤5864062014805)
  (hz:(-9223372036854775808≤z0∧z0≤9223372036854775807)∧(-9223372036854775808≤z1∧z1≤9223372036854775807)) :
  Calls Tryz.prog 10 #[.agg #[.int .i64 n,u],.slice ba t.length cap,.agg #[.int .i64 z0,.int .i64 z1]] w fun e w'=>e = .returned (.bool true)∧Below w.heap.size w w':=by
 obtain ⟨hv,hlT,_⟩:=hv
 obtain ⟨e0,e1⟩:=alloc2h w (.cells #[.int .i64 n,u] 24) (.cells #[.int .i64 z0,.int .i64 z1] 64)
 have hx1:Ext w ((w.alloc (.cells #[.int .i64 n,u] 24)).alloc (.cells #[.int .i64 z0,.int .i64 z1] 64)):=((Ext.refl w).alloc _).alloc _
 have hw:∀ W,Below w.heap.size w W→Calls Tryz.prog 16 #[] W fun e w''=>e = .returned (.bool true)∧Below W.heap.size W w'':=fun W hx=>works27_any W (hT.same (hx.block _ hT.lt')) (hP.same (hx.block _ hP.lt))
 obtain ⟨w1,hw1⟩:∃ w1,w1 = (w.alloc (.cells #[.int .i64 n,u] 24)).alloc (.cells #[.int .i64 z0,.int .i64 z1] 64):=⟨_,rfl⟩
 rw [←hw1] at e0 e1 hx1
 have F:∀ W,Below w1.heap.size w1 W→(W.cell? ⟨w.heap.size,0,none⟩ = some (.int .i64 n)∧W.cell? ⟨w.heap.size,1,none⟩ = some u)∧(W.cell? ⟨w.heap.size+1,0,none⟩ = some (.int .i64 z0)∧W.cell? ⟨w.heap.size+1,1,none⟩ = some (.int .i64 z1)):=fun W hW=>by
  have h0:=(hW.block _ (Array.getElem?_eq_some_iff.1 e0).1).trans e0
  have h1:=(hW.block _ (Array.getElem?_eq_some_iff.1 e1).1).trans e1
  exact ⟨⟨by rw [World.cell?,h0];rfl,by rw [World.cell?,h0];rfl⟩,⟨by rw [World.cell?,h1];rfl,by rw [World.cell?,h1];rfl⟩⟩
 have ql:=fun (W:World) (h:Below w.heap.size w W)=>light27_any (n:=n) (hv.ext h) hlT
 have qf:∀ W,Below w.heap.size w W→Calls Tryz.prog 15 #[.slice ba t.length cap] W fun e w'=>e = .returned (.bool (few27B t))∧Ext W w':=fun W hx=>few27_any W ba cap (refchk_any W ba cap (ht.imp id fun ⟨b,o,e,h⟩=>⟨b,o,e,h.below hx⟩) htl)
 have hvh:=Lib.hid hv
 obtain ⟨bb,cp,rfl,_⟩:=hv
 obtain ⟨⟨_,_⟩,c2,c3⟩:=F w1 (Below.refl _ _)
 have q1:=count_e (look_nil z0 w1) (by decide)
 have hx1b:=hx1.below
 replace e0:=Lib.hid e0
 replace e1:=Lib.hid e1
 replace hw:=Lib.hid hw
 replace F:=Lib.hid F
 replace ql:=Lib.hid ql
 replace qf:=Lib.hid qf
 replace hx1:=Lib.hid hx1
 replace hx1b:=Lib.hid hx1b
 go_enter Tryz.func10,Tryz.ntmps10
 go_wp2_with fail
 rw [←hw1]
 replace hw1:=Lib.hid hw1
 try go_wp2_with fail
 refine q1.mono ?_
 rintro e w2 ⟨rfl,hb2⟩
 have hbA:Below w2.heap.size w2 (w2.alloc (.cells #[.string ⟨#[]⟩] 52)):=(Below.refl _ _).alloc (Nat.le_refl _) _
 obtain ⟨w3,hw3⟩:∃ w3,w3 = w2.alloc (.cells #[.string ⟨#[]⟩] 52):=⟨_,rfl⟩
 have hb3:Below w1.heap.size w1 (w2.alloc (.cells #[.string ⟨#[]⟩] 52)):=hb2.trans (hbA.mono hb2.size)
 obtain ⟨_,d2,d3⟩:=F.out _ hb3
 have q2:=given_e (look_nil z0 w3) (by decide) z1
 rw [←hw3] at hb3
 clear q1 hbA hb2 c2 c3
 go_wp2_with fail
 rw [←hw3]
 replace hw3:=Lib.hid hw3
 refine q2.mono ?_
 rintro e w4 ⟨rfl,hb4⟩
 have hb14:=hb3.trans (hb4.mono hb3.size)
 obtain ⟨_,c2,c3⟩:=F.out _ hb14
 have q3:=exists_e (look_nil z0 w4) (by decide) z1
 clear q2 hb4 hb3 d2 d3
 go_wp2_with fail
 refine q3.mono ?_
 rintro e w5 ⟨rfl,hb5⟩
 have hb15:=hb14.trans (hb5.mono hb14.size)
 obtain ⟨_,d2,d3⟩:=F.out _ hb15
 have q4:=net_e (look_nil z0 w5) (by decide)
 clear q3 hb5 hb14 c2 c3
 go_wp2_with fail
 refine q4.mono ?_
 rintro e w6 ⟨rfl,hb6⟩
 have hbB:Below w6.heap.size w6 (w6.alloc (.cells #[.int .i64 0,.slice none 0 0] 95)):=(Below.refl _ _).alloc (Nat.le_refl _) _
 obtain ⟨w7,hw7⟩:∃ w7,w7 = w6.alloc (.cells #[.int .i64 0,.slice none 0 0] 95):=⟨_,rfl⟩
 have hb16:=hb15.trans (hb6.mono hb15.size)
 have hb17:Below w1.heap.size w1 (w6.alloc (.cells #[.int .i64 0,.slice none 0 0] 95)):=hb16.trans (hbB.mono hb16.size)
 obtain ⟨⟨c0,c1⟩,_⟩:=F.out _ hb17
 rw [←hw7] at hb17
 have hbe7:=hx1b.out.trans (hb17.mono hx1b.out.size)
 have q5:=ql.out w7 hbe7
 replace hbe7:=Lib.hid hbe7
 clear q4 hb6 hbB hb15 hb16 d2 d3
 go_wp2_with fail
 rw [←hw7]
 replace hw7:=Lib.hid hw7
 refine q5.mono ?_
 rintro e w8 ⟨rfl,hx8⟩
 have hb18:=hb17.trans (hx8.below.mono hb17.size)
 have hbe8:=hbe7.out.trans (hx8.below.mono hbe7.out.size)
 have qw8:=hw.out w8 hbe8
 have q6:=qf.out w8 hbe8
 replace hbe8:=Lib.hid hbe8
 clear q5 hx8 hb17 c0 c1
 cases hL:light27B n T
 ·clear q6
  go_wp2_with fail
  refine qw8.mono ?_
  rintro e w9 ⟨rfl,hb9⟩
  go_wp2_with fail
  go_ret
  exact ⟨rfl,hbe8.out.trans (hb9.mono hbe8.out.size)⟩
 ·clear qw8
  go_wp2_with fail
  refine q6.mono ?_
  rintro e w9 ⟨rfl,hx9⟩
  have hb19:=hb18.trans (hx9.below.mono hb18.size)
  have hbe9:=hbe8.out.trans (hx9.below.mono hbe8.out.size)
  have qw9:=hw.out w9 hbe9
  obtain ⟨⟨c0,c1⟩,_⟩:=F.out _ hb19
  replace hbe9:=Lib.hid hbe9
  clear q6 hx9 hb18
  cases hF:few27B t
  ·go_wp2_with fail
   refine qw9.mono ?_
   rintro e w10 ⟨rfl,hb10⟩
   go_wp2_with fail
   go_ret
   exact ⟨rfl,hbe9.out.trans (hb10.mono hbe9.out.size)⟩
  ·clear qw9
   by_cases hE:compE n T t = 0
   ·obtain ⟨hok,hc,hsub⟩:=compE_ok hE
    obtain ⟨b,o,rfl,htr⟩:=tree_some hc ht
    have hfew:=few_len hF hc
    have h30:=light_few hL hok
    have qc:=compile_ok (hvh.out.ext hbe9.out) b o cap hok h30 (htr.below hbe9.out) hc hfew hsub (hT.same (hbe9.out.block _ hT.lt')) (hP.same (hbe9.out.block _ hP.lt))
    replace hsub:=Lib.hid hsub
    replace htr:=Lib.hid htr
    replace hok:=Lib.hid hok
    replace hc:=Lib.hid hc
    replace hE:=Lib.hid hE
    clear hL hF ht
    go_wp2_with fail
    refine qc.mono ?_
    rintro e w10 ⟨sb,root,s,rfl,hS10,hv10,hb10⟩
    have hb110:=hb19.trans (hb10.mono hb19.size)
    have hbe10:=hbe9.out.trans (hb10.mono hbe9.out.size)
    obtain ⟨⟨_,_⟩,d2,d3⟩:=F.out _ hb110
    by_cases hin:0≤z0∧z0 < (s.nodes.length:Int)
    ·obtain ⟨k,rfl⟩:∃ k:Nat,z0 = k:=⟨z0.toNat,by omega⟩
     have q7:=hS10.at (a:=k) (n:=s.nodes[k]'(by omega)) (List.getElem?_eq_getElem (by omega))
     replace hS10:=Lib.hid hS10
     clear qc hb10 c0 c1
     go_wp2_with fail
     refine q7.mono ?_
     rintro e w11 ⟨rfl,hb11⟩
     have hbe11:=hbe10.trans (hb11.mono hbe10.size)
     have qw:=hw.out w11 hbe11
     clear q7
     go_wp2_with fail
     refine qw.mono ?_
     rintro e w12 ⟨rfl,hb12⟩
     go_wp2_with fail
     go_ret
     exact ⟨rfl,hbe11.trans (hb12.mono hbe11.size)⟩
    ·obtain ⟨B,rfl,_,_,_,hSS⟩:=hS10.ss
     have hR:=check_bad hSS z0 hin
     have q7:=at_ref (a:=z0) hR (by simp) (by decide)
     have hLk:=look_bad (a:=z0) hR (by simp) (by decide)
     have hnq:=fun W=>natEq (a:=0) (b:=0) (by omega) (by omega) W
     rw [decide_eq_true rfl,show natV 0 = .agg #[.string ⟨#[]⟩] from rfl] at hnq
     replace hS10:=Lib.hid hS10
     replace hSS:=Lib.hid hSS
     replace hR:=Lib.hid hR
     replace hLk:=Lib.hid hLk
     replace hin:=Lib.hid hin
     clear qc hb10 c0 c1
     go_wp2_with fail
     refine q7.mono ?_
     rintro e w11 ⟨rfl,hx11⟩
     have hb111:=hb110.trans (hx11.below.mono hb110.size)
     have hbe11:=hbe10.trans (hx11.below.mono hbe10.size)
     obtain ⟨_,c2,c3⟩:=F.out _ hb111
     have hL11:=hLk.out.ext hx11.below
     have q8:=count_e hL11 (by decide)
     replace hL11:=Lib.hid hL11
     clear q7 d2 d3 hb110 hx11
     go_wp2_with fail
     refine q8.mono ?_
     rintro e w12 ⟨rfl,hb12⟩
     have hbC:Below w12.heap.size w12 (w12.alloc (.cells #[.string ⟨#[]⟩] 52)):=(Below.refl _ _).alloc (Nat.le_refl _) _
     have nC:=heap_alloc_new w12 (.cells #[.string ⟨#[]⟩] 52)
     obtain ⟨w13,hw13⟩:∃ w13,w13 = w12.alloc (.cells #[.string ⟨#[]⟩] 52):=⟨_,rfl⟩
     have hb1113:=hb12.trans (hbC.mono hb12.size)
     have hb113:=hb111.trans (hb1113.mono hb111.size)
     have hbe13:=hbe11.trans (hb1113.mono hbe11.size)
     obtain ⟨_,d2,d3⟩:=F.out _ hb113
     rw [←hw13] at nC hb113 hbe13 hb1113
     have hL13:=hL11.out.ext hb1113
     have q9:=given_e hL13 (by decide) z1
     replace hL13:=Lib.hid hL13
     clear q8 c2 c3 hb111 hb12 hbC hb1113
     go_wp2_with fail
     rw [←hw13]
     replace hw13:=Lib.hid hw13
     refine q9.mono ?_
     rintro e w14 ⟨rfl,hb14⟩
     have hb114:=hb113.trans (hb14.mono hb113.size)
     have hbe14:=hbe13.trans (hb14.mono hbe13.size)
     obtain ⟨_,c2,c3⟩:=F.out _ hb114
     have nC4:=(hb14.block _ (Array.getElem?_eq_some_iff.1 nC).1).trans nC
     have hL14:=hL13.out.ext hb14
     have q10:=exists_e hL14 (by decide) z1
     replace hL14:=Lib.hid hL14
     clear q9 d2 d3 hb113 hb14 nC
     go_wp2_with fail
     refine q10.mono ?_
     rintro e w15 ⟨rfl,hb15⟩
     have hb115:=hb114.trans (hb15.mono hb114.size)
     have hbe15:=hbe14.trans (hb15.mono hbe14.size)
     obtain ⟨_,d2,d3⟩:=F.out _ hb115
     have nC5:=(hb15.block _ (Array.getElem?_eq_some_iff.1 nC4).1).trans nC4
     have hL15:=hL14.out.ext hb15
     have q11:=net_e hL15 (by decide)
     replace hL15:=Lib.hid hL15
     clear q10 c2 c3 hb114 hb15 nC4
     go_wp2_with fail
     refine q11.mono ?_
     rintro e w16 ⟨rfl,hb16⟩
     have hbD:Below w16.heap.size w16 (w16.alloc (.cells #[.int .i64 0,.slice none 0 0] 95)):=(Below.refl _ _).alloc (Nat.le_refl _) _
     have nD:=heap_alloc_new w16 (.cells #[.int .i64 0,.slice none 0 0] 95)
     have nC6:=(hbD.block _ (Nat.lt_of_lt_of_le (Array.getElem?_eq_some_iff.1 nC5).1 hb16.size)).trans ((hb16.block _ (Array.getElem?_eq_some_iff.1 nC5).1).trans nC5)
     have hb1517:=hb16.trans (hbD.mono hb16.size)
     have hbe17:=hbe15.trans (hb1517.mono hbe15.size)
     obtain ⟨w17,hw17⟩:∃ w17,w17 = w16.alloc (.cells #[.int .i64 0,.slice none 0 0] 95):=⟨_,rfl⟩
     have k1:(w16.alloc (.cells #[.int .i64 0,.slice none 0 0] 95)).cell? ⟨w12.heap.size,0,none⟩ = some (.string ⟨#[]⟩):=by rw [World.cell?,nC6];rfl
     have k2:(w16.alloc (.cells #[.int .i64 0,.slice none 0 0] 95)).cell? ⟨w16.heap.size,1,none⟩ = some (.slice none 0 0):=by rw [World.cell?,nD];rfl
     rw [←hw17] at nC6 nD hbe17
     have qw:=hw.out w17 hbe17
     clear q11 d2 d3 hb115 hb16 hbD nC5 hb1517
     go_wp2_with fail
     rw [←hw17]
     replace hw17:=Lib.hid hw17
     refine qw.mono ?_
     rintro e w18 ⟨rfl,hb18⟩
     go_wp2_with fail
     go_ret
     exact ⟨rfl,hbe17.trans (hb18.mono hbe17.size)⟩
   ·have qc:=compile_no (hvh.out.ext hbe9.out) ba cap (ht.imp id fun ⟨b,o,e,h⟩=>⟨b,o,e,h.below hbe9.out⟩) hE
    have hd:(compE n T t != 0) = true:=by simpa using hE
    generalize compE n T t = zE at *
    replace hE:=Lib.hid hE
    go_wp2_with fail
    refine qc.mono ?_
    rintro e w10 ⟨rfl,hb10⟩
    have hbe10:=hbe9.out.trans (hb10.mono hbe9.out.size)
    have qw:=hw.out w10 hbe10
    clear qc
    go_wp2_with fail
    refine qw.mono ?_
    rintro e w11 ⟨rfl,hb11⟩
    go_wp2_with fail
    go_ret
    exact ⟨rfl,hbe10.trans (hb11.mono hbe10.size)⟩
end Go.Proofs.YtmnjakejhbpkoaaGreatDoor
end
section
set_option linter.unusedSimpArgs false
set_option linter.unusedVariables false
namespace Go.Proofs.YtmnjakejhbpkoaaGreatDoor.Cerrs
open Go
set_option maxRecDepth 100000
noncomputable abbrev pp:Program:=Tryz.pinned.checked.prog
abbrev cc:OpenClaim:=Rows.sddcErrorsRow
abbrev ss:ChangeSpec:=(OpenSpec.ofChange Rows.sddcErrorsSpec).bare
theorem k1:cc.wf (OpenSpec.ofChange ss) = true:=by kernel_rfl
theorem k2:laidOutB pp = true:=by kernel_rfl
theorem k3:mapsRowed pp = true:=by kernel_rfl
theorem k4:Tryz.f10.params.all (pp.readableRec ·) = true:=by kernel_rfl
theorem k5:namedTie pp cc.named ss.vars = true:=by kernel_rfl
theorem k6:(cc.stops == []) = true:=by kernel_rfl
theorem k7:(pp.stops == []) = true:=by kernel_rfl
theorem k8:(cc.knobs == []) = true:=by kernel_rfl
theorem k9:(pp.stopKnobs == []) = true:=by kernel_rfl
theorem k10:(cc.inPlace == pp.inPlace 10) = true:=by kernel_rfl
theorem k11:(cc.unfollowed == pp.unfollowed 10) = true:=by kernel_rfl
theorem k12:(cc.recurses == pp.recurses 10) = true:=by kernel_rfl
theorem k13:(cc.named == pp.varsNamed 10) = true:=by kernel_rfl
theorem closed:joinedFacts pp 10 Tryz.f10 ss cc = true:=by
 unfold joinedFacts
 rw [k1,k2,k3,k4,k5,k6,k7,k8,k9,k10,k11,k12,k13]
 kernel_rfl
end Go.Proofs.YtmnjakejhbpkoaaGreatDoor.Cerrs
end
