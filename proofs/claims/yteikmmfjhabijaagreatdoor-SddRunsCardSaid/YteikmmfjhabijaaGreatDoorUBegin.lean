import Derived.Test.YteikmmfjhabijaaGreatDoorURunG
import Derived.Test.YteikmmfjhabijaaGreatDoorURefChk
import Derived.Test.YteikmmfjhabijaaGreatDoorUKnown
set_option linter.unusedSimpArgs false
set_option linter.unusedVariables false
namespace Go.Proofs.YteikmmfjhabijaaGreatDoor
open Go Go.RowKit Go.Shelf
structure OpD where
 kd:Int
 a:Int
 b:Int
def OpD.ok (p:OpD):Prop:=(0≤p.kd∧p.kd≤255)∧(-9223372036854775808≤p.a∧p.a≤9223372036854775807)∧(-9223372036854775808≤p.b∧p.b≤9223372036854775807)
def OpAt (w:World) (b o:Nat) (p:OpD):Prop:=w.cell? ⟨b,o,none⟩ = some (.int .u8 p.kd)∧w.cell? ⟨b,o+1,none⟩ = some (.int .i64 p.a)∧w.cell? ⟨b,o+2,none⟩ = some (.int .i64 p.b)
def OpsIn (w:World) (bo:Option Addr) (os:List OpD):Prop:=(∀ p∈os,p.ok)∧(os = []∨∃ b o,bo = some ⟨b,o,none⟩∧∀ j (hj:j < os.length),OpAt w b (o+j * 3) os[j])
def lightB (t:List VN) (n:Nat):Bool:=decide (0 < t.length) && (decide (t.length≤9) && (decide (n≤25) && decide (checkF t = 0)))
set_option maxRecDepth 100000 in
set_option maxHeartbeats 2000000 in
theorem light_any {t:List VN} {n:Nat} (w:World) (ba bo:Option Addr) (cap co:Nat) (h:t = []∨∃ b o,ba = some ⟨b,o,none⟩∧TreeAt w b o t) :
  Calls Tryz.prog 15 #[.agg #[.slice ba t.length cap,.slice bo n co]] w fun e w'=>e = .returned (.bool (lightB t n))∧Ext w w':=by
 have hxb:=(Ext.refl w).alloc (.cells #[.slice ba t.length cap,.slice bo n co] 26)
 by_cases h0:0 < t.length
 ·have d0:decide ((t.length:Int) > 0) = true:=decide_eq_true (by omega)
  by_cases h9:t.length≤9
  ·have d1:decide ((t.length:Int)≤9) = true:=decide_eq_true (by omega)
   by_cases hn:n≤25
   ·have d2:decide ((n:Int)≤25) = true:=decide_eq_true (by omega)
    have hq:=refchk_any (w.alloc (.cells #[.slice ba t.length cap,.slice bo n co] 26)) ba cap (h.imp id (fun ⟨b,o,e,ht⟩=>⟨b,o,e,ht.ext hxb⟩)) (by omega)
    have hl:lightB t n = (checkF t == 0):=by
     unfold lightB
     rw [decide_eq_true h0,decide_eq_true h9,decide_eq_true hn]
     by_cases hc:checkF t = 0 <;> simp [hc]
    rw [hl]
    generalize checkF t = z at *
    clear hl
    go_enter Tryz.func15,Tryz.ntmps15
    go_wp2_with fail
    refine hq.mono ?_
    rintro e w1 ⟨rfl,hx1⟩
    clear hq
    go_wp2_with fail
    go_ret
    exact ⟨by rfl,hxb.trans hx1⟩
   ·have d2:decide ((n:Int)≤25) = false:=decide_eq_false (by omega)
    have hl:lightB t n = false:=by
     unfold lightB
     rw [decide_eq_false hn];simp
    rw [hl]
    go_enter Tryz.func15,Tryz.ntmps15
    go_wp2_with fail
    go_ret
    exact ⟨by rfl,hxb⟩
  ·have d1:decide ((t.length:Int)≤9) = false:=decide_eq_false (by omega)
   have hl:lightB t n = false:=by
    unfold lightB
    rw [decide_eq_false h9];simp
   rw [hl]
   go_enter Tryz.func15,Tryz.ntmps15
   go_wp2_with fail
   go_ret
   exact ⟨by rfl,hxb⟩
 ·have d0:decide ((t.length:Int) > 0) = false:=decide_eq_false (by omega)
  have hl:lightB t n = false:=by
   unfold lightB
   rw [decide_eq_false h0];simp
  rw [hl]
  go_enter Tryz.func15,Tryz.ntmps15
  go_wp2_with fail
  go_ret
  exact ⟨by rfl,hxb⟩
set_option maxRecDepth 100000 in
set_option maxHeartbeats 4000000 in
theorem begin_any {wa w:World} {t:List VN} {l:List Int} (b o cap:Nat) (hba:Below wa.heap.size wa w) (hglob:gPow < wa.heap.size∧gTz < wa.heap.size) (hT:TzTab w) (hP:PowTab w) (h:TreeAt w b o t) (hc:checkF t = 0) (t9:t.length≤9) (hl:varsR t = some l) (hl6:l.length≤6) (hl0:0 < l.length) :
  Calls Tryz.prog 17 #[.slice (some ⟨b,o,none⟩) t.length cap] w fun e w'=>∃ sb va vf rs,e = .returned (runV sb va vf)∧RunAt wa [] t l sb 300000 (newSt t) va vf rs w'∧rs.length = 2:=by
 generalize hx:w.heap.size = x at *
 have hNx:wa.heap.size≤x:=by rw [←hx];exact hba.size
 have hbox:=heap_alloc_new w (.cells #[.pointer none,.slice none 0 0,.slice none 0 0,.bool false] 35)
 have hb1:=(Below.refl w.heap.size w).alloc (Nat.le_refl _) (.cells #[.pointer none,.slice none 0 0,.slice none 0 0,.bool false] 35)
 have hs1:(w.alloc (.cells #[.pointer none,.slice none 0 0,.slice none 0 0,.bool false] 35)).heap.size = x+1:=by simp [hx]
 rw [hx] at hbox
 have t0:0 < t.length:=(check_ok hc).1
 have q1:=new_v (w.alloc (.cells #[.pointer none,.slice none 0 0,.slice none 0 0,.bool false] 35)) b o cap (hT.same (hb1.block _ hT.lt')) (hP.same (hb1.block _ hP.lt)) (h.below hb1) hc (by omega)
 replace hl:=Lib.hid hl
 replace h:=Lib.hid h
 replace hbox:=Lib.hid hbox
 replace hx:=Lib.hid hx
 replace hc:=Lib.hid hc
 go_enter Tryz.func17,Tryz.ntmps17
 go_wp2_with fail
 simp only [hx.out]
 generalize w.alloc (.cells #[.pointer none,.slice none 0 0,.slice none 0 0,.bool false] 35) = w1 at *
 refine q1.mono ?_
 rintro e w2 ⟨B,rfl,hS2,hz2,ho2,hm2,hb2⟩
 have hb02:Below w.heap.size w w2:=hb1.trans (hb2.mono hb1.size)
 have q2:=refVars_any w2 b o cap l (h.out.below hb02) t0 (by omega) hl.out
 obtain ⟨B2,hsb,hR2,_,hSt⟩:=hS2.here
 generalize hsb0:B.sb = sb at *
 replace hsb:=Lib.hid hsb
 have hroom:=hS2.room
 have htree:=hS2.tree
 have hm22:∀ m∈B2.mut,wa.heap.size≤m:=fun m hm=>(hSt.new m hm).elim (fun h=>by have:=hm2 m h;omega) (fun h=>by have:=hb2.size;omega)
 clear q1 hS2 hSt
 replace hroom:=Lib.hid hroom
 replace hR2:=Lib.hid hR2
 go_wp2_with fail
 refine q2.mono ?_
 rintro e w3 ⟨vl,rfl,ho3,hb3⟩
 obtain ⟨gv,cv,rfl,hgv⟩:=own_at ho3 hl0
 have hs2:x+1≤w2.heap.size:=by have:=hb2.size;omega
 have hs3:=hb3.size
 have hbox3:=(hb3.block x (by omega)).trans ((hb2.block x (by omega)).trans hbox.out)
 have q3:=const_any l.length hl6 false (w3.alloc (.cells #[.int .i64 0,.int .i64 1] 3))
 have hoA:(w3.alloc (.cells #[.int .i64 0,.int .i64 1] 3)).ownsRow wa.heap.size 3 1 (.slice (some ⟨w3.heap.size,0,none⟩) 2 2) 2 [.int .i64 0,.int .i64 1]:=World.ownsRow_lit w3 #[.int .i64 0,.int .i64 1] 2 (by omega) (by unfold maxLen;omega) rfl
 have b3a:=(Below.refl w3.heap.size w3).alloc (Nat.le_refl _) (.cells #[.int .i64 0,.int .i64 1] 3)
 have hbw3:Below wa.heap.size wa w3:=hba.trans ((hb02.trans (hb3.mono hb02.size)).mono (by rw [hx.out];exact hNx))
 clear q2 ho3
 replace hoA:=Lib.hid hoA
 replace hbox3:=Lib.hid hbox3
 go_wp2_with fail
 refine q3.mono ?_
 rintro e w4 hr4
 obtain ⟨g4,c4,ln4,rfl,htab4,b4⟩:=hr4.outs
 have q4:=const_any l.length hl6 true w4
 have b34:=b3a.trans (b4.mono b3a.size)
 clear q3 hr4
 replace htab4:=Lib.hid htab4
 go_wp2_with fail
 refine q4.mono ?_
 rintro e w5 hr5
 obtain ⟨g5,c5,ln5,rfl,htab5,b5⟩:=hr5.outs
 have b35:=b34.trans (b5.mono b34.size)
 have hoF:(w5.alloc (.cells #[.slice (some ⟨g4,0,none⟩) ln4 c4,.slice (some ⟨g5,0,none⟩) ln5 c5] 43)).ownsRow wa.heap.size 43 1 (.slice (some ⟨w5.heap.size,0,none⟩) 2 2) 2 [.slice (some ⟨g4,0,none⟩) ln4 c4,.slice (some ⟨g5,0,none⟩) ln5 c5]:=World.ownsRow_lit w5 #[.slice (some ⟨g4,0,none⟩) ln4 c4,.slice (some ⟨g5,0,none⟩) ln5 c5] 2 (by have:=b35.size;omega) (by unfold maxLen;omega) rfl
 have b5a:=(Below.refl w5.heap.size w5).alloc (Nat.le_refl _) (.cells #[.slice (some ⟨g4,0,none⟩) ln4 c4,.slice (some ⟨g5,0,none⟩) ln5 c5] 43)
 have b36:=b35.trans (b5a.mono b35.size)
 have hbz:=(b36.block x (by omega)).trans hbox3.out
 obtain ⟨w6,hw6⟩:∃ w6,w6 = w5.alloc (.cells #[.slice (some ⟨g4,0,none⟩) ln4 c4,.slice (some ⟨g5,0,none⟩) ln5 c5] 43):=⟨_,rfl⟩
 rw [←hw6] at hoF b5a b36 hbz
 have b46:=(b5.trans (b5a.mono b5.size))
 have h6:RunG wa.heap.size [] t sb 300000 (newSt t) (.slice (some ⟨w3.heap.size,0,none⟩) 2 2) [.int .i64 0,.int .i64 1] (.slice (some ⟨w5.heap.size,0,none⟩) 2 2) [.slice (some ⟨g4,0,none⟩) ln4 c4,.slice (some ⟨g5,0,none⟩) ln5 c5] [(.slice (some ⟨g4,0,none⟩) ln4 c4,tabN (2 ^ l.length) fun _=>false),(.slice (some ⟨g5,0,none⟩) ln5 c5,tabN (2 ^ l.length) fun _=>true)] w6 :=
  { sp:=⟨B2,hsb.out,hR2.out.below (hb3.trans (b36.mono hb3.size)),hm22⟩
    room:=hroom.out
    tree:=htree
    oa:=own_lift' hoA.out (b4.trans (b46.mono b4.size))
    of:=hoF
    tab:=fun p hp=>by
     rcases List.mem_cons.1 hp with rfl | hp
     ·exact htab4.out.calm fun g cs hg=>b46.block g (Array.getElem?_eq_some_iff.1 hg).1
     ·obtain rfl:=List.mem_singleton.1 hp
      exact htab5.calm fun g cs hg=>b5a.block g (Array.getElem?_eq_some_iff.1 hg).1
    sz:=by have:=b36.size;omega
    glob:=hglob
    hb:=fun p hp=>by cases hp }
 have hb6:Below wa.heap.size wa w6:=hbw3.trans (b36.mono (by omega))
 obtain ⟨u0,u1,u2,u3⟩:=box4 hbz
 have f0:w6.frozen? ⟨x,0,none⟩ = false:=by simp [World.frozen?,hbz]
 have f1:w6.frozen? ⟨x,1,none⟩ = false:=by simp [World.frozen?,hbz]
 have f2:w6.frozen? ⟨x,2,none⟩ = false:=by simp [World.frozen?,hbz]
 have f3:w6.frozen? ⟨x,3,none⟩ = false:=by simp [World.frozen?,hbz]
 clear q4 hr5 b36 b46 b35 b34 b3a b4 b5 b5a hb02 hb1 hb2 hb3 hbw3 hoF
 replace h6:=Lib.hid h6
 replace hb6:=Lib.hid hb6
 replace hbz:=Lib.hid hbz
 subst hw6
 go_wp2_with fail
 obtain ⟨h7,hb7,hbox7⟩:=run_set4 h6.out hbz.out hNx (fun p hp=>by cases hp) (.pointer (some ⟨sb,0,none⟩)) (.slice (some ⟨w3.heap.size,0,none⟩) 2 2) (.slice (some ⟨w5.heap.size,0,none⟩) 2 2) (.bool false) rfl
 obtain ⟨e0,e1,e2,e3⟩:=box4 hbox7
 refine bodyPost_ret (v:=runV sb (.slice (some ⟨w3.heap.size,0,none⟩) 2 2) (.slice (some ⟨w5.heap.size,0,none⟩) 2 2)) (by simp [results,Tryz.results17,go_sem,e0,e1,e2,e3,runV]) rfl ⟨_,_,_,[⟨0,fun _=>false,_,_⟩,⟨1,fun _=>true,_,_⟩],rfl,⟨h7,hb7 _ hb6.out,?_,?_⟩,rfl⟩
 ·intro r hr
  rcases List.mem_cons.1 hr with rfl | hr
  ·exact ⟨hz2,IsTab.const l false⟩
  ·obtain rfl:=List.mem_singleton.1 hr
   exact ⟨ho2,IsTab.const l true⟩
 ·exact ⟨_,_,[],rfl,rfl,rfl⟩
end Go.Proofs.YteikmmfjhabijaaGreatDoor
