import Derived.Test.YtmnjakejhbpkoaaGreatDoorWT27m
import Derived.Test.YtmnjakejhbpkoaaGreatDoorWEv5
import Derived.Test.YtmnjakejhbpkoaaGreatDoorWRf6
import Derived.Test.YtmnjakejhbpkoaaGreatDoorWVvars
import Derived.Laws.AppendOwnNone
import Derived.Test.YtmnjakejhbpkoaaGreatDoorWLaw12
section
set_option linter.unusedSimpArgs false
set_option linter.unusedVariables false
namespace Go.Proofs.YtmnjakejhbpkoaaGreatDoor
open Go Go.RowKit Go.Shelf
theorem with_or (s:VSet) (v:Int):withS s v = s ||| withS 0 v:=by
 refine L.set_ext fun i hi=>?_
 rw [BitVec.getLsbD_or,bit_with _ _ _ hi,bit_with _ _ _ hi]
 simp
theorem with_disj {s:VSet} {v:Int} (h:hasS s v = false) (hv:1≤v∧v≤128):s &&& withS 0 v = 0:=by
 refine L.set_ext fun i hi=>?_
 have e0:(0:VSet).getLsbD i = false:=BitVec.getLsbD_zero
 rw [BitVec.getLsbD_and,bit_with _ _ _ hi,e0]
 by_cases e:v = (i:Int)+1
 ·have:s.getLsbD i = false:=by rw [←L.hasS_bit _ _ hi,←e];exact h
  simp [this]
 ·simp [e]
theorem with_in {s:VSet} {v:Int} (h:hasS s v = true):withS s v = s:=by
 refine L.set_ext fun i hi=>?_
 rw [bit_with _ _ _ hi]
 by_cases e:v = (i:Int)+1
 ·have:s.getLsbD i = true:=by rw [←L.hasS_bit _ _ hi,←e];exact h
  simp [this]
 ·simp [e]
theorem plus_lo {s:VSet} {y:Nat} (h:hasS s (y:Int) = false) (h1:1≤y) (h2:y≤64):IntKind.u64.wrap (lo s+IntKind.u64.wrap (2 ^ (y - 1))) = lo (withS s y)∧hi (withS s y) = hi s:=by
 obtain ⟨k,rfl⟩:∃ k,y = k+1:=⟨y - 1,by omega⟩
 obtain ⟨l1,l2⟩:=leaf_lo (k:=k) (by omega)
 have hd:=with_disj h (by omega)
 rw [with_or s,Nat.add_sub_cancel,←add_lo hd,←add_hi hd]
 rw [show (((k+1:Nat):Int)) = (k:Int)+1 by omega,l1,l2]
 refine ⟨rfl,?_⟩
 rw [Int.add_zero,IntKind.wrap_u64]
 unfold hi
 have:=((s >>> 64).setWidth 64).isLt
 omega
theorem plus_hi {s:VSet} {y:Nat} (h:hasS s (y:Int) = false) (h1:65≤y) (h2:y≤128):IntKind.u64.wrap (hi s+IntKind.u64.wrap (2 ^ (y - 65))) = hi (withS s y)∧lo (withS s y) = lo s:=by
 obtain ⟨k,rfl⟩:∃ k,y = k+65:=⟨y - 65,by omega⟩
 obtain ⟨l1,l2⟩:=leaf_hi (k:=k) (by omega)
 have hd:=with_disj h (by omega)
 rw [with_or s,Nat.add_sub_cancel,←add_lo hd,←add_hi hd]
 rw [show (((k+65:Nat):Int)) = ((k+64:Nat):Int)+1 by omega,l1,l2]
 refine ⟨rfl,?_⟩
 rw [Int.add_zero,IntKind.wrap_u64]
 unfold lo
 have:=(s.setWidth 64).isLt
 omega
def VL5 (w:World) (B:Array Value) (s:VSet) (wr:World):Prop :=
 wr.heap[w.heap.size+1+1]? = some (cS s)∧wr.heap[w.heap.size+1]? = some (.cells #[.int .u64 0,.int .u64 0] 41 (0,0))∧wr.heap[w.heap.size]? = some (.cells B 24 (0,0))∧Ext w wr
section
variable {w wr w':World} {B:Array Value} {s:VSet} {y:Nat}
theorem VL5.next (h:VL5 w B s wr) (hx:Ext wr w'):VL5 w B s w' :=
 ⟨(hx.below.block _ (Array.getElem?_eq_some_iff.1 h.1).1).trans h.1,(hx.below.block _ (Array.getElem?_eq_some_iff.1 h.2.1).1).trans h.2.1,(hx.below.block _ (Array.getElem?_eq_some_iff.1 h.2.2.1).1).trans h.2.2.1,h.2.2.2.trans hx⟩
theorem VL5.lo (h:VL5 w B s wr) (hn:hasS s (y:Int) = false) (h1:1≤y) (h2:y≤64):VL5 w B (withS s y) (wr.setCell ⟨w.heap.size+1+1,0,none⟩ (.int .u64 (IntKind.u64.wrap (Go.Proofs.YtmnjakejhbpkoaaGreatDoor.lo s+IntKind.u64.wrap (2 ^ (y - 1)))))):=by
 obtain ⟨e1,e2⟩:=plus_lo hn h1 h2
 refine ⟨?_,(Below.heap_setCell _ _ _ _ (by simp)).trans h.2.1,(Below.heap_setCell _ _ _ _ (by simp;omega)).trans h.2.2.1,h.2.2.2.setCell (by show _≤w.heap.size+1+1;omega) _⟩
 rw [e1,heap_set h.1 0 _]
 unfold cS
 rw [e2];rfl
theorem VL5.hi (h:VL5 w B s wr) (hn:hasS s (y:Int) = false) (h1:65≤y) (h2:y≤128):VL5 w B (withS s y) (wr.setCell ⟨w.heap.size+1+1,1,none⟩ (.int .u64 (IntKind.u64.wrap (Go.Proofs.YtmnjakejhbpkoaaGreatDoor.hi s+IntKind.u64.wrap (2 ^ (y - 65)))))):=by
 obtain ⟨e1,e2⟩:=plus_hi hn h1 h2
 refine ⟨?_,(Below.heap_setCell _ _ _ _ (by simp)).trans h.2.1,(Below.heap_setCell _ _ _ _ (by simp;omega)).trans h.2.2.1,h.2.2.2.setCell (by show _≤w.heap.size+1+1;omega) _⟩
 rw [e1,heap_set h.1 1 _]
 unfold cS
 rw [e2];rfl
theorem VL5.cells (h:VL5 w B s wr):wr.cell? ⟨w.heap.size+1+1,0,none⟩ = some (.int .u64 (Go.Proofs.YtmnjakejhbpkoaaGreatDoor.lo s))∧wr.cell? ⟨w.heap.size+1+1,1,none⟩ = some (.int .u64 (Go.Proofs.YtmnjakejhbpkoaaGreatDoor.hi s))∧wr.frozen? ⟨w.heap.size+1+1,0,none⟩ = false∧wr.frozen? ⟨w.heap.size+1+1,1,none⟩ = false:=by
 have h1:=h.1
 unfold cS at h1
 refine ⟨by rw [World.cell?,h1];rfl,by rw [World.cell?,h1];rfl,by simp [World.frozen?,h1],by simp [World.frozen?,h1]⟩
end
end Go.Proofs.YtmnjakejhbpkoaaGreatDoor
end
section
set_option linter.unusedSimpArgs false
set_option linter.unusedVariables false
namespace Go.Proofs.YtmnjakejhbpkoaaGreatDoor
open Go Go.RowKit Go.Shelf
set_option maxRecDepth 100000 in
set_option maxHeartbeats 8000000 in
theorem refVars5_any {n:Int} {T:List (List Int)} {v:Value} {w:World} (hv:SlT w v T) :
  Calls Tryz.prog 23 #[.agg #[.int .i64 n,v]] w fun e w'=>e = .returned (encS (if L.thChk n T = 0 then L.thVars T else 0))∧Ext w w':=by
 obtain ⟨ba,cp,rfl,hcs⟩:=hv.shape
 obtain ⟨e1,e2,e3⟩:=alloc3h w (.cells #[.int .i64 n,.slice ba T.length cp] 24) (.cells #[.int .u64 0,.int .u64 0] 41) (.cells #[.int .u64 0,.int .u64 0] 41)
 have hx3:Ext w (((w.alloc (.cells #[.int .i64 n,.slice ba T.length cp] 24)).alloc (.cells #[.int .u64 0,.int .u64 0] 41)).alloc (.cells #[.int .u64 0,.int .u64 0] 41)):=(((Ext.refl w).alloc _).alloc _).alloc _
 obtain ⟨w3,hw3⟩:∃ w3,w3 = ((w.alloc (.cells #[.int .i64 n,.slice ba T.length cp] 24)).alloc (.cells #[.int .u64 0,.int .u64 0] 41)).alloc (.cells #[.int .u64 0,.int .u64 0] 41):=⟨_,rfl⟩
 rw [←hw3] at e1 e2 e3 hx3
 have hV3:VL5 w #[.int .i64 n,.slice ba T.length cp] 0 w3:=⟨e3.trans (congrArg some cS_zero.symm),e2,e1,hx3⟩
 have q1:=rcheck_any (n:=n) (hv.ext hx3.below)
 have c0:w3.cell? ⟨w.heap.size,0,none⟩ = some (.int .i64 n):=by rw [World.cell?,e1];rfl
 have c1:w3.cell? ⟨w.heap.size,1,none⟩ = some (.slice ba T.length cp):=by rw [World.cell?,e1];rfl
 have hret:∀ (s:VSet) (wr:World),VL5 w #[.int .i64 n,.slice ba T.length cp] s wr→(wr.cell? ⟨w.heap.size+1,0,none⟩ = some (.int .u64 0)∧wr.cell? ⟨w.heap.size+1,1,none⟩ = some (.int .u64 0)∧wr.frozen? ⟨w.heap.size+1,0,none⟩ = false∧wr.frozen? ⟨w.heap.size+1,1,none⟩ = false)∧(((wr.setCell ⟨w.heap.size+1,0,none⟩ (.int .u64 (lo s))).setCell ⟨w.heap.size+1,1,none⟩ (.int .u64 (hi s))).cell? ⟨w.heap.size+1,0,none⟩ = some (.int .u64 (lo s))∧((wr.setCell ⟨w.heap.size+1,0,none⟩ (.int .u64 (lo s))).setCell ⟨w.heap.size+1,1,none⟩ (.int .u64 (hi s))).cell? ⟨w.heap.size+1,1,none⟩ = some (.int .u64 (hi s))∧Ext w ((wr.setCell ⟨w.heap.size+1,0,none⟩ (.int .u64 (lo s))).setCell ⟨w.heap.size+1,1,none⟩ (.int .u64 (hi s)))):=fun s wr h=>by
  obtain ⟨z0,z1⟩:=box2_set h.2.1 (.int .u64 (lo s)) (.int .u64 (hi s))
  exact ⟨⟨by rw [World.cell?,h.2.1];rfl,by rw [World.cell?,h.2.1];rfl,by simp [World.frozen?,h.2.1],by simp [World.frozen?,h.2.1]⟩,z0,z1,(h.2.2.2.setCell (Nat.le_succ _) _).setCell (Nat.le_succ _) _⟩
 replace hret:=Lib.hid hret
 replace e1:=Lib.hid e1
 replace e2:=Lib.hid e2
 replace e3:=Lib.hid e3
 replace hcs:=Lib.hid hcs
 replace hV3:=Lib.hid hV3
 by_cases hok:L.thChk n T = 0
 ·rw [hok] at q1
  rw [if_pos hok]
  obtain ⟨⟨hn0,hn1⟩,hT,hall⟩:=L.thChk_ok.1 hok
  replace hall:=Lib.hid hall
  clear hv hok
  go_enter Tryz.func23,Tryz.ntmps23
  go_wp2_with fail
  rw [←hw3]
  replace hw3:=Lib.hid hw3
  go_wp2_with fail
  refine q1.mono ?_
  rintro e w4 ⟨rfl,hx4⟩
  have hV4:=Lib.hid (hV3.out.next hx4)
  clear q1 c0 c1 hx4
  go_wp2_with fail
  go_loopw [4] (fun i wr=>∃ k:Nat,k≤T.length∧i = .int .i64 (k:Int)∧Hid (VL5 w #[.int .i64 n,.slice ba T.length cp] (L.thVars (T.take k)) wr)) (fun i _=>T.length - (intOf i).toNat)
  case atStart=>exact ⟨0,by omega,rfl,hV4⟩
  case round =>
   clear hV4 hV3
   obtain ⟨k,hk,rfl,hI⟩:=hrel
   have d1:wr.cell? ⟨w.heap.size,1,none⟩ = some (.slice ba T.length cp):=by rw [World.cell?,hI.out.2.2.1];rfl
   by_cases hlt:k < T.length
   ·have d0:decide ((k:Int) < (T.length:Int)) = true:=decide_eq_true (by omega)
    have g0:(0:Int)≤(k:Int):=by omega
    have g1:(k:Int) < (T.length:Int):=by omega
    obtain ⟨b,o,u,rfl,hc,hu⟩:=hcs.out k hlt
    have hu':=hu
    obtain ⟨bb,cc,rfl,hcc⟩:=hu.shape
    obtain ⟨hc1,hc2⟩:=hall.out _ (List.getElem_mem hlt)
    have hnx:=thVars_take hlt
    generalize L.thVars (T.take k) = s0 at *
    generalize T[k] = c at *
    replace hcc:=Lib.hid hcc
    replace hnx:=Lib.hid hnx
    replace hc2:=Lib.hid hc2
    replace hc:=Lib.hid hc
    clear hu hu'
    go_wp2_with fail
    go_loopw [5] (fun i wr=>∃ m:Nat,m≤c.length∧i = .int .i64 (m:Int)∧Hid (VL5 w #[.int .i64 n,.slice (some ⟨b,o,none⟩) T.length cp] (L.clVars s0 (c.take m)) wr)) (fun i _=>c.length - (intOf i).toNat)
    case atStart=>exact ⟨0,by omega,rfl,hI⟩
    case round =>
     clear hI d1
     obtain ⟨m,hm,rfl,hI⟩:=hrel
     have d1:wr.cell? ⟨w.heap.size,1,none⟩ = some (.slice (some ⟨b,o,none⟩) T.length cp):=by rw [World.cell?,hI.out.2.2.1];rfl
     have d2:=hI.out.2.2.2.cell hc.out
     by_cases hlt2:m < c.length
     ·have d3:decide ((m:Int) < (c.length:Int)) = true:=decide_eq_true (by omega)
      have g2:(0:Int)≤(m:Int):=by omega
      have g3:(m:Int) < (c.length:Int):=by omega
      obtain ⟨b2,o2,rfl,hce⟩:=hcc.out m hlt2
      have d4:=hI.out.2.2.2.cell hce
      have hvr:=L.validB_range hn1 (hc2.out _ (List.getElem_mem hlt2))
      have hnx2:=clVars_take s0 hlt2
      generalize L.clVars s0 (c.take m) = s1 at *
      generalize c[m] = x at *
      have hyr:1≤x.natAbs∧x.natAbs≤128:=by omega
      have qa:=fun W=>rabs_any (l:=x) (by omega) W
      generalize x.natAbs = y at *
      have qh:=fun W=>refHas5_any s1 (y:Int) W
      unfold encS at qh
      replace hce:=Lib.hid hce
      replace hvr:=Lib.hid hvr
      replace hnx2:=Lib.hid hnx2
      replace qa:=Lib.hid qa
      replace qh:=Lib.hid qh
      obtain ⟨p0,p1,_,_⟩:=hI.out.cells
      go_wp2_with fail
      refine (qa.out _).mono ?_
      rintro e w5 ⟨rfl,rfl⟩
      clear qa
      cases hB:hasS s1 (y:Int)
      ·have qh1:=qh.out wr
       rw [hB] at qh1
       replace hB:=Lib.hid hB
       go_wp2_with fail
       refine qh1.mono ?_
       rintro e w6 ⟨rfl,hx6⟩
       have hI6:=Lib.hid (hI.out.next hx6)
       obtain ⟨p2,p3,p4,p5⟩:=hI6.out.cells
       clear p0 p1 d1 d2 d4 qh1
       by_cases h64:y≤64
       ·have f1:((y:Int) - 1) / 64 = 0:=by omega
        have f2:((y:Int) - 1) % 64 = y - 1:=by omega
        have hnext:=Lib.hid (hI6.out.lo hB.out hyr.1 h64)
        go_wp2_with fail
        go_roundw
        case rel=>exact ⟨m+1,by omega,by go_num,by rw [hnx2.out];exact hnext⟩
        case measure=>simp [intOf];omega
       ·have f1:((y:Int) - 1) / 64 = 1:=by omega
        have f2:((y:Int) - 1) % 64 = y - 65:=by omega
        have hnext:=Lib.hid (hI6.out.hi hB.out (by omega) hyr.2)
        go_wp2_with fail
        go_roundw
        case rel=>exact ⟨m+1,by omega,by go_num,by rw [hnx2.out];exact hnext⟩
        case measure=>simp [intOf];omega
      ·have qh1:=qh.out wr
       rw [hB] at qh1
       replace hB:=Lib.hid hB
       go_wp2_with fail
       refine qh1.mono ?_
       rintro e w6 ⟨rfl,hx6⟩
       have hI6:=Lib.hid (hI.out.next hx6)
       clear p0 p1 d1 d2 d4 qh1
       go_wp2_with fail
       go_roundw
       case rel=>exact ⟨m+1,by omega,by go_num,by rw [hnx2.out,with_in hB.out];exact hI6⟩
       case measure=>simp [intOf];omega
     ·obtain rfl:m = c.length:=by omega
      have d3:decide ((c.length:Int) < (c.length:Int)) = false:=decide_eq_false (by omega)
      rw [List.take_length] at hI
      go_wp2_with fail
      go_roundw
      case rel=>exact ⟨k+1,by omega,by go_num,by rw [hnx.out];exact hI⟩
      case measure=>simp [intOf];omega
   ·obtain rfl:k = T.length:=by omega
    have d0:decide ((T.length:Int) < (T.length:Int)) = false:=decide_eq_false (by omega)
    rw [List.take_length] at hI
    generalize hs0:L.thVars T = s0 at *
    obtain ⟨p0,p1,_,_⟩:=hI.out.cells
    obtain ⟨⟨z0,z1,y0,y1⟩,r0,r1,hxe⟩:=hret.out _ _ hI.out
    replace r0:=Lib.hid r0
    replace r1:=Lib.hid r1
    replace hxe:=Lib.hid hxe
    replace hs0:=Lib.hid hs0
    go_wp2_with fail
    exact bodyPost_ret (v:=encS s0) (by simp [results,Tryz.results23,go_sem,r0.out,r1.out,encS]) rfl ⟨by rw [hs0.out],hxe.out⟩
 ·have hd:(L.thChk n T != 0) = true:=by simpa using hok
  rw [if_neg hok]
  generalize L.thChk n T = zc at *
  clear hv hok
  go_enter Tryz.func23,Tryz.ntmps23
  go_wp2_with fail
  rw [←hw3]
  replace hw3:=Lib.hid hw3
  go_wp2_with fail
  refine q1.mono ?_
  rintro e w4 ⟨rfl,hx4⟩
  have hV4:=Lib.hid (hV3.out.next hx4)
  obtain ⟨⟨z0,z1,y0,y1⟩,r0,r1,hxe⟩:=hret.out _ _ hV4.out
  obtain ⟨p0,p1,_,_⟩:=hV4.out.cells
  rw [show lo (0:VSet) = 0 from rfl] at p0 r0 r1 hxe
  rw [show hi (0:VSet) = 0 from rfl] at p1 r0 r1 hxe
  replace r0:=Lib.hid r0
  replace r1:=Lib.hid r1
  replace hxe:=Lib.hid hxe
  clear q1 c0 c1 hx4
  go_wp2_with fail
  exact bodyPost_ret (v:=encS 0) (by simp [results,Tryz.results23,go_sem,r0.out,r1.out,encS];exact ⟨rfl,rfl⟩) rfl ⟨rfl,hxe.out⟩
end Go.Proofs.YtmnjakejhbpkoaaGreatDoor
end
section
set_option linter.unusedSimpArgs false
set_option linter.unusedVariables false
namespace Go.Proofs.YtmnjakejhbpkoaaGreatDoor
open Go Go.RowKit Go.Shelf
theorem vn27_info:(Tryz.prog.info? 106).map (fun i=>(i.zero,i.size,i.bytes)) = some (some (.agg #[.int .i64 0,.int .i64 0,.int .i64 0]),3,24):=by kernel_rfl
set_option maxRecDepth 100000 in
set_option maxHeartbeats 4000000 in
theorem copied_any {t:List VN} (w:World) (ba:Option Addr) (cap:Nat) (ht:t = []∨∃ b o,ba = some ⟨b,o,none⟩∧TreeAt w b o t) (hnil:ba = none→cap = 0) (hl:t.length≤300) :
  Calls Tryz.prog 18 #[.slice ba t.length cap] w fun e w'=>∃ b c,e = .returned (.slice (some ⟨b,0,none⟩) t.length c)∧w.heap.size≤b∧(∃ cs:Array Value,w'.heap[b]? = some (.cells cs 106 (0,0)))∧TreeAt w' b 0 t∧Below w.heap.size w w':=by
 obtain ⟨iv,hiv,hzv,hsv,hbv⟩:=info_parts vn27_info
 have hlen:(treeCells t).length = 3 * t.length:=treeCells_len t
 have hro:(w.alloc (.cells #[] 106)).ownsRow w.heap.size 106 3 (.slice (some ⟨w.heap.size,0,none⟩) 0 0) 0 []:=World.ownsRow_lit w #[] 0 (Nat.le_refl _) (by unfold maxLen;omega) rfl
 have hb1:Below w.heap.size w (w.alloc (.cells #[] 106)):=(Below.refl _ _).alloc (Nat.le_refl _) _
 have hone:∀ u∈treeCells t,u.oneCell' = true:=treeCells_one t
 go_enter Tryz.func18,Tryz.ntmps18
 cases ba with
 | none =>
   obtain rfl:=hnil rfl
   obtain rfl:t = []:=ht.resolve_right (by rintro ⟨b,o,h,_⟩;cases h)
   go_wp2_with (at_builtin;refine wpList_append_own_none rfl _ _ 26 rfl w.heap.size 106 iv 3 Tryz.underlying26 hiv _ 0 [] rfl hro rfl ?_)
   go_ret
   exact ⟨w.heap.size,⟨0,rfl⟩,Nat.le_refl _,⟨_,heap_alloc_new _ _⟩,fun j u hj=>by simp [treeCells] at hj,hb1⟩
 | some a =>
   have hcell:∀ j u,(treeCells t)[j]? = some u→(w.alloc (.cells #[] 106)).cell? (a.add j) = some u:=fun j u hj=>by
    rcases ht with rfl | ⟨b,o,e,h⟩
    ·simp [treeCells] at hj
    ·cases e
     rw [Addr.add_lit]
     have:=h j u hj
     exact (hb1.cell (World.block_lt_of_cell? w _ this)).trans this
   clear ht
   go_wp2_with (at_builtin;refine wpList_append_own _ rfl _ _ 26 rfl w.heap.size 106 iv _ 3 24 Tryz.underlying26 hiv hzv hsv hbv rfl (by decide) _ 0 [] rfl hro a t.length cap (treeCells t) rfl (by omega) hcell hone (by unfold maxLen;omega) (by omega) hb1.size ?_;intro v4 w4 ho4 hg4 hv4)
   go_ret
   have hb4:Below w.heap.size w w4:=Below.grown hb1 hg4 hb1.size (fun k e=>by have:=own_ge hro e;omega)
   rw [List.nil_append,Nat.zero_add] at ho4
   obtain ⟨_,⟨rfl,e⟩ | ⟨g,c,cur,rfl,hgb,hgh,hn,hm,hcs,ht⟩⟩:=ho4
   ·cases (hv4.1 rfl).1
   ·refine ⟨g,c,rfl,hgb,⟨cur,hgh⟩,fun j u hj=>?_,hb4⟩
    have hjl:=(List.getElem?_eq_some_iff.1 hj).1
    rw [←ht,List.getElem?_take_of_lt (by omega)] at hj
    rw [World.cell?,hgh]
    show cur[0+j]? = some u
    rw [Nat.zero_add,←Array.getElem?_toList]
    exact hj
end Go.Proofs.YtmnjakejhbpkoaaGreatDoor
end
section
set_option linter.unusedSimpArgs false
set_option linter.unusedVariables false
namespace Go.Proofs.YtmnjakejhbpkoaaGreatDoor
open Go Go.RowKit Go.Shelf
set_option maxRecDepth 100000 in
set_option maxHeartbeats 1000000 in
theorem full_gen (e:Int) (ba:Option Addr) (n cap:Nat) (w:World):Calls Tryz.prog 20 #[.int .i64 e,.slice ba n cap] w fun r w'=>r = .returned (.bool (decide (e = 7) && decide (7 < n)))∧w = w':=by
 by_cases h:e = 7
 ·subst h
  by_cases hn:7 < n
  ·have d1:decide ((n:Int) > 7) = true:=decide_eq_true (by omega)
   have d2:decide (7 < n) = true:=decide_eq_true hn
   go_enter Tryz.func20,Tryz.ntmps20
   go_wp2_with fail
   go_ret
   exact ⟨by rw [d2];rfl,rfl⟩
  ·have d1:decide ((n:Int) > 7) = false:=decide_eq_false (by omega)
   have d2:decide (7 < n) = false:=decide_eq_false hn
   go_enter Tryz.func20,Tryz.ntmps20
   go_wp2_with fail
   go_ret
   exact ⟨by rw [d2];rfl,rfl⟩
 ·have d1:(e == 7) = false:=by simpa using h
  have d2:decide (e = 7) = false:=decide_eq_false h
  go_enter Tryz.func20,Tryz.ntmps20
  go_wp2_with fail
  go_ret
  exact ⟨by rw [d2];rfl,rfl⟩
end Go.Proofs.YtmnjakejhbpkoaaGreatDoor
end
section
set_option linter.unusedSimpArgs false
set_option linter.unusedVariables false
namespace Go.Proofs.YtmnjakejhbpkoaaGreatDoor
open Go Go.RowKit Go.Shelf
def RowsOf (w:World) (base:Nat) (us:List Value) (T:List (List Int)):Prop :=
 us.length = T.length∧∀ (j:Nat) (u:Value) (c:List Int),us[j]? = some u→T[j]? = some c→w.ownsRow base 3 1 u c.length (c.map encZ)
theorem RowsOf.keep {w w':World} {base:Nat} {us:List Value} {T:List (List Int)} (h:RowsOf w base us T) (hk:∀ (g:Nat) (c:Array Value),w.heap[g]? = some (.cells c 3 (0,0))→w'.heap[g]? = w.heap[g]?):RowsOf w' base us T :=
 ⟨h.1,fun j u c h1 h2=>by
   obtain ⟨a,h3 | ⟨g,cap,cur,rfl,hgb,hgh,hr⟩⟩:=h.2 j u c h1 h2
   ·exact ⟨a,.inl h3⟩
   ·exact ⟨a,.inr ⟨g,cap,cur,rfl,hgb,(hk g cur hgh).trans hgh,hr⟩⟩⟩
theorem RowsOf.nil (w:World) (base:Nat):RowsOf w base [] []:=⟨rfl,fun j u c h=>by simp at h⟩
theorem RowsOf.snoc {w:World} {base:Nat} {us:List Value} {T:List (List Int)} {u:Value} {c:List Int} (h:RowsOf w base us T) (hu:w.ownsRow base 3 1 u c.length (c.map encZ)):RowsOf w base (us++[u]) (T++[c]):=by
 refine ⟨by simp [h.1],fun j u' c' h1 h2=>?_⟩
 by_cases hj:j < us.length
 ·rw [List.getElem?_append_left hj] at h1
  rw [List.getElem?_append_left (by rw [←h.1];exact hj)] at h2
  exact h.2 j u' c' h1 h2
 ·rw [List.getElem?_append_right (by omega)] at h1
  rw [List.getElem?_append_right (by rw [←h.1];omega),←h.1] at h2
  obtain ⟨k,hk⟩:∃ k,j - us.length = k:=⟨_,rfl⟩
  rw [hk] at h1 h2
  cases k with
  | zero =>
    simp only [List.getElem?_cons_zero,Option.some.injEq] at h1 h2
    subst h1
    subst h2
    exact hu
  | succ k=>simp at h1
end Go.Proofs.YtmnjakejhbpkoaaGreatDoor
end
section
set_option linter.unusedSimpArgs false
set_option linter.unusedVariables false
namespace Go.Proofs.YtmnjakejhbpkoaaGreatDoor
open Go Go.RowKit Go.Shelf
theorem run_append_none_any {P:Program} {w:World} (base:Nat) (t ty e:TypeId) (i:TypeInfo) (size:Nat) (ht:P.underlying t = some (.slice e)) (hi:P.info? e = some i)
  (v:Value) (n:Nat) (xs:List Value) (hown:w.ownsRow base e size v n xs) (c:Nat) :
  (Builtin.append_ #[t,t] ty #[v,.slice none 0 c]).run P w = .ok v w:=by
 rcases hown.2 with ⟨rfl,rfl⟩ | ⟨g,cap,cur,rfl,_,_,hnc,_⟩
 ·simp [Builtin.append_,run_underlying ht,sizeOf,typeInfo,hi,Builtin.lenOf,Builtin.firstCells]
 ·simp [Builtin.append_,run_underlying ht,sizeOf,typeInfo,hi,Builtin.lenOf,Builtin.firstCells,hnc,storeCells]
theorem wp_append_none_any {P:Program} {w:World} {o:Oper} {a:Act} {K:Act→World→Prop} {Q:Exit→Act→World→Prop} (s x:Operand) (t:TypeId)
  (ho:o.op = .call { callee:=.builtin .append,args:=#[s,x],argTypes:=#[t,t] })
  (base:Nat) (e:TypeId) (i:TypeInfo) (size:Nat) (ht:P.underlying t = some (.slice e)) (hi:P.info? e = some i)
  (v:Value) (n:Nat) (xs:List Value) (hs:a.eval s = v) (hown:w.ownsRow base e size v n xs) (c:Nat) (hx:a.eval x = .slice none 0 c)
  (h:K (a.put o.dst v) w):o.wp P a w K Q:=by
 have hr:=run_append_none_any (P:=P) (w:=w) base t o.type e i size ht hi v n xs hown c
 unfold Oper.wp execOp
 simp only [ho,resolve,invoke,builtin,Sem.run_bind,Sem.run_pure,Result.andThen_ok,List.map_toArray,List.map_cons,List.map_nil,hs,hx,hr]
 exact h
end Go.Proofs.YtmnjakejhbpkoaaGreatDoor
end
