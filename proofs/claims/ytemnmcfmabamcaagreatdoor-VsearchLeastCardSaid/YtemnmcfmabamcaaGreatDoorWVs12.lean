import Derived.Test.YtemnmcfmabamcaaGreatDoorWVs11
import Derived.Test.YtemnmcfmabamcaaGreatDoorWMade
set_option linter.unusedSimpArgs false
set_option linter.unusedVariables false
namespace Go.Proofs.YtemnmcfmabamcaaGreatDoor
open Go Go.RowKit Go.Shelf
set_option maxRecDepth 100000 in
set_option maxHeartbeats 4000000 in
theorem store_any {w:World} {t:List VN} {b o cap bts:Nat} {p:Int} {l:List Int} (hT:TzTab w) (hP:PowTab w) (h:TreeAt w b o t) (hc:checkF t = 0) (h7:t.length≤7) (hbt:bts < 65536) (hl:varsR t = some l) :
  Calls Tryz.prog 13 #[.agg #[.slice (some ⟨b,o,none⟩) t.length cap,.int .u16 (bts:Nat),.int .i64 p]] w fun e w'=>∃ sb r:Nat,e = .returned (.tuple #[.pointer (some ⟨sb,0,none⟩),.int .i64 (r:Nat)])∧StOn t (mdφ l bts (2 ^ l.length)) sb r w'∧Below w.heap.size w w':=by
 obtain ⟨l',hl',hl6,hsb,hvo⟩:=vars_few hc (by omega)
 rw [hl] at hl'
 cases hl'
 have t0:0 < t.length:=(check_ok hc).1
 obtain ⟨w0,hw0,hx0,c0,c1,c2⟩:=ask_box w (some ⟨b,o,none⟩) t.length cap bts p
 have hb0:=hx0.below
 obtain ⟨xb,hxb⟩:∃ xb,w.heap.size = xb:=⟨_,rfl⟩
 rw [hxb] at c0 c1 c2
 have hlt0:xb < w0.heap.size:=World.block_lt_of_cell? _ _ c0
 have q1:=new_v w0 b o cap (hT.same (hb0.block _ hT.lt')) (hP.same (hb0.block _ hP.lt)) (h.below hb0) hc (by omega)
 have qt:=fun W (hb:Below w.heap.size w W)=>atable_any (bits:=bts) (p:=p) (cap:=cap) (h.below hb) t0 (by omega) hl hl6 hbt
 have hp6:=pow_le64 hl6
 obtain ⟨N2,hN2⟩:∃ N2,N2 = 2 ^ l.length:=⟨_,rfl⟩
 rw [←hN2] at qt hp6 ⊢
 replace qt:=Lib.hid qt
 replace hN2:=Lib.hid hN2
 replace hl:=Lib.hid hl
 replace hc:=Lib.hid hc
 replace hsb:=Lib.hid hsb
 replace hvo:=Lib.hid hvo
 replace hb0:=Lib.hid hb0
 replace hxb:=Lib.hid hxb
 clear hx0
 go_enter Tryz.func13,Tryz.ntmps13
 go_wp2_with fail
 try simp only [hxb.out]
 rw [←hw0]
 refine q1.mono ?_
 rintro e w2 ⟨B,rfl,hS2,hz2,ho2,hm2,hb2⟩
 have b2:=hb0.out.trans (hb2.mono hb0.out.size)
 have d0:=(hb2.cell (show (⟨xb,0,none⟩:Addr).block < _ from hlt0)).trans c0
 have d1:=(hb2.cell (show (⟨xb,1,none⟩:Addr).block < _ from hlt0)).trans c1
 have d2:=(hb2.cell (show (⟨xb,2,none⟩:Addr).block < _ from hlt0)).trans c2
 have hlt2:xb < w2.heap.size:=Nat.lt_of_lt_of_le hlt0 hb2.size
 have q2:=refVars_any w2 b o cap l (h.below b2) t0 (by omega) hl.out
 replace hS2:=Lib.hid hS2
 replace b2:=Lib.hid b2
 clear q1 c0 c1 c2 hb2
 go_wp2_with fail
 refine q2.mono ?_
 rintro e w3 ⟨vl,rfl,ho3,hb3⟩
 have c0:=(hb3.cell (show (⟨xb,0,none⟩:Addr).block < _ from hlt2)).trans d0
 have c1:=(hb3.cell (show (⟨xb,1,none⟩:Addr).block < _ from hlt2)).trans d1
 have c2:=(hb3.cell (show (⟨xb,2,none⟩:Addr).block < _ from hlt2)).trans d2
 have b3:=b2.out.trans (hb3.mono b2.out.size)
 have q3:=qt.out w3 b3
 replace b3:=Lib.hid b3
 replace ho3:=Lib.hid ho3
 clear q2 d0 d1 d2
 go_wp2_with fail
 refine q3.mono ?_
 rintro e wq ⟨gt,ct,cst,rfl,hgt,hcst,hcct,hb4⟩
 rw [tabN_len]
 obtain ⟨B3,hsb3,hR3,hS3,hSt⟩:=(hS2.out.below (hb3.trans (hb4.mono hb3.size))).here
 obtain ⟨bl,cl,rfl,hkl⟩:=own_keep (own_lift ho3.out hb4) hR3
 have hbw3:=b3.out.trans (hb4.mono b3.out.size)
 have hm3:∀ j∈B3.mut,w.heap.size≤j:=fun j hj=>(hSt.new j hj).elim (fun hj=>Nat.le_trans hb0.out.size (hm2 j hj)) (fun h=>Nat.le_trans b2.out.size h)
 have htm:gt∉B3.mut:=hR3.not_mut hcst (by decide) (by decide)
 have htc:Hid (∀ so wr,SS t B3 wq 300000 so wr→∀ n,n < N2→wr.cell? ⟨gt,n,none⟩ = some (.bool (bts.testBit n))):=Lib.hid fun so wr hs n hn=>hs.cell (by
  have:=hcct n (by rw [tabN_len];exact hn)
  rw [tabN_get] at this
  simp [World.cell?,hcst,this]) htm
 have h0:Hid (MdLoop w t B3 wq (mdφ l bts 0) 0 wq):=Lib.hid ⟨_,hS3,hz2.congr fun y=>by simp [mdφ],hbw3⟩
 replace hkl:=Lib.hid hkl
 replace hm3:=Lib.hid hm3
 clear q3 ho3 hR3 hSt hS2 hS3 hcst hcct htm hb3 hb4
 go_wp2_with fail
 go_loopw [7,28] (fun rv i wr=>∃ (n r:Nat),n≤N2∧rv = .int .i64 (r:Nat)∧i = .int .i64 (n:Nat)∧Hid (MdLoop w t B3 wq (mdφ l bts n) r wr)) (fun _ i _=>N2 - (intOf i).toNat)
 case atStart=>exact ⟨0,0,by omega,rfl,rfl,h0⟩
 case round =>
  clear h0
  obtain ⟨n,r,hn,rfl,rfl,hI⟩:=hrel
  by_cases hlt:n < N2
  ·have dlt:decide ((n:Int) < (N2:Int)) = true:=decide_eq_true (by omega)
   have i0:(0:Int)≤n:=by omega
   have i1:(n:Int) < N2:=by omega
   have hcb:wr.cell? ⟨gt,n,none⟩ = some (.bool (bts.testBit n)):=by
    obtain ⟨so,h1,_,_⟩:=hI.out
    exact htc.out so wr h1 n hlt
   cases hnb:bts.testBit n
   ·rw [hnb] at hcb
    go_wp2_with fail
    obtain ⟨so,h1,h2,h3⟩:=hI.out
    exact ⟨⟨n+1,r,by omega,rfl,by go_num,Lib.hid ⟨so,h1,h2.congr fun y=>mdφ_skip l bts n hnb y,h3⟩⟩,by simp [intOf];omega⟩
   ·rw [hnb] at hcb
    go_wp2_with fail
    obtain ⟨so,h1,h2,h3⟩:=hI.out
    have hi:=h1.inv
    have hb0:Hid (MdLoop2 w t B3 wq (mdφ l bts n) (mdψ l n 0) r 1 wr):=Lib.hid ⟨so,h1,h2,⟨by have:=hi.len;omega,fun y=>by rw [hi.sem1];simp [mdψ]⟩,h3⟩
    clear h1 h2 h3 hi hI
    go_loopw [10,37] (fun xv kv wr'=>∃ (x k:Nat),k≤l.length∧xv = .int .i64 (x:Nat)∧kv = .int .i64 (k:Nat)∧Hid (MdLoop2 w t B3 wq (mdφ l bts n) (mdψ l n k) r x wr')) (fun _ kv _=>l.length - (intOf kv).toNat)
    case atStart=>exact ⟨1,0,by omega,rfl,rfl,hb0⟩
    case round =>
     clear hb0
     obtain ⟨x,k,hk,rfl,rfl,hI⟩:=hrel
     obtain ⟨so,h1,h2,h3,h4⟩:=hI.out
     clear hI
     by_cases hkl2:k < l.length
     ·have dk:decide ((k:Int) < (l.length:Int)) = true:=decide_eq_true (by omega)
      obtain ⟨bb,ob,rfl,hcell⟩:=hkl.out.at h1 (j:=k) (by rw [List.length_map];exact hkl2)
      rw [List.getElem_map] at hcell
      have hvk:=hvo.out _ (List.getElem_mem hkl2)
      have hvr:=hvk.range
      have hstep:=Lib.hid (mdψ_step l n k hkl2)
      have hbz2:=Lib.hid (zero64 n (l.length - 1 - k) (by omega))
      generalize l[k] = z at *
      have hcell':wr.cell? ⟨bb,ob+k,none⟩ = some (.int .i64 z):=hcell
      have k0:(0:Int)≤k:=by omega
      have k1:(k:Int) < l.length:=by omega
      have hng:wrap64 (-z) = -z:=by unfold wrap64;omega
      replace hcell:=Lib.hid hcell
      cases hcc:bits BinOp.and IntKind.i64 (((n:Nat):Int) / 2 ^ (l.length - 1 - k)) 1 == 0
      rotate_left
      ·have hnb2:n.testBit (l.length - 1 - k) = false:=by have e:=hbz2.out;rw [hcc] at e;simpa using e.symm
       go_wp2_with fail
       have ql:=lit_v (l:=-z) h1 (by rw [show (((-z).natAbs:Nat):Int) = z by omega];exact hvk)
       rw [hsb3] at ql
       refine ql.mono ?_
       rintro e w4 ⟨r4,so4,rfl,hS4,hT4,hv4⟩
       have qa:=and_c (k':=300000) (c:=0) hS4 (free_cost hS4.chk h7).1 (by omega) (h3.step h1.inv hT4) hv4
       rw [hsb3] at qa
       have hr4:=h2.step h1.inv hT4
       have hi4:=hS4.inv
       replace hS4:=Lib.hid hS4
       clear ql
       go_wp2_with fail
       refine qa.mono ?_
       rintro e w5 ⟨r5,so5,rfl,hS5,hT5,hv5⟩
       have hnext:Hid (MdLoop2 w t B3 wq (mdφ l bts n) (mdψ l n (k+1)) r r5 w5):=Lib.hid ⟨so5,hS5,hr4.step hi4 hT5,hv5.congr fun y=>hstep.out (-z) (by rw [hnb2];rfl) hvr.1 y,hS5.behind hbw3 hm3.out hbw3.size⟩
       clear qa hS4 hS5 hT5 hv5 hr4 hi4 h1 h2 h3 h4
       go_wp2_with fail
       go_roundw
       case rel=>exact ⟨r5,k+1,by omega,rfl,by go_num,hnext⟩
       case measure=>simp [intOf];omega
      ·have hnb2:n.testBit (l.length - 1 - k) = true:=by have e:=hbz2.out;rw [hcc] at e;simpa using e.symm
       go_wp2_with fail
       have ql:=lit_v (l:=z) h1 (by rw [show (((z).natAbs:Nat):Int) = z by omega];exact hvk)
       rw [hsb3] at ql
       refine ql.mono ?_
       rintro e w4 ⟨r4,so4,rfl,hS4,hT4,hv4⟩
       have qa:=and_c (k':=300000) (c:=0) hS4 (free_cost hS4.chk h7).1 (by omega) (h3.step h1.inv hT4) hv4
       rw [hsb3] at qa
       have hr4:=h2.step h1.inv hT4
       have hi4:=hS4.inv
       replace hS4:=Lib.hid hS4
       clear ql
       go_wp2_with fail
       refine qa.mono ?_
       rintro e w5 ⟨r5,so5,rfl,hS5,hT5,hv5⟩
       have hnext:Hid (MdLoop2 w t B3 wq (mdφ l bts n) (mdψ l n (k+1)) r r5 w5):=Lib.hid ⟨so5,hS5,hr4.step hi4 hT5,hv5.congr fun y=>hstep.out (z) (by rw [hnb2];rfl) hvr.1 y,hS5.behind hbw3 hm3.out hbw3.size⟩
       clear qa hS4 hS5 hT5 hv5 hr4 hi4 h1 h2 h3 h4
       go_wp2_with fail
       go_roundw
       case rel=>exact ⟨r5,k+1,by omega,rfl,by go_num,hnext⟩
       case measure=>simp [intOf];omega
     ·have dk:decide ((k:Int) < (l.length:Int)) = false:=decide_eq_false (by omega)
      have hke:k = l.length:=by omega
      rw [hke] at h3
      have qo:=or_c (k':=300000) (c:=0) (d:=0) h1 (free_cost h1.chk h7).1 (free_cost h1.chk h7).2 (by omega) h2 h3
      rw [hsb3] at qo
      go_wp2_with fail
      refine qo.mono ?_
      rintro e w5 ⟨r5,so5,rfl,hS5,hT5,hv5⟩
      have hnext:Hid (MdLoop w t B3 wq (mdφ l bts (n+1)) r5 w5):=Lib.hid ⟨so5,hS5,hv5.congr fun y=>mdφ_take l bts n hnb (by rw [←hN2.out];exact hlt) y,hS5.behind hbw3 hm3.out hbw3.size⟩
      clear qo hS5 hT5 hv5 h1 h2 h3 h4
      go_wp2_with fail
      go_roundw
      case rel=>exact ⟨n+1,r5,by omega,rfl,by go_num,hnext⟩
      case measure=>simp [intOf];omega
  ·have dlt:decide ((n:Int) < (N2:Int)) = false:=decide_eq_false (by omega)
   obtain rfl:n = N2:=by omega
   obtain ⟨so,h1,h2,h3⟩:=hI.out
   obtain ⟨B4,hB4,hR4,hS4,_⟩:=h1.here
   have hst:=StOn.of hS4 h2
   rw [hB4,hsb3] at hst
   replace hst:=Lib.hid hst
   clear h1 h2 hS4 hR4
   go_wp2_with fail
   go_ret2
   exact ⟨B.sb,r,rfl,hst.out,h3⟩
end Go.Proofs.YtemnmcfmabamcaaGreatDoor
