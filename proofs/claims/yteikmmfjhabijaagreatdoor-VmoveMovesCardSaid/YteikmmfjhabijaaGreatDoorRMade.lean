import Derived.Test.YteikmmfjhabijaaGreatDoorRMove
import Derived.Test.YteikmmfjhabijaaGreatDoorRCanon
import Derived.Test.YteikmmfjhabijaaGreatDoorRTab2
set_option linter.unusedSimpArgs false
set_option linter.unusedVariables false
namespace Go.Proofs.YteikmmfjhabijaaGreatDoor
open Go Go.RowKit Go.Shelf
def mdφ (l:List Int) (bits n:Nat):L.Asg→Bool:=fun y=>decide (idxF l y < n) && bits.testBit (idxF l y)
def mdψ (l:List Int) (n k:Nat):L.Asg→Bool:=fun y=>(List.range k).all fun j=>y (l.getD j 0) == n.testBit (l.length - 1 - j)
theorem bit_zero (x m:Nat):(((x:Int) / 2 ^ m).tmod 2 == 0) = !x.testBit m:=by
 have h1:((x:Int) / 2 ^ m) = ((x / 2 ^ m:Nat):Int):=by simp
 rw [h1,Nat.testBit_eq_decide_div_mod_eq]
 have h2:((x / 2 ^ m:Nat):Int).tmod 2 = ((x / 2 ^ m % 2:Nat):Int):=by
  generalize x / 2 ^ m = a
  rw [Int.tmod_eq_emod_of_nonneg (by omega)];omega
 rw [h2]
 have:x / 2 ^ m % 2 = 0∨x / 2 ^ m % 2 = 1:=by omega
 rcases this with h | h <;> simp [h]
theorem bit_zero16 {x:Nat} (hx:x < 65536) (m:Nat):(((x:Int) / 2 ^ min m 16).tmod 2 == 0) = !x.testBit m:=by
 rw [bit_zero]
 rcases Nat.lt_or_ge m 16 with h | h
 ·rw [Nat.min_eq_left (by omega)]
 ·rw [Nat.min_eq_right h]
  have h1:x.testBit 16 = false:=Nat.testBit_lt_two_pow (Nat.lt_of_lt_of_le hx (by decide))
  have h2:x.testBit m = false:=Nat.testBit_lt_two_pow (Nat.lt_of_lt_of_le hx (Nat.le_trans (show 65536≤2 ^ 16 by decide) (Nat.pow_le_pow_right (n:=2) (by decide) h)))
  rw [h1,h2]
theorem mdψ_full {l:List Int} {n:Nat} (hn:n < 2 ^ l.length) (y:L.Asg):mdψ l n l.length y = decide (idxF l y = n):=by
 rw [Bool.eq_iff_iff,decide_eq_true_iff,mdψ,List.all_eq_true]
 constructor
 ·intro h
  refine Nat.eq_of_testBit_eq fun i=>?_
  rcases Nat.lt_or_ge i l.length with hi | hi
  ·have:=h (l.length - 1 - i) (List.mem_range.2 (by omega))
   have hb:=idxF_bit l y (j:=l.length - 1 - i) (by omega)
   rw [show l.length - 1 - (l.length - 1 - i) = i by omega] at this hb
   rw [hb]
   simpa [List.getD_eq_getElem?_getD,List.getElem?_eq_getElem (show l.length - 1 - i < l.length by omega)] using this
  ·rw [Nat.testBit_lt_two_pow (Nat.lt_of_lt_of_le (idxF_lt l y) (Nat.pow_le_pow_right (by omega) hi)),Nat.testBit_lt_two_pow (Nat.lt_of_lt_of_le hn (Nat.pow_le_pow_right (by omega) hi))]
 ·intro e j hj
  have hjl:=List.mem_range.1 hj
  have hb:=idxF_bit l y hjl
  rw [e] at hb
  simp [List.getD_eq_getElem?_getD,List.getElem?_eq_getElem hjl,hb]
theorem mdψ_step (l:List Int) (n k:Nat) (hk:k < l.length) (z:Int) (hz:z = if n.testBit (l.length - 1 - k) = true then l[k] else -l[k]) (h1:1≤l[k]) (y:L.Asg):(mdψ l n k y && litφ z y) = mdψ l n (k+1) y:=by
 unfold mdψ litφ
 rw [List.range_succ,List.all_append]
 congr 1
 simp only [List.all_cons,List.all_nil,Bool.and_true,List.getD_eq_getElem?_getD,List.getElem?_eq_getElem hk,Option.getD_some]
 cases hb:n.testBit (l.length - 1 - k)
 ·rw [hb] at hz
  simp only [Bool.false_eq_true,if_false] at hz
  rw [show ((z.natAbs:Nat):Int) = l[k] by omega,decide_eq_false (by omega)]
 ·rw [hb] at hz
  simp only [if_true] at hz
  rw [show ((z.natAbs:Nat):Int) = l[k] by omega,decide_eq_true (by omega)]
theorem mdφ_skip (l:List Int) (bits n:Nat) (h:bits.testBit n = false) (y:L.Asg):mdφ l bits n y = mdφ l bits (n+1) y:=by
 unfold mdφ
 by_cases e:idxF l y = n
 ·rw [e,h];simp
 ·congr 1
  rw [Bool.eq_iff_iff,decide_eq_true_iff,decide_eq_true_iff];omega
theorem mdφ_take (l:List Int) (bits n:Nat) (h:bits.testBit n = true) (hn:n < 2 ^ l.length) (y:L.Asg):(mdφ l bits n y || mdψ l n l.length y) = mdφ l bits (n+1) y:=by
 rw [mdψ_full hn]
 unfold mdφ
 by_cases e:idxF l y = n
 ·rw [e,h];simp
 ·rw [decide_eq_false e,Bool.or_false]
  congr 1
  rw [Bool.eq_iff_iff,decide_eq_true_iff,decide_eq_true_iff];omega
def MdLoop (wa:World) (t:List VN) (B:Blks) (w0:World) (φ:L.Asg→Bool) (r:Nat) (wr:World):Prop:=∃ so,SS t B w0 300000 so wr∧Val so r φ∧Below wa.heap.size wa wr
def MdLoop2 (wa:World) (t:List VN) (B:Blks) (w0:World) (φ ψ:L.Asg→Bool) (r x:Nat) (wr:World):Prop:=∃ so,SS t B w0 300000 so wr∧Val so r φ∧Val so x ψ∧Below wa.heap.size wa wr
set_option maxRecDepth 100000 in
set_option maxHeartbeats 4000000 in
theorem made_any {w:World} {t:List VN} {b o cap:Nat} {l:List Int} {bits:Nat} (hT:TzTab w) (hP:PowTab w) (h:TreeAt w b o t) (hc:checkF t = 0) (h7:t.length≤7) (hbt:bits < 65536) (hl:varsR t = some l) :
  Calls Tryz.prog 38 #[.slice (some ⟨b,o,none⟩) t.length cap,.int .u16 (bits:Nat)] w fun e w'=>∃ B so r,e = .returned (.tuple #[.pointer (some ⟨B.sb,0,none⟩),.int .i64 (r:Nat),.bool true])∧SS t B w' 300000 so w'∧(Val so r fun y=>bits.testBit (idxF l y))∧(∀ j∈B.mut,w.heap.size≤j)∧Below w.heap.size w w':=by
 obtain ⟨l',hl',hl6,hsb,hvo⟩:=vars_few hc (by omega)
 rw [hl] at hl'
 cases hl'
 have t0:0 < t.length:=(check_ok hc).1
 have q1:=new_v w b o cap hT hP h hc (by omega)
 have hp6:=pow_le64 hl6
 have hw:=pow_wrap l.length (by omega)
 obtain ⟨N2,hN2⟩:∃ N2,N2 = 2 ^ l.length:=⟨_,rfl⟩
 rw [←hN2] at hw hp6
 replace hN2:=Lib.hid hN2
 replace hl:=Lib.hid hl
 replace hc:=Lib.hid hc
 replace hsb:=Lib.hid hsb
 replace hvo:=Lib.hid hvo
 go_enter Tryz.func38,Tryz.ntmps38
 go_wp2_with fail
 refine q1.mono ?_
 rintro e w2 ⟨B,rfl,hS2,hz2,ho2,hm2,hb2⟩
 have q2:=refVars_any w2 b o cap l (h.below hb2) t0 (by omega) hl.out
 replace hS2:=Lib.hid hS2
 clear q1
 go_wp2_with fail
 refine q2.mono ?_
 rintro e w3 ⟨vl,rfl,ho3,hb3⟩
 obtain ⟨B3,hsb3,hR3,hS3,hSt⟩:=(hS2.out.below hb3).here
 obtain ⟨bl,cl,rfl,hkl⟩:=own_keep ho3 hR3
 have hbw3:=hb2.trans (hb3.mono hb2.size)
 have hm3:∀ j∈B3.mut,w.heap.size≤j:=fun j hj=>(hSt.new j hj).elim (hm2 j) (fun h=>Nat.le_trans hb2.size h)
 have h0:Hid (MdLoop w t B3 w3 (mdφ l bits 0) 0 w3):=Lib.hid ⟨_,hS3,hz2.congr fun y=>by simp [mdφ],hbw3⟩
 replace hkl:=Lib.hid hkl
 replace hm3:=Lib.hid hm3
 clear q2 ho3 hR3 hSt hS2 hS3
 go_wp2_with fail
 go_loopw [10,11] (fun rv i wr=>∃ (n r:Nat),n≤N2∧rv = .int .i64 (r:Nat)∧i = .int .i64 (n:Nat)∧Hid (MdLoop w t B3 w3 (mdφ l bits n) r wr)) (fun _ i _=>N2 - (intOf i).toNat)
 case atStart=>exact ⟨0,0,by omega,rfl,rfl,h0⟩
 case round =>
  clear h0
  obtain ⟨n,r,hn,rfl,rfl,hI⟩:=hrel
  by_cases hlt:n < N2
  ·have dlt:decide ((n:Int) < (N2:Int)) = true:=decide_eq_true (by omega)
   have hbz:=Lib.hid (bit_zero16 hbt n)
   cases hcb:(((bits:Nat):Int) / 2 ^ min n 16).tmod 2 == 0
   rotate_left
   ·go_wp2_with fail
    obtain ⟨so,h1,h2,h3⟩:=hI.out
    have hnb:bits.testBit n = false:=by have e:=hbz.out;rw [hcb] at e;simpa using e.symm
    exact ⟨⟨n+1,r,by omega,rfl,by go_num,Lib.hid ⟨so,h1,h2.congr fun y=>mdφ_skip l bits n hnb y,h3⟩⟩,by simp [intOf];omega⟩
   ·go_wp2_with fail
    obtain ⟨so,h1,h2,h3⟩:=hI.out
    have hnb:bits.testBit n = true:=by have e:=hbz.out;rw [hcb] at e;simpa using e.symm
    have hi:=h1.inv
    have hb0:Hid (MdLoop2 w t B3 w3 (mdφ l bits n) (mdψ l n 0) r 1 wr):=Lib.hid ⟨so,h1,h2,⟨by have:=hi.len;omega,fun y=>by rw [hi.sem1];simp [mdψ]⟩,h3⟩
    clear h1 h2 h3 hi hI
    go_loopw [12,13] (fun xv kv wr'=>∃ (x k:Nat),k≤l.length∧xv = .int .i64 (x:Nat)∧kv = .int .i64 (k:Nat)∧Hid (MdLoop2 w t B3 w3 (mdφ l bits n) (mdψ l n k) r x wr')) (fun _ kv _=>l.length - (intOf kv).toNat)
    case atStart=>exact ⟨1,0,by omega,rfl,rfl,hb0⟩
    case round =>
     clear hb0
     obtain ⟨x,k,hk,rfl,rfl,hI⟩:=hrel
     obtain ⟨so,h1,h2,h3,h4⟩:=hI.out
     clear hI
     by_cases hkl2:k < l.length
     ·have dk:decide ((k:Int) < (l.length:Int)) = true:=decide_eq_true (by omega)
      obtain ⟨bb,ob,rfl,hcell⟩:=hkl.out.at h1 (j:=k) (by rw [List.length_map];exact hkl2)
      rw [List.getElem_map] at hcell
      have hvk:=hvo.out _ (List.getElem_mem hkl2)
      have hvr:=hvk.range
      have hstep:=Lib.hid (mdψ_step l n k hkl2)
      have hbz2:=Lib.hid (bit_zero n (l.length - 1 - k))
      generalize l[k] = z at *
      have hcell':wr.cell? ⟨bb,ob+k,none⟩ = some (.int .i64 z):=hcell
      have k0:(0:Int)≤k:=by omega
      have k1:(k:Int) < l.length:=by omega
      have hng:wrap64 (-z) = -z:=by unfold wrap64;omega
      replace hcell:=Lib.hid hcell
      cases hcc:(((n:Nat):Int) / 2 ^ (l.length - 1 - k)).tmod 2 == 0
      rotate_left
      ·have hnb2:n.testBit (l.length - 1 - k) = false:=by have e:=hbz2.out;rw [hcc] at e;simpa using e.symm
       go_wp2_with fail
       have ql:=lit_v (l:=-z) h1 (by rw [show (((-z).natAbs:Nat):Int) = z by omega];exact hvk)
       rw [hsb3] at ql
       refine ql.mono ?_
       rintro e w4 ⟨r4,so4,rfl,hS4,hT4,hv4⟩
       have qa:=and_c (k':=300000) (c:=0) hS4 (free_cost hS4.chk h7).1 (by omega) (h3.step h1.inv hT4) hv4
       rw [hsb3] at qa
       have hr4:=h2.step h1.inv hT4
       have hi4:=hS4.inv
       replace hS4:=Lib.hid hS4
       clear ql
       go_wp2_with fail
       refine qa.mono ?_
       rintro e w5 ⟨r5,so5,rfl,hS5,hT5,hv5⟩
       have hnext:Hid (MdLoop2 w t B3 w3 (mdφ l bits n) (mdψ l n (k+1)) r r5 w5):=Lib.hid ⟨so5,hS5,hr4.step hi4 hT5,hv5.congr fun y=>hstep.out (-z) (by rw [hnb2];rfl) hvr.1 y,hS5.behind hbw3 hm3.out hbw3.size⟩
       clear qa hS4 hS5 hT5 hv5 hr4 hi4 h1 h2 h3 h4
       go_wp2_with fail
       go_roundw
       case rel=>exact ⟨r5,k+1,by omega,rfl,by go_num,hnext⟩
       case measure=>simp [intOf];omega
      ·have hnb2:n.testBit (l.length - 1 - k) = true:=by have e:=hbz2.out;rw [hcc] at e;simpa using e.symm
       go_wp2_with fail
       have ql:=lit_v (l:=z) h1 (by rw [show (((z).natAbs:Nat):Int) = z by omega];exact hvk)
       rw [hsb3] at ql
       refine ql.mono ?_
       rintro e w4 ⟨r4,so4,rfl,hS4,hT4,hv4⟩
       have qa:=and_c (k':=300000) (c:=0) hS4 (free_cost hS4.chk h7).1 (by omega) (h3.step h1.inv hT4) hv4
       rw [hsb3] at qa
       have hr4:=h2.step h1.inv hT4
       have hi4:=hS4.inv
       replace hS4:=Lib.hid hS4
       clear ql
       go_wp2_with fail
       refine qa.mono ?_
       rintro e w5 ⟨r5,so5,rfl,hS5,hT5,hv5⟩
       have hnext:Hid (MdLoop2 w t B3 w3 (mdφ l bits n) (mdψ l n (k+1)) r r5 w5):=Lib.hid ⟨so5,hS5,hr4.step hi4 hT5,hv5.congr fun y=>hstep.out (z) (by rw [hnb2];rfl) hvr.1 y,hS5.behind hbw3 hm3.out hbw3.size⟩
       clear qa hS4 hS5 hT5 hv5 hr4 hi4 h1 h2 h3 h4
       go_wp2_with fail
       go_roundw
       case rel=>exact ⟨r5,k+1,by omega,rfl,by go_num,hnext⟩
       case measure=>simp [intOf];omega
     ·have dk:decide ((k:Int) < (l.length:Int)) = false:=decide_eq_false (by omega)
      have hke:k = l.length:=by omega
      rw [hke] at h3
      have qo:=or_c (k':=300000) (c:=0) (d:=0) h1 (free_cost h1.chk h7).1 (free_cost h1.chk h7).2 (by omega) h2 h3
      rw [hsb3] at qo
      go_wp2_with fail
      refine qo.mono ?_
      rintro e w5 ⟨r5,so5,rfl,hS5,hT5,hv5⟩
      have hnext:Hid (MdLoop w t B3 w3 (mdφ l bits (n+1)) r5 w5):=Lib.hid ⟨so5,hS5,hv5.congr fun y=>mdφ_take l bits n hnb (by rw [←hN2.out];exact hlt) y,hS5.behind hbw3 hm3.out hbw3.size⟩
      clear qo hS5 hT5 hv5 h1 h2 h3 h4
      go_wp2_with fail
      go_roundw
      case rel=>exact ⟨n+1,r5,by omega,rfl,by go_num,hnext⟩
      case measure=>simp [intOf];omega
  ·have dlt:decide ((n:Int) < (N2:Int)) = false:=decide_eq_false (by omega)
   obtain ⟨so,h1,h2,h3⟩:=hI.out
   obtain ⟨B4,hB4,hR4,hS4,hSt4⟩:=h1.here
   go_wp2_with fail
   go_ret3
   exact ⟨B4,so,r,by rw [hB4,hsb3];rfl,hS4,h2.congr fun y=>by (unfold mdφ;rw [decide_eq_true (by have:=idxF_lt l y;have:=hN2.out;omega)];rfl),fun j hj=>(hSt4.new j hj).elim (hm3.out j) (fun h=>Nat.le_trans hbw3.size h),h3⟩
end Go.Proofs.YteikmmfjhabijaaGreatDoor
namespace Go.Proofs.YteikmmfjhabijaaGreatDoor
open Go Go.RowKit Go.Shelf
def t3v:List VN:=[⟨-1,-1,1⟩,⟨-1,-1,2⟩,⟨0,1,0⟩,⟨-1,-1,3⟩,⟨2,3,0⟩]
def t4v:List VN:=[⟨-1,-1,1⟩,⟨-1,-1,2⟩,⟨-1,-1,3⟩,⟨1,2,0⟩,⟨0,3,0⟩]
def vwText:List UInt8:=[40,45,49,32,70,59,32,49,32,40,45,50,32,70,59,32,50,32,51,41,41]
def vwB:Bool:=match literalF (newSt t4v) 1 0 with
 | none=>false
 | some (a,s1)=>match literalF s1 2 1 with
   | none=>false
   | some (b,s2)=>match literalF s2 3 2 with
     | none=>false
     | some (c,s3)=>match andF 14 s3 b c with
       | none=>false
       | some (d,s4)=>match andF 14 s4 a d with
         | none=>false
         | some (e,s5)=>decide (L.tx s5.nodes e = vwText)
theorem vw_data:vwB = true:=by kernel_rfl
structure DS (t:List VN) (s:St):Prop where
 room:L.Room s 300000
 tree:s.tree = t
theorem ds_lit {t:List VN} {s:St} {l:Int} {u:Nat} {y:VN} (h:DS t s) (hy:t[u]? = some y) (hl:leafB y = true) (hv:y.var = (l.natAbs:Int)):∃ c s',literalF s l u = some (c,s')∧DS t s'∧L.Step s s'∧Val s' c (litφ l):=by
 obtain ⟨c,s',e,st,lt,sm,bg⟩:=L.literal_spec h.room (l:=l) (u:=u) (y:=y) (by rw [h.tree];exact hy) hl hv
 have hr:=h.room.room
 exact ⟨c,s',e,⟨⟨st.inv,by rw [st.tree];exact h.room.few,by omega⟩,by rw [st.tree];exact h.tree⟩,st,⟨lt,sm⟩⟩
theorem ds_and {t:List VN} {s:St} {a b:Nat} {φ ψ:L.Asg→Bool} (h:DS t s) (hc:checkF t = 0) (h7:t.length≤7) (ha:Val s a φ) (hb:Val s b ψ):∃ c s',andF 14 s a b = some (c,s')∧DS t s'∧L.Step s s'∧Val s' c fun y=>φ y && ψ y:=by
 have t0:=(check_ok hc).1
 have hfc:=(free_cost hc h7).1
 obtain ⟨c,s',e,st,lt,sm,bg⟩:=L.and_spec hc (by omega) (t.length - 1) (by omega) 14 (by omega) s a b h.tree (h.room.less (by omega)) ha.lt hb.lt (by rw [←h.tree];exact dep_root h.room.inv ha.lt) (by rw [←h.tree];exact dep_root h.room.inv hb.lt)
 have hr:=h.room.room
 exact ⟨c,s',e,⟨⟨st.inv,by rw [st.tree];exact h.room.few,by omega⟩,by rw [st.tree];exact h.tree⟩,st,⟨lt,fun y=>by rw [sm];show (L.sem s.nodes a y && L.sem s.nodes b y) = _;rw [ha.sem,hb.sem]⟩⟩
theorem vw_text {so:St} {r:Nat} {φ:L.Asg→Bool} (hi:L.Inv so) (ht:so.tree = t4v) (hv:Val so r φ) (hφ:∀ y,φ y = (y 1 && (y 2 && y 3))):L.tx so.nodes r = vwText:=by
 have hc:checkF t4v = 0:=by kernel_rfl
 have h0:DS t4v (newSt t4v):=⟨⟨new_inv hc,by show t4v.length≤11;decide,by rw [new_big];exact Nat.le_refl _⟩,rfl⟩
 obtain ⟨a,s1,e1,d1,st1,v1⟩:=ds_lit (l:=1) (u:=0) h0 (y:=⟨-1,-1,1⟩) rfl rfl rfl
 obtain ⟨b,s2,e2,d2,st2,v2⟩:=ds_lit (l:=2) (u:=1) d1 (y:=⟨-1,-1,2⟩) rfl rfl rfl
 obtain ⟨c,s3,e3,d3,st3,v3⟩:=ds_lit (l:=3) (u:=2) d2 (y:=⟨-1,-1,3⟩) rfl rfl rfl
 obtain ⟨d,s4,e4,d4,st4,v4⟩:=ds_and d3 hc (by decide) (v2.step d2.room.inv st3) v3
 obtain ⟨e,s5,e5,d5,st5,v5⟩:=ds_and d4 hc (by decide) (((v1.step d1.room.inv st2).step d2.room.inv st3).step d3.room.inv st4) v4
 have e1:literalF (newSt t4v) 1 0 = some (a,s1):=e1
 have e2:literalF s1 2 1 = some (b,s2):=e2
 have e3:literalF s2 3 2 = some (c,s3):=e3
 have hd:=vw_data
 unfold vwB at hd
 rw [e1] at hd
 simp only at hd
 rw [e2] at hd
 simp only at hd
 rw [e3] at hd
 simp only at hd
 rw [e4] at hd
 simp only at hd
 rw [e5] at hd
 simp only [decide_eq_true_eq] at hd
 rw [←hd]
 refine L.tx_eq d5.room.inv hi (by rw [ht,d5.tree]) e r v5.lt hv.lt ?_ |>.symm
 funext y
 rw [v5.sem,hv.sem,hφ]
 simp only [litφ]
 cases h1:y 1 <;> cases h2:y 2 <;> cases h3:y 3 <;> simp_all
set_option maxRecDepth 100000 in
set_option maxHeartbeats 1000000 in
theorem three_any (w:World):Calls Tryz.prog 85 #[] w fun e w'=>e = .returned (.slice (some ⟨w.heap.size,0,none⟩) 5 5)∧TreeAt w' w.heap.size 0 t3v∧Below w.heap.size w w':=by
 have hb:=(Below.refl w.heap.size w).alloc (Nat.le_refl _) (.cells (treeCells t3v).toArray 96)
 have hx:=heap_alloc_new w (.cells (treeCells t3v).toArray 96)
 have ht:TreeAt (w.alloc (.cells (treeCells t3v).toArray 96)) w.heap.size 0 t3v:=fun j u hj=>by
  rw [World.cell?,hx,Nat.zero_add]
  simpa using hj
 replace hb:=Lib.hid hb
 replace ht:=Lib.hid ht
 clear hx
 go_enter Tryz.func85,Tryz.ntmps85
 go_wp2_with fail
 go_ret
 exact ⟨rfl,ht.out,hb.out⟩
theorem vw_fun (y:L.Asg):(128:Nat).testBit (idxF [1,2,3] y) = (y 1 && (y 2 && y 3)):=by
 simp only [idxF,idxK,List.length_cons,List.length_nil,List.getD_cons_zero,List.getD_cons_succ]
 cases y 1 <;> cases y 2 <;> cases y 3 <;> rfl
theorem vw_tree {T U:L.Tr} (hT:L.IsT L.idc t3v (t3v.length - 1) T) (hM:L.Mv t3v 1 4 (t3v.length - 1) T U):U.post 0 = t4v:=by
 have hc:checkF t3v = 0:=by kernel_rfl
 have h1:L.IsT L.idc t3v 4 (.node (.node (.leaf 1) (.leaf 2)) (.leaf 3)) :=
  .node (y:=⟨2,3,0⟩) (a:=2) (b:=3) rfl rfl rfl rfl (.node (y:=⟨0,1,0⟩) (a:=0) (b:=1) rfl rfl rfl rfl (.leaf (y:=⟨-1,-1,1⟩) rfl rfl) (.leaf (y:=⟨-1,-1,2⟩) rfl rfl)) (.leaf (y:=⟨-1,-1,3⟩) rfl rfl)
 have e:=L.IsT.uniq hT h1
 subst e
 have e2:=hM.uniq hc hT (.here (.right _ _ _))
 subst e2
 rfl
set_option maxRecDepth 100000 in
set_option maxHeartbeats 4000000 in
theorem vworks_any (w:World) (hT:TzTab w) (hP:PowTab w):Calls Tryz.prog 37 #[] w fun e w'=>e = .returned (.bool true)∧Below w.heap.size w w':=by
 have hc:checkF t3v = 0:=by kernel_rfl
 have hvr:varsR t3v = some [1,2,3]:=by kernel_rfl
 have q0:=three_any w
 go_enter Tryz.func37,Tryz.ntmps37
 go_wp2_with fail
 refine q0.mono ?_
 rintro e w1 ⟨rfl,ht1,hb1⟩
 have q1:=made_any (t:=t3v) (cap:=5) (bits:=128) (hT.same (hb1.block _ hT.lt')) (hP.same (hb1.block _ hP.lt)) ht1 hc (by decide) (by omega) hvr
 clear q0
 go_wp2_with fail
 refine q1.mono ?_
 rintro e w2 ⟨B,so,r,rfl,hS2,hv2,hm2,hb2⟩
 have hbw2:=hb1.trans (hb2.mono hb1.size)
 have q2:=mvright_any (i:=4) hS2 hv2 (by decide) (hT.same (hbw2.block _ hT.lt')) (hP.same (hbw2.block _ hP.lt))
 replace hS2:=Lib.hid hS2
 clear q1
 go_wp2_with fail
 refine q2.mono ?_
 rintro e w3 ⟨hb3,⟨hcm,_⟩ | ⟨_,n,T,U,B3,s3,r3,hin,hnl,hTT,hM,rfl,hS3,hv3,hm3⟩⟩
 ·exact absurd hcm (by decide)
 ·obtain rfl:n = 4:=by omega
  have hpu:=vw_tree hTT hM
  have htx:=vw_text hS3.inv (hS3.tree.trans hpu) hv3 vw_fun
  have q3:=text_v hS3 hv3.lt
  rw [htx] at q3
  unfold vwText at q3
  have hbw3:=hbw2.trans (hb3.mono hbw2.size)
  replace hS3:=Lib.hid hS3
  clear q2
  go_wp2_with fail
  refine q3.mono ?_
  rintro e w4 ⟨rfl,hb4⟩
  go_wp2_with fail
  go_ret
  exact ⟨rfl,hbw3.trans (hb4.mono hbw3.size)⟩
end Go.Proofs.YteikmmfjhabijaaGreatDoor
