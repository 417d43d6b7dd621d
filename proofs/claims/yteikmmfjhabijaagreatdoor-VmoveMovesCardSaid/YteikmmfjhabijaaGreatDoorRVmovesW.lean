import Derived.Test.YteikmmfjhabijaaGreatDoorRVcopy
import Derived.Test.YteikmmfjhabijaaGreatDoorRTab8
import Derived.Test.YteikmmfjhabijaaGreatDoorRVrm
section
set_option linter.unusedSimpArgs false
set_option linter.unusedVariables false
namespace Go.Proofs.YteikmmfjhabijaaGreatDoor
open Go Go.RowKit Go.Shelf
theorem varsOf_mem {t:List VN} (hc:checkF t = 0) {l:List Int} (hl:L.SortedBel t (t.length - 1) l) (v:Int):v∈l↔VarOf t v:=by rw [hl.mem,bel_root hc]
theorem vars_same {t u:List VN} (hc:checkF t = 0) (hd:checkF u = 0) {l m:List Int} (hl:L.SortedBel t (t.length - 1) l) (hm:L.SortedBel u (u.length - 1) m):(l = m)↔∀ v,VarOf t v↔VarOf u v:=by
 constructor
 ·rintro rfl v
  rw [←varsOf_mem hc hl,←varsOf_mem hd hm]
 ·intro h
  exact L.sorted_eq (lt:=fun a b:Int=>decide (a < b)) (fun a b h1 h2=>by simp at h1 h2;omega) l m (hl.sorted.imp fun h=>by simpa using h) (hm.sorted.imp fun h=>by simpa using h) fun v=>by rw [varsOf_mem hc hl,varsOf_mem hd hm];exact h v
theorem few7_vars {t:List VN} (hf:few7 t = true):0 < t.length∧t.length≤7∧checkF t = 0∧∃ l,varsR t = some l∧l.length≤6∧L.SortedBel t (t.length - 1) l:=by
 obtain ⟨h7,hc⟩:=few7_parts hf
 obtain ⟨l,h1,h2,h3,_⟩:=vars_few hc (by omega)
 exact ⟨(check_ok hc).1,h7,hc,l,h1,h2,h3⟩
end Go.Proofs.YteikmmfjhabijaaGreatDoor
end
section
set_option linter.unusedSimpArgs false
set_option linter.unusedVariables false
namespace Go.Proofs.YteikmmfjhabijaaGreatDoor
open Go Go.RowKit Go.Shelf
theorem bit_one16 {x:Nat} (hx:x < 65536) (m:Nat):(((x:Int) / 2 ^ min m 16).tmod 2 == 1) = x.testBit m:=by
 have h:=bit_zero16 hx m
 have h2:∀ z:Int,(z = 0∨z = 1)→((z == 1) = !(z == 0)):=fun z hz=>by rcases hz with rfl | rfl <;> rfl
 rw [h2 _ ?_,h,Bool.not_not]
 have hn:(0:Int)≤(x:Int) / 2 ^ min m 16:=Int.ediv_nonneg (by omega) (Int.le_of_lt (by exact_mod_cast Nat.pos_of_ne_zero (by simp)))
 generalize ((x:Int) / 2 ^ min m 16) = q at *
 rw [Int.tmod_eq_emod_of_nonneg hn]
 omega
set_option maxRecDepth 100000 in
set_option maxHeartbeats 1000000 in
theorem ttable_any {w:World} {t:List VN} {b o c bits:Nat} {l:List Int} (ht:TreeAt w b o t) (t0:0 < t.length) (htl:t.length≤1048576) (hvr:varsR t = some l) (hl6:l.length≤6) (hbt:bits < 65536) :
  Calls Tryz.prog 43 #[.slice (some ⟨b,o,none⟩) t.length c,.int .u16 (bits:Nat)] w (RetTab (tabN (2 ^ l.length) fun i=>bits.testBit i) w):=by
 have q1:=refVars_any w b o c l ht t0 htl hvr
 have hN:=pow_le64 hl6
 have q2:=fun W=>const_any l.length hl6 false W
 obtain ⟨N,hNN⟩:∃ N,N = 2 ^ l.length:=⟨_,rfl⟩
 rw [←hNN] at hN q2 ⊢
 replace hNN:=Lib.hid hNN
 replace hvr:=Lib.hid hvr
 go_enter Tryz.func43,Tryz.ntmps43
 go_wp2_with fail
 refine q1.mono ?_
 rintro e w1 ⟨v1,rfl,ho1,hb1⟩
 obtain ⟨ba,ca,rfl,_⟩:=owns_slI ho1
 replace ho1:=Lib.hid ho1
 clear q1
 go_wp2_with fail
 refine (q2 w1).mono ?_
 rintro e w2 ⟨g,cg,cs,rfl,hg,hcs,hcc,hb2⟩
 rw [tabN_len]
 have hb12:=hb1.trans (hb2.mono hb1.size)
 have hsz:N≤cs.size:=by
  rcases Nat.eq_zero_or_pos N with h | h
  ·omega
  ·have:=(Array.getElem?_eq_some_iff.1 (hcc (N - 1) (by rw [tabN_len];omega))).1
   omega
 have h0:Hid (FillB w g N (fun i=>bits.testBit i) 0 w2):=Lib.hid ⟨Nat.le_trans hb1.size hg,hb12,cs,hcs,hsz,fun j _ h=>by omega⟩
 clear hcc hcs hb12 hsz
 go_wp2_with fail
 go_loopw [6] (fun iv wr=>∃ i:Nat,i≤N∧iv = .int .i64 i∧Hid (FillB w g N (fun i=>bits.testBit i) i wr)) (fun iv _=>N - (intOf iv).toNat)
 case atStart=>exact ⟨0,Nat.zero_le _,rfl,h0⟩
 case round =>
  clear h0
  obtain ⟨i,hi,rfl,hI⟩:=hrel
  by_cases hlt:i < N
  ·have dlt:decide ((i:Int) < (N:Int)) = true:=decide_eq_true (by omega)
   obtain ⟨⟨u,y1⟩,y2⟩:=hI.out.cell hlt
   have hbit:=bit_one16 hbt i
   have hnext:Hid (FillB w g N (fun i=>bits.testBit i) (i+1) (wr.setCell ⟨g,i,none⟩ (.bool (bits.testBit i)))):=Lib.hid (hI.out.set hlt)
   have i0:(0:Int)≤i:=by omega
   have i1:(i:Int) < N:=by omega
   go_wp2_with fail
   go_roundw
   case rel=>exact ⟨i+1,by omega,by go_num,hnext⟩
   case measure=>simp [intOf];omega
  ·have dlt:decide ((i:Int) < (N:Int)) = false:=decide_eq_false (by omega)
   obtain rfl:i = N:=by omega
   have hend:=hI.out.done cg
   replace hend:=Lib.hid hend
   go_wp2_with fail
   go_ret
   exact hend.out
theorem text_of_table {s:St} {t:List VN} {l:List Int} {r bits:Nat} (hi:L.Inv s) (htr:s.tree = t) (hfew:t.length≤11) (hvr:varsR t = some l) (hsb:L.SortedBel t (t.length - 1) l) (hl6:l.length≤6) (hv:Val s r fun y=>bits.testBit (idxF l y)) {w:World} {b o c:Nat} {vf:Value} (ht:TreeAt w b o t) (hf:SlB w vf (tabN (2 ^ l.length) fun i=>bits.testBit i)) :
  Calls Tryz.prog 42 #[.slice (some ⟨b,o,none⟩) t.length c,vf] w fun e w'=>e = .returned (.string ⟨(L.tx s.nodes r).toArray⟩)∧Below w.heap.size w w':=by
 subst htr
 have e:L.tabO l (L.sem s.nodes r) = tabN (2 ^ l.length) fun i=>bits.testBit i:=by
  unfold L.tabO
  refine tabN_congr fun i hlt=>?_
  rw [hv.sem,L.idxF_asgI hsb.sorted hlt]
 exact ttext_any hi hfew hvr hsb hl6 r hv.lt ht (by rw [e];exact hf)
end Go.Proofs.YteikmmfjhabijaaGreatDoor
end
section
set_option linter.unusedSimpArgs false
set_option linter.unusedVariables false
namespace Go.Proofs.YteikmmfjhabijaaGreatDoor
open Go Go.RowKit Go.Shelf
set_option maxRecDepth 100000 in
set_option maxHeartbeats 8000000 in
theorem vmoves_any {t:List VN} {bits:Nat} {i z:Int} (w:World) (ba:Option Addr) (cap:Nat) (hT:TzTab w) (hP:PowTab w) (h:t = []∨∃ b o,ba = some ⟨b,o,none⟩∧TreeAt w b o t) (hbt:bits < 65536) :
  Calls Tryz.prog 7 #[.slice ba t.length cap,.int .u16 (bits:Nat),.int .i64 i,.int .i64 z] w fun e w'=>e = .returned (.bool true)∧Below w.heap.size w w':=by
 have hw:∀ w',Below w.heap.size w w'→Calls Tryz.prog 37 #[] w' fun e w''=>e = .returned (.bool true)∧Below w'.heap.size w' w'':=fun w' hx=>vworks_any w' (hT.same (hx.block _ hT.lt')) (hP.same (hx.block _ hP.lt))
 have hq:=few7_any w ba cap h
 replace hw:=Lib.hid hw
 cases hf:few7 t
 ·rw [hf] at hq
  go_enter Tryz.func7,Tryz.ntmps7
  go_wp2_with fail
  refine hq.mono ?_
  rintro e w1 ⟨rfl,hx1⟩
  have q:=hw.out w1 hx1.below
  clear hq
  go_wp2_with fail
  refine q.mono ?_
  rintro e w2 ⟨rfl,hb2⟩
  go_wp2_with fail
  go_ret
  exact ⟨rfl,hx1.below.trans (hb2.mono hx1.size)⟩
 ·rw [hf] at hq
  obtain ⟨t0,t7,tc,lt,hlt,ltl,hlts⟩:=few7_vars hf
  obtain ⟨tb,to,rfl,hta⟩:=tree_some tc h
  replace tc:=Lib.hid tc
  replace hlt:=Lib.hid hlt
  clear h hf
  go_enter Tryz.func7,Tryz.ntmps7
  go_wp2_with fail
  refine hq.mono ?_
  rintro e w1 ⟨rfl,hx1⟩
  have b1:=hx1.below
  have q:=made_any (cap:=cap) (hT.same (b1.block _ hT.lt')) (hP.same (b1.block _ hP.lt)) (hta.below b1) tc.out t7 hbt hlt.out
  clear hq hx1
  go_wp2_with fail
  refine q.mono ?_
  rintro e w2 ⟨B,so,r,rfl,hS2,hv2,hm2,hb2⟩
  have b2:=b1.trans (hb2.mono b1.size)
  have qm:=move_any (i:=i) (z:=z) hS2 hv2 t7 (hT.same (b2.block _ hT.lt')) (hP.same (b2.block _ hP.lt))
  have qr:=fun W (hb:Below w.heap.size w W)=>rmoved_any (cap:=cap) (i:=i) (z:=z) (hta.below hb) tc.out
  replace qr:=Lib.hid qr
  replace hS2:=Lib.hid hS2
  clear q
  cases hcm:canM (kdOf z) t i
  ·replace hcm:=Lib.hid hcm
   go_wp2_with fail
   refine qm.mono ?_
   rintro e w3 ⟨hb3,hcase⟩
   obtain ⟨_,rfl⟩:=hcase.resolve_right (fun h=>by rw [hcm.out] at h;exact Bool.noConfusion h.1)
   have b3:=b2.trans (hb3.mono b2.size)
   have q3:=qr.out w3 b3
   clear qm hcase
   go_wp2_with fail
   refine q3.mono ?_
   rintro e w4 ⟨hb4,hcase⟩
   obtain ⟨_,rfl⟩:=hcase.resolve_right (fun h=>by rw [hcm.out] at h;exact Bool.noConfusion h.1)
   have b4:=b3.trans (hb4.mono b3.size)
   have qw:=hw.out w4 b4
   clear q3 hcase
   go_wp2_with fail
   refine qw.mono ?_
   rintro e w5 ⟨rfl,hb5⟩
   go_wp2_with fail
   go_ret
   exact ⟨rfl,b4.trans (hb5.mono b4.size)⟩
  ·replace hcm:=Lib.hid hcm
   go_wp2_with fail
   refine qm.mono ?_
   rintro e w3 ⟨hb3,hcase⟩
   obtain ⟨_,n,T,U,Bm,sm,rm,hin,hnl,hTT,hM,rfl,hS3,hv3,hm3⟩:=hcase.resolve_left (fun h=>by rw [hcm.out] at h;exact Bool.noConfusion h.1)
   have b3:=b2.trans (hb3.mono b2.size)
   have q3:=qr.out w3 b3
   replace hS3:=Lib.hid hS3
   replace hin:=Lib.hid hin
   clear qm hcase
   go_wp2_with fail
   refine q3.mono ?_
   rintro e w4 ⟨hb4,hcase⟩
   obtain ⟨_,n',T',U',g,cg,hin',_,hTT',hM',rfl,hTr,hg⟩:=hcase.resolve_left (fun h=>by rw [hcm.out] at h;exact Bool.noConfusion h.1)
   have en:n' = n:=by have:=hin.out;omega
   subst en
   have eT:=hTT'.uniq hTT
   subst eT
   have eU:=hM.uniq tc.out hTT hM'
   subst eU
   obtain ⟨m1,m2,m3,m4⟩:=L.moved_ok tc.out hTT hM
   obtain ⟨lu,hlu,hlus⟩:=L.varsR_spec m1
   have hal:=(vars_same tc.out m1 hlts hlus).2 fun v=>moved_vars tc.out hTT hM v
   subst hal
   have b4:=b3.trans (hb4.mono b3.size)
   have qt:=ttable_any (c:=cap) (hta.below b4) t0 (by omega) hlt.out ltl hbt
   have qtext:=fun W (hb:Below w4.heap.size w4 W) vf (hvf:SlB W vf _)=>text_of_table (c:=cg) hS3.out.inv hS3.out.tree (by omega) hlu hlus ltl hv3 (hTr.below hb) hvf
   have qhas:=fun W (hb:Below w4.heap.size w4 W)=>(hS3.out.below (hb4.trans (hb.mono hb4.size))).here.elim fun Bz hz=>by
    have:=lhas_any (cap:=cg) hz.2.2.1 hv3 (hTr.below hb)
    rw [hz.1] at this
    exact this
   generalize (⟨(L.tx sm.nodes rm).toArray⟩:ByteArray) = X at *
   replace qtext:=Lib.hid qtext
   replace qhas:=Lib.hid qhas
   replace hTr:=Lib.hid hTr
   replace hM:=Lib.hid hM
   replace hM':=Lib.hid hM'
   replace hTT:=Lib.hid hTT
   replace hTT':=Lib.hid hTT'
   replace m1:=Lib.hid m1
   replace m2:=Lib.hid m2
   replace m4:=Lib.hid m4
   replace hlu:=Lib.hid hlu
   clear q3 hcase hin'
   go_wp2_with fail
   refine qt.mono ?_
   rintro e w6 ⟨g6,c6,cs6,rfl,hg6,hcs6,hcc6,hb6⟩
   have b6:=b4.trans (hb6.mono b4.size)
   have qx:=qtext.out w6 hb6 _ (tab_slB (c:=c6) hcs6 hcc6)
   replace hcs6:=Lib.hid hcs6
   replace hcc6:=Lib.hid hcc6
   clear qt
   go_wp2_with fail
   refine qx.mono ?_
   rintro e w7 ⟨rfl,hb7⟩
   have b47:=hb6.trans (hb7.mono hb6.size)
   have b7:=b6.trans (hb7.mono b6.size)
   have qh:=qhas.out w7 b47
   clear qx
   go_wp2_with fail
   refine qh.mono ?_
   rintro e w8 ⟨rfl,hb8⟩
   have b8:=b7.trans (hb8.mono b7.size)
   have qw:=hw.out w8 b8
   clear qh
   go_wp2_with fail
   refine qw.mono ?_
   rintro e w9 ⟨rfl,hb9⟩
   go_wp2_with fail
   go_ret
   exact ⟨rfl,b8.trans (hb9.mono b8.size)⟩
end Go.Proofs.YteikmmfjhabijaaGreatDoor
end
