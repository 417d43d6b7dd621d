import Derived.Test.YtemnmcfmabamcaaGreatDoorXVnon
import Derived.Test.YtemnmcfmabamcaaGreatDoorXVb
set_option linter.unusedSimpArgs false
set_option linter.unusedVariables false
namespace Go.Proofs.YtemnmcfmabamcaaGreatDoor
open Go Go.RowKit Go.Shelf
def knT:L.Tr:=.node (.leaf 1) (.leaf 2)
theorem knT_ok:TrOK knT [1,2]:=⟨by decide,by decide,by decide,by decide,fun v=>by simp [knT,L.Tr.vars]⟩
theorem kn_E:L.searchT [1,2] (L.tabO [1,2] (begφ 2)) (knT.post 0).length 5 (knT,[]) = (knT,[]):=by kernel_rfl
theorem kn_post:knT.post 0 = t2v:=rfl
def knText:ByteArray:=⟨#[40,49,32,50,41,32,40,45,49,32,70,59,32,49,32,50,41]⟩
def knText1:ByteArray:=⟨#[40,49,32,50,41,32,49]⟩
theorem kn_shown:shB knT (knT.post 0) (begφ 2) = knText:=by
 have e:begφ 2 = fun y=>litφ 1 y && litφ 2 y:=by
  funext y
  rw [←begφ_step 1 y,←begφ_step 0 y]
  simp [begφ]
 unfold shB
 rw [kn_post,e,tw_texts.2]
 rfl
theorem kn_shown1:shB knT (knT.post 0) (litφ 1) = knText1:=by
 unfold shB
 rw [kn_post,tw_texts.1]
 rfl
def BegS (wa:World) (t:List VN) (B:Blks) (w0:World) (r n:Nat) (wr:World):Prop:=∃ so,SS t B w0 300000 so wr∧Val so r (begφ n)∧Below wa.heap.size wa wr∧(n = 0→so = newSt t)
set_option maxRecDepth 100000 in
set_option maxHeartbeats 4000000 in
theorem begunS_any {T:L.Tr} {l:List Int} {n:Nat} {w:World} (hT:TrOK T l) (hz:TzTab w) (hp:PowTab w) (hn:n≤4) (hv:∀ i,i < n→((i+1:Nat):Int)∈T.vars) :
  Calls Tryz.prog 31 #[.string (strB (L.prT T)),.int .i64 (n:Nat)] w fun e w'=>∃ (B:Blks) (so:St) (r:Nat),e = .returned (.tuple #[.pointer (some ⟨B.sb,0,none⟩),.int .i64 (r:Nat)])∧SS (T.post 0) B w' 300000 so w'∧Val so r (begφ n)∧(n = 0→so = newSt (T.post 0))∧(∀ j∈B.mut,w.heap.size≤j)∧Below w.heap.size w w':=by
 have q1:=parse_any (w:=w) hT.nd hT.range (by have:=hT.small;omega) hp
 have q2:=fun W (hb:Below w.heap.size w W) (g cap:Nat) (ht:TreeAt W g 0 (T.post 0))=>new_v W g 0 cap (hz.same (hb.block _ hz.lt')) (hp.same (hb.block _ hp.lt)) ht hT.chk (by have:=hT.len;omega)
 have hvo:∀ i,i < n→VarOf (T.post 0) ((i+1:Nat):Int):=fun i hi=>(hT.root.root_mem hT.chk _).1 (hv i hi)
 have h7:=hT.len
 obtain ⟨t,ht⟩:∃ t,t = T.post 0:=⟨_,rfl⟩
 rw [←ht] at q1 q2 hvo h7 ⊢
 simp only [strB_eq] at q1
 generalize strB (L.prT T) = X at *
 replace hvo:=Lib.hid hvo
 replace q2:=Lib.hid q2
 replace ht:=Lib.hid ht
 replace hT:=Lib.hid hT
 replace hv:=Lib.hid hv
 go_enter Tryz.func31,Tryz.ntmps31
 go_wp2_with fail
 refine q1.mono ?_
 rintro e w1 ⟨g,cap,rfl,_,ht1,hb1⟩
 have q2':=q2.out w1 hb1 g cap ht1
 clear q1 ht1
 go_wp2_with fail
 refine q2'.mono ?_
 rintro e w2 ⟨B,rfl,hS2,_,hv1,hm2,hb2⟩
 have b2:=hb1.trans (hb2.mono hb1.size)
 have h0:Hid (BegS w t B w2 1 0 w2):=Lib.hid ⟨_,hS2,hv1.congr fun y=>by simp [begφ],b2,fun _=>rfl⟩
 have hm:Hid (∀ j∈B.mut,w.heap.size≤j):=Lib.hid fun j hj=>Nat.le_trans hb1.size (hm2 j hj)
 replace b2:=Lib.hid b2
 clear q2' hS2 hv1 hm2 hb2 hb1
 go_wp2_with fail
 go_loopw [10,11] (fun rv iv wr=>∃ (r i:Nat),i≤n∧rv = .int .i64 (r:Nat)∧iv = .int .i64 ((i+1:Nat):Int)∧Hid (BegS w t B w2 r i wr)) (fun _ iv _=>n+1 - (intOf iv).toNat)
 case atStart=>exact ⟨1,0,by omega,rfl,rfl,h0⟩
 case round =>
  clear h0
  obtain ⟨r,i,hi,rfl,rfl,hI⟩:=hrel
  obtain ⟨so,h1,h2,h3,h4⟩:=hI.out
  clear hI
  by_cases hlt:i < n
  ·have dlt:decide ((i:Int)+1≤(n:Int)) = true:=decide_eq_true (by omega)
   have dlt':(i:Int)+1≤(n:Int):=by omega
   have ql:=lit_v (l:=((i+1:Nat):Int)) h1 (by rw [show ((((i+1:Nat):Int).natAbs:Nat):Int) = ((i+1:Nat):Int) by omega];exact hvo.out i hlt)
   go_wp2_with fail
   refine ql.mono ?_
   rintro e w4 ⟨r4,so4,rfl,hS4,hT4,hv4⟩
   have qa:=and_c (k':=300000) (c:=0) hS4 (free_cost hS4.chk h7).1 (by omega) (h2.step h1.inv hT4) hv4
   replace hS4:=Lib.hid hS4
   clear ql
   go_wp2_with fail
   refine qa.mono ?_
   rintro e w5 ⟨r5,so5,rfl,hS5,hT5,hv5⟩
   have hnext:Hid (BegS w t B w2 r5 (i+1) w5):=Lib.hid ⟨so5,hS5,hv5.congr fun y=>begφ_step i y,hS5.behind b2.out hm.out b2.out.size,fun h=>by omega⟩
   clear qa hS4 hS5 hT5 hv5 h1 h2 h3
   go_wp2_with fail
   go_roundw
   case rel=>exact ⟨r5,i+1,by omega,rfl,by go_num,hnext⟩
   case measure=>simp [intOf];omega
  ·have dlt:decide ((i:Int)+1≤(n:Int)) = false:=decide_eq_false (by omega)
   obtain rfl:i = n:=by omega
   obtain ⟨B4,hB4,hR4,hS4,hSt4⟩:=h1.here
   have hfin:Hid (SS t B4 wr 300000 so wr∧Val so r (begφ i)∧(i = 0→so = newSt t)∧(∀ j∈B4.mut,w.heap.size≤j)∧Below w.heap.size w wr):=Lib.hid ⟨hS4,h2,h4,fun j hj=>(hSt4.new j hj).elim (hm.out j) (fun h=>Nat.le_trans b2.out.size h),h3⟩
   replace hB4:=Lib.hid hB4
   clear h1 h2 h3 h4 hS4 hR4 hSt4
   go_wp2_with fail
   go_ret2
   exact ⟨B4,so,r,by rw [hB4.out];rfl,hfin.out⟩
set_option maxRecDepth 100000 in
set_option maxHeartbeats 8000000 in
theorem vsknown_any (w:World) (hT:TzTab w) (hP:PowTab w):Calls Tryz.prog 9 #[] w fun e w'=>e = .returned (.bool true)∧Below w.heap.size w w':=by
 have hw:∀ w',Below w.heap.size w w'→Calls Tryz.prog 12 #[] w' fun e w''=>e = .returned (.bool true)∧Below w'.heap.size w' w'':=fun w' hx=>works29_any w' (hT.same (hx.block _ hT.lt')) (hP.same (hx.block _ hP.lt))
 have q1:=begunS_any (n:=2) (w:=w) knT_ok hT hP (by omega) (fun i hi=>by
  obtain rfl | rfl:i = 0∨i = 1:=by omega
  all_goals simp [knT,L.Tr.vars])
 have q9:=fun W (hb:Below w.heap.size w W)=>begunS_any (n:=0) (w:=W) knT_ok (hT.same (hb.block _ hT.lt')) (hP.same (hb.block _ hP.lt)) (by omega) (fun i hi=>by omega)
 rw [show strB (L.prT knT) = ⟨#[40,49,32,50,41]⟩ from rfl] at q1 q9
 have hn1:(knText != knText) = false:=by decide
 have hn2:(knText1 != knText1) = false:=by decide
 unfold knText at hn1
 unfold knText1 at hn2
 replace hw:=Lib.hid hw
 replace q9:=Lib.hid q9
 go_enter Tryz.func9,Tryz.ntmps9
 go_wp2_with fail
 refine q1.mono ?_
 rintro e w1 ⟨B1,s1,r1,rfl,hS1,hv1,_,hm1,hb1⟩
 have h1:=StOn.of hS1 hv1
 have q2:=search_any (k:=5) h1 knT_ok.root knT_ok (hT.same (hb1.block _ hT.lt')) (hP.same (hb1.block _ hP.lt)) (by omega)
 unfold RetSearch at q2
 rw [kn_E] at q2
 replace hS1:=Lib.hid hS1
 replace hv1:=Lib.hid hv1
 replace hm1:=Lib.hid hm1
 clear q1 h1
 go_wp2_with fail
 refine q2.mono ?_
 rintro e w2 ⟨sb2,r2,v2,rfl,h2,hok2,ho2,hb2⟩
 have b2:=hb1.trans (hb2.mono hb1.size)
 obtain ⟨ba2,cp2,rfl⟩:=row_slice ho2
 have q3:=shown_any h2 hok2.root (hP.same (b2.block _ hP.lt)) hok2.pr
 rw [kn_shown] at q3
 unfold knText at q3
 replace h2:=Lib.hid h2
 clear q2 ho2
 go_wp2_with fail
 refine q3.mono ?_
 rintro e w3 ⟨rfl,hb3⟩
 have b3:=b2.trans (hb3.mono b2.size)
 have b13:=hb2.trans (hb3.mono hb2.size)
 have hS3:=hS1.out.below b13
 have ql:=lit_v (l:=1) hS3 ((knT_ok.root.root_mem knT_ok.chk _).1 (by simp [knT,L.Tr.vars]))
 clear q3
 replace hS3:=Lib.hid hS3
 go_wp2_with fail
 refine ql.mono ?_
 rintro e w4 ⟨r4,s4,rfl,hS4,hT4,hv4⟩
 have b4:=hS4.behind hb1 hm1.out hb1.size
 have h4:=StOn.of hS4 hv4
 have q5:=search_any (k:=0) h4 knT_ok.root knT_ok (hT.same (b4.block _ hT.lt')) (hP.same (b4.block _ hP.lt)) (by omega)
 unfold RetSearch at q5
 simp only [L.searchT] at q5
 replace hS4:=Lib.hid hS4
 clear ql h4
 go_wp2_with fail
 refine q5.mono ?_
 rintro e w5 ⟨sb5,r5,v5,rfl,h5,hok5,ho5,hb5⟩
 have b5:=b4.trans (hb5.mono b4.size)
 obtain ⟨ba5,cp5,rfl⟩:=row_slice ho5
 have q6:=shown_any h5 hok5.root (hP.same (b5.block _ hP.lt)) hok5.pr
 rw [kn_shown1] at q6
 unfold knText1 at q6
 replace h5:=Lib.hid h5
 clear q5 ho5
 go_wp2_with fail
 refine q6.mono ?_
 rintro e w6 ⟨rfl,hb6⟩
 have b6:=b5.trans (hb6.mono b5.size)
 have q9':=q9.out w6 b6
 clear q6
 go_wp2_with fail
 refine q9'.mono ?_
 rintro e w7 ⟨B7,s7,r7,rfl,hS7,hv7,hs7,hm7,hb7⟩
 have b7:=b6.trans (hb7.mono b6.size)
 have e7:=hs7 (by trivial)
 subst e7
 have h7:=StOn.of hS7 hv7
 have q10:=search_root (r:=7) h7 (check_bad hS7 7 (by simp [newSt])) 1
 have hr7:r7 = 1:=by
  have h7':StOn (knT.post 0) (fun _=>true) B7.sb r7 w7:=StOn.of hS7 (hv7.congr fun y=>by simp [begφ])
  exact const_node h7'
 subst hr7
 unfold RetSNo at q10
 replace h7:=Lib.hid h7
 clear q9' hS7 hv7 hm7 hs7
 go_wp2_with fail
 refine q10.mono ?_
 rintro e w8 ⟨rfl,hb8⟩
 have b8:=b7.trans (hb8.mono b7.size)
 have q11:=search_pass (h7.out.below hb8) (-1) (by omega)
 unfold RetSNo at q11
 clear q10
 go_wp2_with fail
 refine q11.mono ?_
 rintro e w9 ⟨rfl,hb9⟩
 have b9:=b8.trans (hb9.mono b8.size)
 have q12:=search_nil w9 0 1
 unfold RetSNo at q12
 clear q11
 go_wp2_with fail
 refine q12.mono ?_
 rintro e w10 ⟨rfl,hb10⟩
 have b10:=b9.trans (hb10.mono b9.size)
 have q:=hw.out w10 b10
 clear q12
 go_wp2_with fail
 refine q.mono ?_
 rintro e w11 ⟨rfl,hb11⟩
 go_wp2_with fail
 go_ret
 exact ⟨rfl,b10.trans (hb11.mono b10.size)⟩
end Go.Proofs.YtemnmcfmabamcaaGreatDoor
