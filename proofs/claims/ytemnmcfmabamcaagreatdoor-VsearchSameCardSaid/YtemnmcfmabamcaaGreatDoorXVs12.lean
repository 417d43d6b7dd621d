import Derived.Test.YtemnmcfmabamcaaGreatDoorXVs6
import Derived.Test.YtemnmcfmabamcaaGreatDoorXVq
import Derived.Test.YtemnmcfmabamcaaGreatDoorXRefChk
import Derived.Test.YtemnmcfmabamcaaGreatDoorXMade
section
set_option linter.unusedSimpArgs false
set_option linter.unusedVariables false
namespace Go.Proofs.YtemnmcfmabamcaaGreatDoor
open Go Go.RowKit Go.Shelf
theorem strB_eq (a:List UInt8):(⟨a.toArray⟩:ByteArray) = strB a:=rfl
noncomputable def shB (T:L.Tr) (t:List VN) (φ:L.Asg→Bool):ByteArray:=strB (L.prT T)++strB [32]++strB (txOf t φ)
section
variable {T:L.Tr} {t:List VN} {φ:L.Asg→Bool} {sb r:Nat} {w:World} {l:List Int}
set_option maxRecDepth 100000 in
set_option maxHeartbeats 1000000 in
theorem lsize_any (h:StOn t φ sb r w) (hl:L.SortedBel t (t.length - 1) l) (hT:L.IsT L.idc t (t.length - 1) T):Calls Tryz.prog 28 #[.pointer (some ⟨sb,0,none⟩),.int .i64 (r:Nat)] w fun e w'=>e = .returned (.int .i64 (L.sizeTr T l (L.tabO l φ):Nat))∧Below w.heap.size w w':=by
 have q:=h.size hl hT
 generalize L.sizeTr T l (L.tabO l φ) = sz at *
 go_enter Tryz.func28,Tryz.ntmps28
 go_wp2_with fail
 refine q.mono ?_
 rintro e w1 ⟨rfl,hb⟩
 clear q
 go_wp2_with fail
 go_ret
 exact ⟨rfl,hb⟩
set_option maxRecDepth 100000 in
set_option maxHeartbeats 1000000 in
theorem shown_any (h:StOn t φ sb r w) (hI:L.IsT L.idc t (t.length - 1) T) (hp:PowTab w) (hpr:(L.prT T).length≤100000):Calls Tryz.prog 29 #[.pointer (some ⟨sb,0,none⟩),.int .i64 (r:Nat)] w fun e w'=>e = .returned (.string (shB T t φ))∧Below w.heap.size w w':=by
 have hc:=h.chk
 have q1:=h.tree
 have q2:=fun W (hb:Below w.heap.size w W) (g cap:Nat) (ht:TreeAt W g 0 t)=>print_any (cap:=cap) ht hc hI hpr (hp.same (hb.block _ hp.lt))
 have q3:=fun W (hb:Below w.heap.size w W)=>(h.below hb).text
 have hlx:=txOf_len h
 have hA:=strB_size (L.prT T)
 have hB:=strB_size (txOf t φ)
 have hall:(strB (L.prT T)).size+1+(strB (txOf t φ)).size≤5000000:=by omega
 unfold shB
 simp only [strB_eq] at q2 q3
 generalize strB (L.prT T) = X at *
 generalize strB (txOf t φ) = Y at *
 replace hA:=Lib.hid hA
 replace hB:=Lib.hid hB
 replace hpr:=Lib.hid hpr
 replace hlx:=Lib.hid hlx
 replace q2:=Lib.hid q2
 replace q3:=Lib.hid q3
 go_enter Tryz.func29,Tryz.ntmps29
 go_wp2_with fail
 refine q1.mono ?_
 rintro e w1 ⟨g,cap,rfl,_,ht,hb1⟩
 have q2':=q2.out w1 hb1 g cap ht
 clear q1 ht
 go_wp2_with fail
 refine q2'.mono ?_
 rintro e w2 ⟨rfl,hb2⟩
 have b2:=hb1.trans (hb2.mono hb1.size)
 have q3':=q3.out w2 b2
 clear q2'
 go_wp2_with fail
 refine q3'.mono ?_
 rintro e w3 ⟨rfl,hb3⟩
 clear q3'
 go_wp2_with fail
 go_ret
 exact ⟨rfl,b2.trans (hb3.mono b2.size)⟩
end
def begφ (n:Nat):L.Asg→Bool:=fun y=>(List.range n).all fun i=>y ((i+1:Nat):Int)
theorem begφ_step (n:Nat) (y:L.Asg):(begφ n y && litφ ((n+1:Nat):Int) y) = begφ (n+1) y:=by
 unfold begφ litφ
 rw [List.range_succ,List.all_append]
 congr 1
 simp only [List.all_cons,List.all_nil,Bool.and_true]
 rw [decide_eq_true (by omega),show ((((n+1:Nat):Int).natAbs:Nat):Int) = ((n+1:Nat):Int) by omega]
 cases y ((n+1:Nat):Int) <;> rfl
def BegI (wa:World) (t:List VN) (B:Blks) (w0:World) (r n:Nat) (wr:World):Prop:=∃ so,SS t B w0 300000 so wr∧Val so r (begφ n)∧Below wa.heap.size wa wr
set_option maxRecDepth 100000 in
set_option maxHeartbeats 4000000 in
theorem begun_any {T:L.Tr} {l:List Int} {n:Nat} {w:World} (hT:TrOK T l) (hz:TzTab w) (hp:PowTab w) (hn:n≤4) (hv:∀ i,i < n→((i+1:Nat):Int)∈T.vars) :
  Calls Tryz.prog 31 #[.string (strB (L.prT T)),.int .i64 (n:Nat)] w fun e w'=>∃ sb r:Nat,e = .returned (.tuple #[.pointer (some ⟨sb,0,none⟩),.int .i64 (r:Nat)])∧StAt T (begφ n) sb r w'∧Below w.heap.size w w':=by
 have q1:=parse_any (w:=w) hT.nd hT.range (by have:=hT.small;omega) hp
 have q2:=fun W (hb:Below w.heap.size w W) (g cap:Nat) (ht:TreeAt W g 0 (T.post 0))=>new_v W g 0 cap (hz.same (hb.block _ hz.lt')) (hp.same (hb.block _ hp.lt)) ht hT.chk (by have:=hT.len;omega)
 have hvo:∀ i,i < n→VarOf (T.post 0) ((i+1:Nat):Int):=fun i hi=>(hT.root.root_mem hT.chk _).1 (hv i hi)
 have h7:=hT.len
 obtain ⟨t,ht⟩:∃ t,t = T.post 0:=⟨_,rfl⟩
 unfold StAt
 rw [←ht] at q1 q2 hvo h7 ⊢
 simp only [strB_eq] at q1
 generalize strB (L.prT T) = X at *
 replace hvo:=Lib.hid hvo
 replace q2:=Lib.hid q2
 replace ht:=Lib.hid ht
 replace hT:=Lib.hid hT
 replace hv:=Lib.hid hv
 go_enter Tryz.func31,Tryz.ntmps31
 go_wp2_with fail
 refine q1.mono ?_
 rintro e w1 ⟨g,cap,rfl,_,ht1,hb1⟩
 have q2':=q2.out w1 hb1 g cap ht1
 clear q1 ht1
 go_wp2_with fail
 refine q2'.mono ?_
 rintro e w2 ⟨B,rfl,hS2,_,hv1,hm2,hb2⟩
 have b2:=hb1.trans (hb2.mono hb1.size)
 have h0:Hid (BegI w t B w2 1 0 w2):=Lib.hid ⟨_,hS2,hv1.congr fun y=>by simp [begφ],b2⟩
 have hm:Hid (∀ j∈B.mut,w.heap.size≤j):=Lib.hid fun j hj=>Nat.le_trans hb1.size (hm2 j hj)
 replace b2:=Lib.hid b2
 clear q2' hS2 hv1 hm2 hb2 hb1
 go_wp2_with fail
 go_loopw [10,11] (fun rv iv wr=>∃ (r i:Nat),i≤n∧rv = .int .i64 (r:Nat)∧iv = .int .i64 ((i+1:Nat):Int)∧Hid (BegI w t B w2 r i wr)) (fun _ iv _=>n+1 - (intOf iv).toNat)
 case atStart=>exact ⟨1,0,by omega,rfl,rfl,h0⟩
 case round =>
  clear h0
  obtain ⟨r,i,hi,rfl,rfl,hI⟩:=hrel
  obtain ⟨so,h1,h2,h3⟩:=hI.out
  clear hI
  by_cases hlt:i < n
  ·have dlt:decide ((i:Int)+1≤(n:Int)) = true:=decide_eq_true (by omega)
   have dlt':(i:Int)+1≤(n:Int):=by omega
   have ql:=lit_v (l:=((i+1:Nat):Int)) h1 (by rw [show ((((i+1:Nat):Int).natAbs:Nat):Int) = ((i+1:Nat):Int) by omega];exact hvo.out i hlt)
   go_wp2_with fail
   refine ql.mono ?_
   rintro e w4 ⟨r4,so4,rfl,hS4,hT4,hv4⟩
   have qa:=and_c (k':=300000) (c:=0) hS4 (free_cost hS4.chk h7).1 (by omega) (h2.step h1.inv hT4) hv4
   replace hS4:=Lib.hid hS4
   clear ql
   go_wp2_with fail
   refine qa.mono ?_
   rintro e w5 ⟨r5,so5,rfl,hS5,hT5,hv5⟩
   have hnext:Hid (BegI w t B w2 r5 (i+1) w5):=Lib.hid ⟨so5,hS5,hv5.congr fun y=>begφ_step i y,hS5.behind b2.out hm.out b2.out.size⟩
   clear qa hS4 hS5 hT5 hv5 h1 h2 h3
   go_wp2_with fail
   go_roundw
   case rel=>exact ⟨r5,i+1,by omega,rfl,by go_num,hnext⟩
   case measure=>simp [intOf];omega
  ·have dlt:decide ((i:Int)+1≤(n:Int)) = false:=decide_eq_false (by omega)
   obtain rfl:i = n:=by omega
   obtain ⟨B4,hB4,hR4,hS4,_⟩:=h1.here
   have hst:=StOn.of hS4 h2
   rw [hB4] at hst
   replace hst:=Lib.hid hst
   clear h1 h2 hS4 hR4
   go_wp2_with fail
   go_ret2
   exact ⟨B.sb,r,rfl,hst.out,h3⟩
end Go.Proofs.YtemnmcfmabamcaaGreatDoor
end
section
set_option linter.unusedSimpArgs false
set_option linter.unusedVariables false
namespace Go.Proofs.YtemnmcfmabamcaaGreatDoor
open Go Go.RowKit Go.Shelf
theorem ask_box (w:World) (ba:Option Addr) (n cap bits:Nat) (p:Int):∃ w1,w1 = w.alloc (.cells #[.slice ba n cap,.int .u16 (bits:Nat),.int .i64 p] 26)∧Ext w w1∧w1.cell? ⟨w.heap.size,0,none⟩ = some (.slice ba n cap)∧w1.cell? ⟨w.heap.size,1,none⟩ = some (.int .u16 (bits:Nat))∧w1.cell? ⟨w.heap.size,2,none⟩ = some (.int .i64 p):=by
 have hx:=heap_alloc_new w (.cells #[.slice ba n cap,.int .u16 (bits:Nat),.int .i64 p] 26)
 obtain ⟨h0,h1,h2⟩:=box3 hx
 exact ⟨_,rfl,(Ext.refl w).alloc _,h0,h1,h2⟩
theorem one16 {x:Nat} (hx:x < 65536) (m:Nat):(bits BinOp.and IntKind.u16 ((x:Int) / 2 ^ min m 16) 1 == 1) = x.testBit m:=by
 have h1:((x:Int) / 2 ^ min m 16) = ((x / 2 ^ min m 16:Nat):Int):=by simp
 have h2:x / 2 ^ min m 16 < 65536:=Nat.lt_of_le_of_lt (Nat.div_le_self _ _) hx
 have h3:=bits_and16 _ 1 h2 (by omega)
 rw [h1,show (1:Int) = ((1:Nat):Int) from rfl,h3,Nat.and_one_is_mod]
 have key:∀ y:Nat,((((y % 2:Nat):Int)) == ((1:Nat):Int)) = decide (y % 2 = 1):=fun y=>by
  rw [Bool.eq_iff_iff,beq_iff_eq,decide_eq_true_iff];omega
 rw [key]
 rcases Nat.lt_or_ge m 16 with h | h
 ·rw [Nat.min_eq_left (by omega),Nat.testBit_eq_decide_div_mod_eq]
 ·rw [Nat.min_eq_right h]
  have e1:x / 2 ^ 16 = 0:=Nat.div_eq_of_lt (by omega)
  have e2:x.testBit m = false:=Nat.testBit_lt_two_pow (Nat.lt_of_lt_of_le hx (Nat.le_trans (show 65536≤2 ^ 16 by decide) (Nat.pow_le_pow_right (n:=2) (by decide) h)))
  rw [e1,e2]
  rfl
theorem zero64 (i b:Nat) (hi:i < 9223372036854775808):(bits BinOp.and IntKind.i64 ((i:Int) / 2 ^ b) 1 == 0) = !i.testBit b:=by
 have h1:((i:Int) / 2 ^ b) = ((i / 2 ^ b:Nat):Int):=by simp
 have h2:i / 2 ^ b < 9223372036854775808:=Nat.lt_of_le_of_lt (Nat.div_le_self _ _) hi
 have h3:=bits_andN _ 1 h2 (by omega)
 rw [h1,show (1:Int) = ((1:Nat):Int) from rfl,h3,Nat.and_one_is_mod,Nat.testBit_eq_decide_div_mod_eq]
 rw [Bool.eq_iff_iff]
 simp
 omega
theorem few7_of {t:List VN} (hf:few7 t = true):∃ (T:L.Tr) (l:List Int),checkF t = 0∧t.length≤7∧varsR t = some l∧l.length≤6∧L.SortedBel t (t.length - 1) l∧L.IsT L.idc t (t.length - 1) T∧TrOK T l:=by
 obtain ⟨h7,hc⟩:=few7_parts hf
 have t0:=(check_ok hc).1
 obtain ⟨l,h1,h2,h3,_⟩:=vars_few hc (by omega)
 obtain ⟨T,hT⟩:=L.isT_exists hc t.length (t.length - 1) (by omega) (by omega)
 exact ⟨T,l,hc,h7,h1,h2,h3,hT,trOK_of hc h7 h3 hT⟩
section
variable {t:List VN} {w:World} {ba:Option Addr} {cap bits:Nat} {p:Int}
set_option maxRecDepth 100000 in
set_option maxHeartbeats 1000000 in
theorem light_any (h:t = []∨∃ b o,ba = some ⟨b,o,none⟩∧TreeAt w b o t):Calls Tryz.prog 11 #[.agg #[.slice ba t.length cap,.int .u16 (bits:Nat),.int .i64 p]] w fun e w'=>e = .returned (.bool (few7 t))∧Ext w w':=by
 obtain ⟨w1,hw1,hx1,c0,_,_⟩:=ask_box w ba t.length cap bits p
 by_cases h7:t.length≤7
 ·have d7:decide ((t.length:Int)≤7) = true:=decide_eq_true (by omega)
  have q:=refchk_any w1 ba cap (h.imp id fun ⟨b,o,e,ht⟩=>⟨b,o,e,ht.ext hx1⟩) (by omega)
  have hf:few7 t = (checkF t == 0):=by
   unfold few7
   rw [decide_eq_true h7,Bool.true_and]
   rcases Int.decEq (checkF t) 0 with h | h <;> simp [h]
  rw [hf]
  replace hx1:=Lib.hid hx1
  clear hf
  go_enter Tryz.func11,Tryz.ntmps11
  go_wp2_with fail
  try rw [←hw1]
  refine q.mono ?_
  rintro e w2 ⟨rfl,hx2⟩
  clear q
  go_wp2_with fail
  go_ret
  exact ⟨rfl,hx1.out.trans hx2⟩
 ·have d7:decide ((t.length:Int)≤7) = false:=decide_eq_false (by omega)
  have hf:few7 t = false:=by unfold few7;rw [decide_eq_false h7];simp
  rw [hf]
  replace hx1:=Lib.hid hx1
  go_enter Tryz.func11,Tryz.ntmps11
  go_wp2_with fail
  try rw [←hw1]
  go_ret
  exact ⟨rfl,hx1.out⟩
set_option maxRecDepth 100000 in
set_option maxHeartbeats 2000000 in
theorem atable_any {b o:Nat} {l:List Int} (ht:TreeAt w b o t) (t0:0 < t.length) (htl:t.length≤1048576) (hvr:varsR t = some l) (hl6:l.length≤6) (hbt:bits < 65536) :
  Calls Tryz.prog 17 #[.agg #[.slice (some ⟨b,o,none⟩) t.length cap,.int .u16 (bits:Nat),.int .i64 p]] w (RetTab (tabN (2 ^ l.length) fun i=>bits.testBit i) w):=by
 obtain ⟨w0,hw0,hx0,c0,c1,_⟩:=ask_box w (some ⟨b,o,none⟩) t.length cap bits p
 have q1:=refVars_any w0 b o cap l (ht.ext hx0) t0 htl hvr
 have hN:=pow_le64 hl6
 have q2:=fun W=>const_any l.length hl6 false W
 obtain ⟨N,hNN⟩:∃ N,N = 2 ^ l.length:=⟨_,rfl⟩
 rw [←hNN] at hN q2 ⊢
 obtain ⟨xb,hxb⟩:∃ xb,w.heap.size = xb:=⟨_,rfl⟩
 rw [hxb] at c0 c1
 have hb0:=hx0.below
 have hlt0:xb < w0.heap.size:=World.block_lt_of_cell? _ _ c0
 replace hNN:=Lib.hid hNN
 replace hvr:=Lib.hid hvr
 replace hx0:=Lib.hid hx0
 go_enter Tryz.func17,Tryz.ntmps17
 go_wp2_with fail
 try simp only [hxb]
 rw [←hw0]
 refine q1.mono ?_
 rintro e w1 ⟨v1,rfl,ho1,hb1⟩
 obtain ⟨ga,ca,rfl,_⟩:=owns_slI ho1
 replace ho1:=Lib.hid ho1
 clear q1
 go_wp2_with fail
 refine (q2 w1).mono ?_
 rintro e w2 ⟨g,cg,cs,rfl,hg,hcs,hcc,hb2⟩
 rw [tabN_len]
 have hb02:=hb1.trans (hb2.mono hb1.size)
 have hb12:=hb0.trans (hb02.mono hb0.size)
 have c1':w2.cell? ⟨xb,1,none⟩ = some (.int .u16 (bits:Nat)):=(hb02.cell (show (⟨xb,1,none⟩:Addr).block < _ from hlt0)).trans c1
 have hgx:xb < g:=Nat.lt_of_lt_of_le hlt0 (Nat.le_trans hb1.size hg)
 have hsz:N≤cs.size:=by
  rcases Nat.eq_zero_or_pos N with h | h
  ·omega
  ·have:=(Array.getElem?_eq_some_iff.1 (hcc (N - 1) (by rw [tabN_len];omega))).1
   omega
 have h0:Hid (FillB w g N (fun i=>bits.testBit i) 0 w2∧w2.cell? ⟨xb,1,none⟩ = some (.int .u16 (bits:Nat))):=Lib.hid ⟨⟨Nat.le_trans (Nat.le_trans hb0.size hb1.size) hg,hb12,cs,hcs,hsz,fun j _ h=>by omega⟩,c1'⟩
 clear hcc hcs hb12 hsz c1' c0 c1
 replace hgx:=Lib.hid hgx
 replace hxb:=Lib.hid hxb
 go_wp2_with fail
 go_loopw [12] (fun iv wr=>∃ i:Nat,i≤N∧iv = .int .i64 i∧Hid (FillB w g N (fun i=>bits.testBit i) i wr∧wr.cell? ⟨xb,1,none⟩ = some (.int .u16 (bits:Nat)))) (fun iv _=>N - (intOf iv).toNat)
 case atStart=>exact ⟨0,Nat.zero_le _,rfl,h0⟩
 case round =>
  clear h0
  obtain ⟨i,hi,rfl,hI⟩:=hrel
  by_cases hlt:i < N
  ·have dlt:decide ((i:Int) < (N:Int)) = true:=decide_eq_true (by omega)
   obtain ⟨hF,hc1⟩:=hI.out
   obtain ⟨⟨u,y1⟩,y2⟩:=hF.cell hlt
   have hbit:=one16 hbt i
   have hnext:Hid (FillB w g N (fun i=>bits.testBit i) (i+1) (wr.setCell ⟨g,i,none⟩ (.bool (bits.testBit i)))∧(wr.setCell ⟨g,i,none⟩ (.bool (bits.testBit i))).cell? ⟨xb,1,none⟩ = some (.int .u16 (bits:Nat))):=Lib.hid ⟨hF.set hlt,by
    rw [World.cell?,heap_set_ne _ _ (show xb≠g by have:=hgx.out;omega)];exact hc1⟩
   have i0:(0:Int)≤i:=by omega
   have i1:(i:Int) < N:=by omega
   clear hF
   go_wp2_with fail
   go_roundw
   case rel=>exact ⟨i+1,by omega,by go_num,hnext⟩
   case measure=>simp [intOf];omega
  ·have dlt:decide ((i:Int) < (N:Int)) = false:=decide_eq_false (by omega)
   obtain rfl:i = N:=by omega
   have hend:=hI.out.1.done cg
   replace hend:=Lib.hid hend
   go_wp2_with fail
   go_ret
   exact hend.out
set_option maxRecDepth 100000 in
set_option maxHeartbeats 1000000 in
theorem passes_any (hp:-9223372036854775808≤p∧p≤9223372036854775807):Calls Tryz.prog 23 #[.agg #[.slice ba t.length cap,.int .u16 (bits:Nat),.int .i64 p]] w fun e w'=>e = .returned (.int .i64 ((p % 18446744073709551616 % 7).toNat:Nat))∧Ext w w':=by
 obtain ⟨w1,hw1,hx1,_,_,c2⟩:=ask_box w ba t.length cap bits p
 obtain ⟨m,hm⟩:∃ m:Nat,m = (p % 18446744073709551616 % 7).toNat:=⟨_,rfl⟩
 rw [←hm]
 have h7:m < 7:=by omega
 have e1:IntKind.u64.wrap p = p % 18446744073709551616:=by rw [IntKind.wrap_u64]
 have e2:(p % 18446744073709551616).tmod 7 = (m:Int):=by rw [Int.tmod_eq_emod_of_nonneg (by omega)];omega
 have e3:p % 18446744073709551616 % 7 = (m:Int):=by omega
 replace hm:=Lib.hid hm
 replace hx1:=Lib.hid hx1
 go_enter Tryz.func23,Tryz.ntmps23
 go_wp2_with fail
 try rw [←hw1]
 go_ret
 exact ⟨rfl,hx1.out⟩
end
end Go.Proofs.YtemnmcfmabamcaaGreatDoor
end
section
set_option linter.unusedSimpArgs false
set_option linter.unusedVariables false
namespace Go.Proofs.YtemnmcfmabamcaaGreatDoor
open Go Go.RowKit Go.Shelf
set_option maxRecDepth 100000 in
set_option maxHeartbeats 4000000 in
theorem store_any {w:World} {t:List VN} {b o cap bts:Nat} {p:Int} {l:List Int} (hT:TzTab w) (hP:PowTab w) (h:TreeAt w b o t) (hc:checkF t = 0) (h7:t.length≤7) (hbt:bts < 65536) (hl:varsR t = some l) :
  Calls Tryz.prog 13 #[.agg #[.slice (some ⟨b,o,none⟩) t.length cap,.int .u16 (bts:Nat),.int .i64 p]] w fun e w'=>∃ sb r:Nat,e = .returned (.tuple #[.pointer (some ⟨sb,0,none⟩),.int .i64 (r:Nat)])∧StOn t (mdφ l bts (2 ^ l.length)) sb r w'∧Below w.heap.size w w':=by
 obtain ⟨l',hl',hl6,hsb,hvo⟩:=vars_few hc (by omega)
 rw [hl] at hl'
 cases hl'
 have t0:0 < t.length:=(check_ok hc).1
 obtain ⟨w0,hw0,hx0,c0,c1,c2⟩:=ask_box w (some ⟨b,o,none⟩) t.length cap bts p
 have hb0:=hx0.below
 obtain ⟨xb,hxb⟩:∃ xb,w.heap.size = xb:=⟨_,rfl⟩
 rw [hxb] at c0 c1 c2
 have hlt0:xb < w0.heap.size:=World.block_lt_of_cell? _ _ c0
 have q1:=new_v w0 b o cap (hT.same (hb0.block _ hT.lt')) (hP.same (hb0.block _ hP.lt)) (h.below hb0) hc (by omega)
 have qt:=fun W (hb:Below w.heap.size w W)=>atable_any (bits:=bts) (p:=p) (cap:=cap) (h.below hb) t0 (by omega) hl hl6 hbt
 have hp6:=pow_le64 hl6
 obtain ⟨N2,hN2⟩:∃ N2,N2 = 2 ^ l.length:=⟨_,rfl⟩
 rw [←hN2] at qt hp6 ⊢
 replace qt:=Lib.hid qt
 replace hN2:=Lib.hid hN2
 replace hl:=Lib.hid hl
 replace hc:=Lib.hid hc
 replace hsb:=Lib.hid hsb
 replace hvo:=Lib.hid hvo
 replace hb0:=Lib.hid hb0
 replace hxb:=Lib.hid hxb
 clear hx0
 go_enter Tryz.func13,Tryz.ntmps13
 go_wp2_with fail
 try simp only [hxb.out]
 rw [←hw0]
 refine q1.mono ?_
 rintro e w2 ⟨B,rfl,hS2,hz2,ho2,hm2,hb2⟩
 have b2:=hb0.out.trans (hb2.mono hb0.out.size)
 have d0:=(hb2.cell (show (⟨xb,0,none⟩:Addr).block < _ from hlt0)).trans c0
 have d1:=(hb2.cell (show (⟨xb,1,none⟩:Addr).block < _ from hlt0)).trans c1
 have d2:=(hb2.cell (show (⟨xb,2,none⟩:Addr).block < _ from hlt0)).trans c2
 have hlt2:xb < w2.heap.size:=Nat.lt_of_lt_of_le hlt0 hb2.size
 have q2:=refVars_any w2 b o cap l (h.below b2) t0 (by omega) hl.out
 replace hS2:=Lib.hid hS2
 replace b2:=Lib.hid b2
 clear q1 c0 c1 c2 hb2
 go_wp2_with fail
 refine q2.mono ?_
 rintro e w3 ⟨vl,rfl,ho3,hb3⟩
 have c0:=(hb3.cell (show (⟨xb,0,none⟩:Addr).block < _ from hlt2)).trans d0
 have c1:=(hb3.cell (show (⟨xb,1,none⟩:Addr).block < _ from hlt2)).trans d1
 have c2:=(hb3.cell (show (⟨xb,2,none⟩:Addr).block < _ from hlt2)).trans d2
 have b3:=b2.out.trans (hb3.mono b2.out.size)
 have q3:=qt.out w3 b3
 replace b3:=Lib.hid b3
 replace ho3:=Lib.hid ho3
 clear q2 d0 d1 d2
 go_wp2_with fail
 refine q3.mono ?_
 rintro e wq ⟨gt,ct,cst,rfl,hgt,hcst,hcct,hb4⟩
 rw [tabN_len]
 obtain ⟨B3,hsb3,hR3,hS3,hSt⟩:=(hS2.out.below (hb3.trans (hb4.mono hb3.size))).here
 obtain ⟨bl,cl,rfl,hkl⟩:=own_keep (own_lift ho3.out hb4) hR3
 have hbw3:=b3.out.trans (hb4.mono b3.out.size)
 have hm3:∀ j∈B3.mut,w.heap.size≤j:=fun j hj=>(hSt.new j hj).elim (fun hj=>Nat.le_trans hb0.out.size (hm2 j hj)) (fun h=>Nat.le_trans b2.out.size h)
 have htm:gt∉B3.mut:=hR3.not_mut hcst (by decide) (by decide)
 have htc:Hid (∀ so wr,SS t B3 wq 300000 so wr→∀ n,n < N2→wr.cell? ⟨gt,n,none⟩ = some (.bool (bts.testBit n))):=Lib.hid fun so wr hs n hn=>hs.cell (by
  have:=hcct n (by rw [tabN_len];exact hn)
  rw [tabN_get] at this
  simp [World.cell?,hcst,this]) htm
 have h0:Hid (MdLoop w t B3 wq (mdφ l bts 0) 0 wq):=Lib.hid ⟨_,hS3,hz2.congr fun y=>by simp [mdφ],hbw3⟩
 replace hkl:=Lib.hid hkl
 replace hm3:=Lib.hid hm3
 clear q3 ho3 hR3 hSt hS2 hS3 hcst hcct htm hb3 hb4
 go_wp2_with fail
 go_loopw [7,28] (fun rv i wr=>∃ (n r:Nat),n≤N2∧rv = .int .i64 (r:Nat)∧i = .int .i64 (n:Nat)∧Hid (MdLoop w t B3 wq (mdφ l bts n) r wr)) (fun _ i _=>N2 - (intOf i).toNat)
 case atStart=>exact ⟨0,0,by omega,rfl,rfl,h0⟩
 case round =>
  clear h0
  obtain ⟨n,r,hn,rfl,rfl,hI⟩:=hrel
  by_cases hlt:n < N2
  ·have dlt:decide ((n:Int) < (N2:Int)) = true:=decide_eq_true (by omega)
   have i0:(0:Int)≤n:=by omega
   have i1:(n:Int) < N2:=by omega
   have hcb:wr.cell? ⟨gt,n,none⟩ = some (.bool (bts.testBit n)):=by
    obtain ⟨so,h1,_,_⟩:=hI.out
    exact htc.out so wr h1 n hlt
   cases hnb:bts.testBit n
   ·rw [hnb] at hcb
    go_wp2_with fail
    obtain ⟨so,h1,h2,h3⟩:=hI.out
    exact ⟨⟨n+1,r,by omega,rfl,by go_num,Lib.hid ⟨so,h1,h2.congr fun y=>mdφ_skip l bts n hnb y,h3⟩⟩,by simp [intOf];omega⟩
   ·rw [hnb] at hcb
    go_wp2_with fail
    obtain ⟨so,h1,h2,h3⟩:=hI.out
    have hi:=h1.inv
    have hb0:Hid (MdLoop2 w t B3 wq (mdφ l bts n) (mdψ l n 0) r 1 wr):=Lib.hid ⟨so,h1,h2,⟨by have:=hi.len;omega,fun y=>by rw [hi.sem1];simp [mdψ]⟩,h3⟩
    clear h1 h2 h3 hi hI
    go_loopw [10,37] (fun xv kv wr'=>∃ (x k:Nat),k≤l.length∧xv = .int .i64 (x:Nat)∧kv = .int .i64 (k:Nat)∧Hid (MdLoop2 w t B3 wq (mdφ l bts n) (mdψ l n k) r x wr')) (fun _ kv _=>l.length - (intOf kv).toNat)
    case atStart=>exact ⟨1,0,by omega,rfl,rfl,hb0⟩
    case round =>
     clear hb0
     obtain ⟨x,k,hk,rfl,rfl,hI⟩:=hrel
     obtain ⟨so,h1,h2,h3,h4⟩:=hI.out
     clear hI
     by_cases hkl2:k < l.length
     ·have dk:decide ((k:Int) < (l.length:Int)) = true:=decide_eq_true (by omega)
      obtain ⟨bb,ob,rfl,hcell⟩:=hkl.out.at h1 (j:=k) (by rw [List.length_map];exact hkl2)
      rw [List.getElem_map] at hcell
      have hvk:=hvo.out _ (List.getElem_mem hkl2)
      have hvr:=hvk.range
      have hstep:=Lib.hid (mdψ_step l n k hkl2)
      have hbz2:=Lib.hid (zero64 n (l.length - 1 - k) (by omega))
      generalize l[k] = z at *
      have hcell':wr.cell? ⟨bb,ob+k,none⟩ = some (.int .i64 z):=hcell
      have k0:(0:Int)≤k:=by omega
      have k1:(k:Int) < l.length:=by omega
      have hng:wrap64 (-z) = -z:=by unfold wrap64;omega
      replace hcell:=Lib.hid hcell
      cases hcc:bits BinOp.and IntKind.i64 (((n:Nat):Int) / 2 ^ (l.length - 1 - k)) 1 == 0
      rotate_left
      ·have hnb2:n.testBit (l.length - 1 - k) = false:=by have e:=hbz2.out;rw [hcc] at e;simpa using e.symm
       go_wp2_with fail
       have ql:=lit_v (l:=-z) h1 (by rw [show (((-z).natAbs:Nat):Int) = z by omega];exact hvk)
       rw [hsb3] at ql
       refine ql.mono ?_
       rintro e w4 ⟨r4,so4,rfl,hS4,hT4,hv4⟩
       have qa:=and_c (k':=300000) (c:=0) hS4 (free_cost hS4.chk h7).1 (by omega) (h3.step h1.inv hT4) hv4
       rw [hsb3] at qa
       have hr4:=h2.step h1.inv hT4
       have hi4:=hS4.inv
       replace hS4:=Lib.hid hS4
       clear ql
       go_wp2_with fail
       refine qa.mono ?_
       rintro e w5 ⟨r5,so5,rfl,hS5,hT5,hv5⟩
       have hnext:Hid (MdLoop2 w t B3 wq (mdφ l bts n) (mdψ l n (k+1)) r r5 w5):=Lib.hid ⟨so5,hS5,hr4.step hi4 hT5,hv5.congr fun y=>hstep.out (-z) (by rw [hnb2];rfl) hvr.1 y,hS5.behind hbw3 hm3.out hbw3.size⟩
       clear qa hS4 hS5 hT5 hv5 hr4 hi4 h1 h2 h3 h4
       go_wp2_with fail
       go_roundw
       case rel=>exact ⟨r5,k+1,by omega,rfl,by go_num,hnext⟩
       case measure=>simp [intOf];omega
      ·have hnb2:n.testBit (l.length - 1 - k) = true:=by have e:=hbz2.out;rw [hcc] at e;simpa using e.symm
       go_wp2_with fail
       have ql:=lit_v (l:=z) h1 (by rw [show (((z).natAbs:Nat):Int) = z by omega];exact hvk)
       rw [hsb3] at ql
       refine ql.mono ?_
       rintro e w4 ⟨r4,so4,rfl,hS4,hT4,hv4⟩
       have qa:=and_c (k':=300000) (c:=0) hS4 (free_cost hS4.chk h7).1 (by omega) (h3.step h1.inv hT4) hv4
       rw [hsb3] at qa
       have hr4:=h2.step h1.inv hT4
       have hi4:=hS4.inv
       replace hS4:=Lib.hid hS4
       clear ql
       go_wp2_with fail
       refine qa.mono ?_
       rintro e w5 ⟨r5,so5,rfl,hS5,hT5,hv5⟩
       have hnext:Hid (MdLoop2 w t B3 wq (mdφ l bts n) (mdψ l n (k+1)) r r5 w5):=Lib.hid ⟨so5,hS5,hr4.step hi4 hT5,hv5.congr fun y=>hstep.out (z) (by rw [hnb2];rfl) hvr.1 y,hS5.behind hbw3 hm3.out hbw3.size⟩
       clear qa hS4 hS5 hT5 hv5 hr4 hi4 h1 h2 h3 h4
       go_wp2_with fail
       go_roundw
       case rel=>exact ⟨r5,k+1,by omega,rfl,by go_num,hnext⟩
       case measure=>simp [intOf];omega
     ·have dk:decide ((k:Int) < (l.length:Int)) = false:=decide_eq_false (by omega)
      have hke:k = l.length:=by omega
      rw [hke] at h3
      have qo:=or_c (k':=300000) (c:=0) (d:=0) h1 (free_cost h1.chk h7).1 (free_cost h1.chk h7).2 (by omega) h2 h3
      rw [hsb3] at qo
      go_wp2_with fail
      refine qo.mono ?_
      rintro e w5 ⟨r5,so5,rfl,hS5,hT5,hv5⟩
      have hnext:Hid (MdLoop w t B3 wq (mdφ l bts (n+1)) r5 w5):=Lib.hid ⟨so5,hS5,hv5.congr fun y=>mdφ_take l bts n hnb (by rw [←hN2.out];exact hlt) y,hS5.behind hbw3 hm3.out hbw3.size⟩
      clear qo hS5 hT5 hv5 h1 h2 h3 h4
      go_wp2_with fail
      go_roundw
      case rel=>exact ⟨n+1,r5,by omega,rfl,by go_num,hnext⟩
      case measure=>simp [intOf];omega
  ·have dlt:decide ((n:Int) < (N2:Int)) = false:=decide_eq_false (by omega)
   obtain rfl:n = N2:=by omega
   obtain ⟨so,h1,h2,h3⟩:=hI.out
   obtain ⟨B4,hB4,hR4,hS4,_⟩:=h1.here
   have hst:=StOn.of hS4 h2
   rw [hB4,hsb3] at hst
   replace hst:=Lib.hid hst
   clear h1 h2 hS4 hR4
   go_wp2_with fail
   go_ret2
   exact ⟨B.sb,r,rfl,hst.out,h3⟩
end Go.Proofs.YtemnmcfmabamcaaGreatDoor
end
