import Derived.Test.YtmnjakejhbpkoaaGreatDoorZWk2
import Derived.Test.YtmnjakejhbpkoaaGreatDoorZLst
import Derived.Test.YtmnjakejhbpkoaaGreatDoorZLaw11
section
set_option linter.unusedSimpArgs false
set_option linter.unusedVariables false
namespace Go.Proofs.YtmnjakejhbpkoaaGreatDoor
open Go Go.RowKit Go.Shelf
open Classical in
noncomputable def compE (n:Int) (T:List (List Int)) (t:List VN):Int :=
 if L.thChk n T≠0 then L.thChk n T else if checkF t≠0 then checkF t else if (∀ u,hasS (L.thVars T) u = true→VarOf t u) then 0 else 1
theorem compE_ok {n:Int} {T:List (List Int)} {t:List VN} (h:compE n T t = 0):L.thChk n T = 0∧checkF t = 0∧∀ u,hasS (L.thVars T) u = true→VarOf t u:=by
 unfold compE at h
 split at h
 ·rename_i h1;exact absurd h h1
 ·rename_i h1
  split at h
  ·rename_i h2;exact absurd h h2
  ·rename_i h2
   split at h
   ·rename_i h3;exact ⟨Decidable.not_not.1 h1,Decidable.not_not.1 h2,h3⟩
   ·cases h
theorem compile_no {n:Int} {T:List (List Int)} {v:Value} {w:World} (hv:SlT w v T) {t:List VN} (ba:Option Addr) (cap:Nat) (h:t = []∨∃ b o,ba = some ⟨b,o,none⟩∧TreeAt w b o t) (hE:compE n T t≠0) :
  Calls Tryz.prog 19 #[.agg #[.int .i64 n,v],.slice ba t.length cap] w fun e w'=>e = .returned (.tuple #[.pointer none,.int .i64 0,.int .i64 (compE n T t)])∧Below w.heap.size w w':=by
 by_cases h1:L.thChk n T = 0
 ·by_cases h2:checkF t = 0
  ·by_cases h3:∀ u,hasS (L.thVars T) u = true→VarOf t u
   ·exact absurd (by unfold compE;rw [if_neg (fun h=>h h1),if_neg (fun h=>h h2),if_pos h3]) hE
   ·have e:compE n T t = 1:=by unfold compE;rw [if_neg (fun h=>h h1),if_neg (fun h=>h h2),if_neg h3]
    rw [e]
    obtain ⟨b,o,rfl,ht⟩:=tree_some h2 h
    have h4:∃ u,hasS (L.thVars T) u = true∧¬ VarOf t u:=Classical.byContradiction fun hn=>h3 fun u hu=>Classical.byContradiction fun hv=>hn ⟨u,hu,hv⟩
    exact compile_bad hv (some ⟨b,o,none⟩) cap h1 (E:=1) (by decide) fun W hW=>open_no W b o cap (L.thVars T) (ht.ext hW) h2 h4
  ·have e:compE n T t = checkF t:=by unfold compE;rw [if_neg (fun h=>h h1),if_pos h2]
   rw [e]
   exact compile_bad hv ba cap h1 (E:=checkF t) h2 fun W hW=>(open_bad W ba cap (L.thVars T) (h.imp id fun ⟨b,o,e,ht⟩=>⟨b,o,e,ht.ext hW⟩) h2).mono fun e w' hh=>⟨hh.1,hh.2.below⟩
 ·have e:compE n T t = L.thChk n T:=by unfold compE;rw [if_pos h1]
  rw [e]
  exact (compile_err hv ba t.length cap h1).mono fun e w' hh=>⟨hh.1,hh.2.below⟩
theorem light_few {n:Int} {T:List (List Int)} (h:light27B n T = true) (h0:L.thChk n T = 0):T.length≤30:=by
 unfold light27B at h
 simp only [Bool.and_eq_true,Bool.or_eq_true,decide_eq_true_eq] at h
 rcases h.2 with h | h
 ·exact h
 ·exact absurd h0 h
theorem few_len {t:List VN} (h:few27B t = true) (h0:checkF t = 0):t.length≤11:=by
 unfold few27B at h
 rw [if_neg (fun e=>e h0)] at h
 simpa using h
set_option maxRecDepth 100000 in
theorem full_any (ba:Option Addr) (n cap:Nat) (w:World):Calls Tryz.prog 20 #[.int .i64 0,.slice ba n cap] w fun e w'=>e = .returned (.bool false)∧w = w':=by
 go_enter Tryz.func20,Tryz.ntmps20
 go_wp2_with fail
 go_ret
 exact ⟨rfl,rfl⟩
theorem isBel_sorted {t:List VN} {j:Nat} {m:VSet} (h:IsBel t j m):L.SortedBel t j (listV m):=⟨L.listVK_sorted m 128,fun x=>by
 rw [L.listV_mem]
 exact ⟨fun hx=>(isBel_has h (L.hasS_range hx)).1 hx,fun hx=>(isBel_has h hx.range).2 hx⟩⟩
set_option maxRecDepth 100000 in
set_option maxHeartbeats 1000000 in
theorem over_any {t:List VN} (w:World) (b o cap:Nat) (h:TreeAt w b o t) (hc:checkF t = 0) (hT:TzTab w) :
  Calls Tryz.prog 32 #[.slice (some ⟨b,o,none⟩) t.length cap] w fun e w'=>∃ v l,e = .returned v∧w'.ownsRow w.heap.size 3 1 v l.length (l.map encZ)∧L.SortedBel t (t.length - 1) l∧Below w.heap.size w w':=by
 obtain ⟨hl0,hl1,_⟩:=check_ok hc
 obtain ⟨n,hn⟩:∃ n,t.length = n+1:=⟨t.length - 1,by omega⟩
 have d0:((t.length:Int) == 0) = false:=beq_eq_false_iff_ne.2 (by omega)
 have hwr:IntKind.i64.wrap ((t.length:Int) - 1) = (n:Int):=by rw [hn];rw [IntWalk.i64_in _ (by omega)];omega
 have g0:(0:Int)≤n:=by omega
 have g1:(n:Int) < t.length:=by omega
 have q:=vvars_any (cap:=cap) w b o h hc
 rw [show t.length - 1 = n by omega]
 replace hn:=Lib.hid hn
 go_enter Tryz.func32,Tryz.ntmps32
 go_wp2_with fail
 refine q.mono ?_
 rintro e w2 ⟨g,f,hg,rfl,hS,hf,hx2⟩
 obtain ⟨⟨s1,s2⟩,_⟩:=hS.cell (j:=n) (by have:=hn.out;omega)
 have hm:=isBel_sorted (hf n (by have:=hn.out;omega))
 have q2:=vlist_any (f n) w2 (hT.ext hx2)
 generalize f n = m at *
 replace hf:=Lib.hid hf
 replace hS:=Lib.hid hS
 replace hx2:=Lib.hid hx2
 clear q
 go_wp2_with fail
 refine q2.mono ?_
 rintro e w3 ⟨v,rfl,ho,hb3⟩
 clear q2
 go_wp2_with fail
 go_ret
 exact ⟨v,_,rfl,own_base ho hx2.out.size,hm,hx2.out.below.trans (hb3.mono hx2.out.size)⟩
theorem sorted_var {t:List VN} (hc:checkF t = 0) {l:List Int} (h:L.SortedBel t (t.length - 1) l) {x:Int} (hx:x∈l):VarOf t x:=(bel_root hc x).1 ((h.mem x).1 hx)
theorem sorted_pos {t:List VN} (hc:checkF t = 0) {l:List Int} (h:L.SortedBel t (t.length - 1) l):0 < l.length:=by
 have h0:=(check_ok hc).1
 rw [h.len hc (by omega)]
 have:=L.nv_pos hc (v:=t.length - 1) (by omega)
 omega
theorem setCell_same {w:World} {b:Nat} {v:Value} {t:TypeId} {f:Nat × Nat} (h:w.heap[b]? = some (.cells #[v] t f)):w.setCell ⟨b,0,none⟩ v = w:=by
 unfold World.setCell
 congr 1
 apply Array.ext_getElem?
 intro k
 rw [Array.getElem?_modify]
 by_cases e:b = k
 ·subst e
  rw [if_pos rfl,h]
  rfl
 ·rw [if_neg e]
end Go.Proofs.YtmnjakejhbpkoaaGreatDoor
end
section
set_option linter.unusedSimpArgs false
set_option linter.unusedVariables false
namespace Go.Proofs.YtmnjakejhbpkoaaGreatDoor.L
theorem cnt_mono:∀ (l:List Int) (φ ψ:Asg→Bool),(∀ x,φ x = true→ψ x = true)→cnt l φ≤cnt l ψ
 | [],φ,ψ,h=>by
   rw [cnt,cnt]
   by_cases h1:φ (fun _=>false) = true
   ·rw [if_pos h1,if_pos (h _ h1)];exact Nat.le_refl _
   ·rw [if_neg h1];exact Nat.zero_le _
 | v :: l,φ,ψ,h=>by
   rw [cnt,cnt]
   exact Nat.add_le_add (cnt_mono l _ _ fun x hx=>h _ hx) (cnt_mono l _ _ fun x hx=>h _ hx)
theorem cnt_split {l:List Int} {v:Int} (hv:v∈l) (φ:Asg→Bool):cnt l (giv φ v true)+cnt l (giv φ v false) = cnt l φ+cnt l φ:=by
 obtain ⟨m,hm⟩:∃ m,l.Perm (v :: m):=by
  obtain ⟨a,b,rfl⟩:=List.append_of_mem hv
  exact ⟨a++b,List.perm_middle⟩
 rw [cnt_perm hm,cnt_perm hm,cnt_perm hm,cnt,cnt,cnt]
 simp only [giv_giv]
 omega
theorem giv_some_le (φ:Asg→Bool) (v:Int) (x:Asg) (h:φ x = true):(giv φ v true x || giv φ v false x) = true:=by
 have e:giv φ v (x v) x = true:=by unfold giv;rw [upd_same];exact h
 cases hb:x v
 ·rw [hb] at e;rw [e,Bool.or_true]
 ·rw [hb] at e;rw [e,Bool.true_or]
theorem cnt_some (l:List Int) (φ:Asg→Bool) (v:Int):cnt l φ≤cnt l (fun x=>giv φ v true x || giv φ v false x):=cnt_mono l _ _ (giv_some_le φ v)
end Go.Proofs.YtmnjakejhbpkoaaGreatDoor.L
end
section
set_option linter.unusedSimpArgs false
set_option linter.unusedVariables false
namespace Go.Proofs.YtmnjakejhbpkoaaGreatDoor
open Go Go.RowKit Go.Shelf
theorem nat_agg (n:Nat):natV n = .agg #[.string ⟨(natL n).toArray⟩]:=rfl
set_option maxRecDepth 100000 in
set_option maxHeartbeats 4000000 in
theorem two_any {t:List VN} {sb k:Nat} {X:List Nat} {s:St} {w0 w:World} (h:SL t sb k X s w0 w) {a b:Nat} {φ ψ:L.Asg→Bool} (ha:Val s a φ) (hb:Val s b ψ) (hlt:L.cnt (L.vl t (t.length - 1)) φ+L.cnt (L.vl t (t.length - 1)) ψ < 256) :
  Calls Tryz.prog 40 #[.pointer (some ⟨sb,0,none⟩),.int .i64 (a:Nat),.int .i64 (b:Nat)] w fun e w'=>e = .returned (.tuple #[natV (L.cnt (L.vl t (t.length - 1)) φ+L.cnt (L.vl t (t.length - 1)) ψ),.bool true])∧Below w.heap.size w w':=by
 have hb1:=(Below.refl w.heap.size w).alloc (Nat.le_refl _) (.cells #[.string ⟨#[]⟩] 52)
 have hn1:=heap_alloc_new w (.cells #[.string ⟨#[]⟩] 52)
 have hs1:(w.alloc (.cells #[.string ⟨#[]⟩] 52)).heap.size = w.heap.size+1:=by simp
 obtain ⟨w1,hw1⟩:∃ w1,w1 = w.alloc (.cells #[.string ⟨#[]⟩] 52):=⟨_,rfl⟩
 rw [←hw1] at hb1 hn1 hs1
 have h1:=h.below hb1
 have q1:=count_any h1 ha
 generalize hca:L.cnt (L.vl t (t.length - 1)) φ = ca at *
 rw [nat_agg] at q1
 generalize hA:(⟨(natL ca).toArray⟩:ByteArray) = A at *
 replace h1:=Lib.hid h1
 go_enter Tryz.func40,Tryz.ntmps40
 go_wp2_with fail
 rw [←hw1]
 replace hw1:=Lib.hid hw1
 refine q1.mono ?_
 rintro e w2 ⟨rfl,hb2⟩
 have hbB:Below w2.heap.size w2 (w2.alloc (.cells #[.string A] 52)):=(Below.refl _ _).alloc (Nat.le_refl _) _
 have hnB:=heap_alloc_new w2 (.cells #[.string A] 52)
 obtain ⟨w3,hw3⟩:∃ w3,w3 = w2.alloc (.cells #[.string A] 52):=⟨_,rfl⟩
 rw [←hw3] at hbB hnB
 have h3:=(h1.out.below hb2).below hbB
 have q3:=count_any h3 hb
 generalize hcb:L.cnt (L.vl t (t.length - 1)) ψ = cb at *
 rw [nat_agg] at q3
 generalize hB:(⟨(natL cb).toArray⟩:ByteArray) = B at *
 have hb3:=hb1.trans ((hb2.trans (hbB.mono hb2.size)).mono hb1.size)
 have hr3:=(hbB.block _ (Nat.lt_of_lt_of_le (Array.getElem?_eq_some_iff.1 hn1).1 hb2.size)).trans ((hb2.block _ (Array.getElem?_eq_some_iff.1 hn1).1).trans hn1)
 have h23:w.heap.size < w2.heap.size:=by have:=hb2.size;omega
 replace h3:=Lib.hid h3
 clear q1 hbB
 go_wp2_with fail
 rw [←hw3]
 replace hw3:=Lib.hid hw3
 refine q3.mono ?_
 rintro e w4 ⟨rfl,hb4⟩
 have hbC:Below w4.heap.size w4 (w4.alloc (.cells #[.string B] 52)):=(Below.refl _ _).alloc (Nat.le_refl _) _
 have hnC:=heap_alloc_new w4 (.cells #[.string B] 52)
 obtain ⟨w5,hw5⟩:∃ w5,w5 = w4.alloc (.cells #[.string B] 52):=⟨_,rfl⟩
 rw [←hw5] at hbC hnC
 have hb5:=hb3.trans ((hb4.trans (hbC.mono hb4.size)).mono hb3.size)
 have hr5:=(hbC.block _ (Nat.lt_of_lt_of_le (Array.getElem?_eq_some_iff.1 hr3).1 hb4.size)).trans ((hb4.block _ (Array.getElem?_eq_some_iff.1 hr3).1).trans hr3)
 have hB5:=(hbC.block _ (Nat.lt_of_lt_of_le (Array.getElem?_eq_some_iff.1 hnB).1 hb4.size)).trans ((hb4.block _ (Array.getElem?_eq_some_iff.1 hnB).1).trans hnB)
 have c1:w5.cell? ⟨w2.heap.size,0,none⟩ = some (.string A):=by simp [World.cell?,hB5]
 have c2:w5.cell? ⟨w4.heap.size,0,none⟩ = some (.string B):=by simp [World.cell?,hnC]
 have c1':(w4.alloc (.cells #[.string B] 52)).cell? ⟨w2.heap.size,0,none⟩ = some (.string A):=by rw [←hw5];exact c1
 have q5:=nadd_any (w:=w5) hlt
 rw [nat_agg,nat_agg,nat_agg,hA,hB] at q5
 generalize hR:(⟨(natL (ca+cb)).toArray⟩:ByteArray) = R at *
 clear q3 hbC
 go_wp2_with fail
 rw [←hw5]
 replace hw5:=Lib.hid hw5
 refine q5.mono ?_
 rintro e w6 ⟨rfl,hb6⟩
 have hr6:=(hb6.block _ (Array.getElem?_eq_some_iff.1 hr5).1).trans hr5
 have fz:w6.frozen? ⟨w.heap.size,0,none⟩ = false:=by simp [World.frozen?,hr6]
 have hcc:w6.cell? ⟨w.heap.size,0,none⟩ = some (.string ⟨#[]⟩):=by simp [World.cell?,hr6]
 have hfin:((w6.setCell ⟨w.heap.size,0,none⟩ (.string R)).cell? ⟨w.heap.size,0,none⟩ = some (.string R)):=by simp [World.cell?,heap_set hr6 0 _]
 have hbe:=(hb5.trans (hb6.mono hb5.size)).setCell (p:=⟨w.heap.size,0,none⟩) (Nat.le_refl _) (.string R)
 replace hfin:=Lib.hid hfin
 replace hbe:=Lib.hid hbe
 clear q5
 go_wp2_with fail
 refine bodyPost_ret (v:=.tuple #[.agg #[.string R],.bool true]) (by simp [results,Tryz.results40,go_sem,hfin.out]) rfl ⟨by first | rw [hcb,hR] | (rw [nat_agg,hcb,hR] <;> rfl),hbe.out⟩
theorem cnt64 {t:List VN} (hc:checkF t = 0) (hfew:t.length≤11) (φ:L.Asg→Bool):L.cnt (L.vl t (t.length - 1)) φ≤64:=by
 have h0:=(check_ok hc).1
 have h1:=L.nv_le hc (v:=t.length - 1) (by omega)
 have h2:=L.cnt_le (L.vl t (t.length - 1)) φ
 have h3:L.nv t (t.length - 1)≤6:=by omega
 exact Nat.le_trans h2 (Nat.pow_le_pow_right (by omega) h3)
end Go.Proofs.YtmnjakejhbpkoaaGreatDoor
end
