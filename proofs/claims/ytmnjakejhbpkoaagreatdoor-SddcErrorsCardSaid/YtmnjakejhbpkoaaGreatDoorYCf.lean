import Derived.Test.YtmnjakejhbpkoaaGreatDoorYWk2
import Derived.Test.YtmnjakejhbpkoaaGreatDoorYLst
import Derived.Test.YtmnjakejhbpkoaaGreatDoorYLaw11
import Derived.Test.YtmnjakejhbpkoaaGreatDoorYVars
import Derived.Test.YtmnjakejhbpkoaaGreatDoorYTop
import Derived.Test.YtmnjakejhbpkoaaGreatDoorYRef3
import Derived.Laws.EntriesVeiled
import Derived.Test.YtmnjakejhbpkoaaGreatDoorYReg
section
set_option linter.unusedSimpArgs false
set_option linter.unusedVariables false
namespace Go.Proofs.YtmnjakejhbpkoaaGreatDoor
open Go Go.RowKit Go.Shelf
open Classical in
noncomputable def compE (n:Int) (T:List (List Int)) (t:List VN):Int :=
 if L.thChk n T≠0 then L.thChk n T else if checkF t≠0 then checkF t else if (∀ u,hasS (L.thVars T) u = true→VarOf t u) then 0 else 1
theorem compE_ok {n:Int} {T:List (List Int)} {t:List VN} (h:compE n T t = 0):L.thChk n T = 0∧checkF t = 0∧∀ u,hasS (L.thVars T) u = true→VarOf t u:=by
 unfold compE at h
 split at h
 ·rename_i h1;exact absurd h h1
 ·rename_i h1
  split at h
  ·rename_i h2;exact absurd h h2
  ·rename_i h2
   split at h
   ·rename_i h3;exact ⟨Decidable.not_not.1 h1,Decidable.not_not.1 h2,h3⟩
   ·cases h
theorem compile_no {n:Int} {T:List (List Int)} {v:Value} {w:World} (hv:SlT w v T) {t:List VN} (ba:Option Addr) (cap:Nat) (h:t = []∨∃ b o,ba = some ⟨b,o,none⟩∧TreeAt w b o t) (hE:compE n T t≠0) :
  Calls Tryz.prog 19 #[.agg #[.int .i64 n,v],.slice ba t.length cap] w fun e w'=>e = .returned (.tuple #[.pointer none,.int .i64 0,.int .i64 (compE n T t)])∧Below w.heap.size w w':=by
 by_cases h1:L.thChk n T = 0
 ·by_cases h2:checkF t = 0
  ·by_cases h3:∀ u,hasS (L.thVars T) u = true→VarOf t u
   ·exact absurd (by unfold compE;rw [if_neg (fun h=>h h1),if_neg (fun h=>h h2),if_pos h3]) hE
   ·have e:compE n T t = 1:=by unfold compE;rw [if_neg (fun h=>h h1),if_neg (fun h=>h h2),if_neg h3]
    rw [e]
    obtain ⟨b,o,rfl,ht⟩:=tree_some h2 h
    have h4:∃ u,hasS (L.thVars T) u = true∧¬ VarOf t u:=Classical.byContradiction fun hn=>h3 fun u hu=>Classical.byContradiction fun hv=>hn ⟨u,hu,hv⟩
    exact compile_bad hv (some ⟨b,o,none⟩) cap h1 (E:=1) (by decide) fun W hW=>open_no W b o cap (L.thVars T) (ht.ext hW) h2 h4
  ·have e:compE n T t = checkF t:=by unfold compE;rw [if_neg (fun h=>h h1),if_pos h2]
   rw [e]
   exact compile_bad hv ba cap h1 (E:=checkF t) h2 fun W hW=>(open_bad W ba cap (L.thVars T) (h.imp id fun ⟨b,o,e,ht⟩=>⟨b,o,e,ht.ext hW⟩) h2).mono fun e w' hh=>⟨hh.1,hh.2.below⟩
 ·have e:compE n T t = L.thChk n T:=by unfold compE;rw [if_pos h1]
  rw [e]
  exact (compile_err hv ba t.length cap h1).mono fun e w' hh=>⟨hh.1,hh.2.below⟩
theorem light_few {n:Int} {T:List (List Int)} (h:light27B n T = true) (h0:L.thChk n T = 0):T.length≤30:=by
 unfold light27B at h
 simp only [Bool.and_eq_true,Bool.or_eq_true,decide_eq_true_eq] at h
 rcases h.2 with h | h
 ·exact h
 ·exact absurd h0 h
theorem few_len {t:List VN} (h:few27B t = true) (h0:checkF t = 0):t.length≤11:=by
 unfold few27B at h
 rw [if_neg (fun e=>e h0)] at h
 simpa using h
theorem isBel_sorted {t:List VN} {j:Nat} {m:VSet} (h:IsBel t j m):L.SortedBel t j (listV m):=⟨L.listVK_sorted m 128,fun x=>by
 rw [L.listV_mem]
 exact ⟨fun hx=>(isBel_has h (L.hasS_range hx)).1 hx,fun hx=>(isBel_has h hx.range).2 hx⟩⟩
set_option maxRecDepth 100000 in
set_option maxHeartbeats 1000000 in
theorem over_any {t:List VN} (w:World) (b o cap:Nat) (h:TreeAt w b o t) (hc:checkF t = 0) (hT:TzTab w) :
  Calls Tryz.prog 32 #[.slice (some ⟨b,o,none⟩) t.length cap] w fun e w'=>∃ v l,e = .returned v∧w'.ownsRow w.heap.size 3 1 v l.length (l.map encZ)∧L.SortedBel t (t.length - 1) l∧Below w.heap.size w w':=by
 obtain ⟨hl0,hl1,_⟩:=check_ok hc
 obtain ⟨n,hn⟩:∃ n,t.length = n+1:=⟨t.length - 1,by omega⟩
 have d0:((t.length:Int) == 0) = false:=beq_eq_false_iff_ne.2 (by omega)
 have hwr:IntKind.i64.wrap ((t.length:Int) - 1) = (n:Int):=by rw [hn];rw [IntWalk.i64_in _ (by omega)];omega
 have g0:(0:Int)≤n:=by omega
 have g1:(n:Int) < t.length:=by omega
 have q:=vvars_any (cap:=cap) w b o h hc
 rw [show t.length - 1 = n by omega]
 replace hn:=Lib.hid hn
 go_enter Tryz.func32,Tryz.ntmps32
 go_wp2_with fail
 refine q.mono ?_
 rintro e w2 ⟨g,f,hg,rfl,hS,hf,hx2⟩
 obtain ⟨⟨s1,s2⟩,_⟩:=hS.cell (j:=n) (by have:=hn.out;omega)
 have hm:=isBel_sorted (hf n (by have:=hn.out;omega))
 have q2:=vlist_any (f n) w2 (hT.ext hx2)
 generalize f n = m at *
 replace hf:=Lib.hid hf
 replace hS:=Lib.hid hS
 replace hx2:=Lib.hid hx2
 clear q
 go_wp2_with fail
 refine q2.mono ?_
 rintro e w3 ⟨v,rfl,ho,hb3⟩
 clear q2
 go_wp2_with fail
 go_ret
 exact ⟨v,_,rfl,own_base ho hx2.out.size,hm,hx2.out.below.trans (hb3.mono hx2.out.size)⟩
theorem sorted_pos {t:List VN} (hc:checkF t = 0) {l:List Int} (h:L.SortedBel t (t.length - 1) l):0 < l.length:=by
 have h0:=(check_ok hc).1
 rw [h.len hc (by omega)]
 have:=L.nv_pos hc (v:=t.length - 1) (by omega)
 omega
end Go.Proofs.YtmnjakejhbpkoaaGreatDoor
end
section
set_option linter.unusedSimpArgs false
set_option linter.unusedVariables false
namespace Go.Proofs.YtmnjakejhbpkoaaGreatDoor
open Go Go.RowKit Go.Shelf
theorem nat_agg (n:Nat):natV n = .agg #[.string ⟨(natL n).toArray⟩]:=rfl
theorem cnt64 {t:List VN} (hc:checkF t = 0) (hfew:t.length≤11) (φ:L.Asg→Bool):L.cnt (L.vl t (t.length - 1)) φ≤64:=by
 have h0:=(check_ok hc).1
 have h1:=L.nv_le hc (v:=t.length - 1) (by omega)
 have h2:=L.cnt_le (L.vl t (t.length - 1)) φ
 have h3:L.nv t (t.length - 1)≤6:=by omega
 exact Nat.le_trans h2 (Nat.pow_le_pow_right (by omega) h3)
end Go.Proofs.YtmnjakejhbpkoaaGreatDoor
end
section
set_option linter.unusedSimpArgs false
set_option linter.unusedVariables false
namespace Go.Proofs.YtmnjakejhbpkoaaGreatDoor
open Go Go.RowKit Go.Shelf
set_option maxRecDepth 100000 in
set_option maxHeartbeats 1000000 in
theorem indexFunc_any {fm:Nat} {q:Value} (hKf:∀ (c:Array Value) (w:World),(callFunc fm c).run Tryz.prog w = .ok (.enter fm c) w) (I:World→Prop) {p:Int→Bool} {l:List Int} {v:Value} {w:World} (hv:∀ W,I W→SlI W v l) (hl:l.length≤9223372036854775807) (h0:I w)
  (hc:∀ (j:Nat) (hj:j < l.length) (W:World),I W→Calls Tryz.prog fm #[.int .i64 l[j],q] W fun e W'=>e = .returned (.bool (p l[j]))∧I W') :
  Calls Tryz.prog 192 #[v,.func (.func fm) #[] #[q]] w fun e w'=>∃ z:Int,e = .returned (.int .i64 z)∧decide (0≤z) = l.any p∧I w':=by
 obtain ⟨ba,cp,rfl,_⟩:=hv w h0
 have hcell:∀ W,I W→∀ j (hj:j < l.length),∃ b o,ba = some ⟨b,o,none⟩∧W.cell? ⟨b,o+j,none⟩ = some (.int .i64 l[j]):=fun W hI j hj=>by
  obtain ⟨ba',cp',e,h⟩:=hv W hI
  cases e
  rcases h with ⟨_,rfl,_⟩ | ⟨b,o,h1,h2⟩
  ·simp at hj
  ·exact ⟨b,o,h1,h2 j hj⟩
 replace hcell:=Lib.hid hcell
 replace hc:=Lib.hid hc
 replace h0:=Lib.hid h0
 clear hv
 go_enter Tryz.func192,Tryz.ntmps192
 go_wp2_with fail
 go_loopw [5,8] (fun _ i wr=>∃ k:Nat,k≤l.length∧i = .int .i64 k∧I wr∧∀ j (hj:j < l.length),j < k→p l[j] = false) (fun _ i _=>l.length - (intOf i).toNat)
 case atStart=>exact ⟨0,Nat.zero_le _,rfl,h0.out,fun j _ h=>absurd h (Nat.not_lt_zero _)⟩
 case round =>
  obtain ⟨k,hk,rfl,hI,hno⟩:=hrel
  by_cases hlt:k < l.length
  ·obtain ⟨b,o,rfl,f1⟩:=hcell.out wr hI k hlt
   have q1:=hc.out k hlt wr hI
   have hany:p l[k] = true→l.any p = true:=fun h=>List.any_eq_true.2 ⟨_,List.getElem_mem hlt,h⟩
   have hnext:p l[k] = false→∀ j (hj:j < l.length),j < k+1→p l[j] = false:=fun h j hj hjk=>by
    by_cases e:j = k
    ·subst e;exact h
    ·exact hno j hj (by omega)
   generalize l[k] = x at *
   replace hI:=Lib.hid hI
   replace hno:=Lib.hid hno
   replace hnext:=Lib.hid hnext
   replace hany:=Lib.hid hany
   cases hp:p x
   ·rw [hp] at q1
    go_wp2_with fail
    refine q1.mono ?_
    rintro e w2 ⟨rfl,hI2⟩
    have hn2:=hnext.out hp
    replace hI2:=Lib.hid hI2
    replace hn2:=Lib.hid hn2
    clear q1
    go_wp2_with fail
    go_roundw
    case rel=>exact ⟨k+1,by omega,by go_num,hI2.out,hn2.out⟩
    case measure=>simp [intOf];omega
   ·rw [hp] at q1
    go_wp2_with fail
    refine q1.mono ?_
    rintro e w2 ⟨rfl,hI2⟩
    replace hI2:=Lib.hid hI2
    clear q1
    go_wp2_with fail
    go_ret
    exact ⟨k,rfl,by rw [hany.out hp];exact decide_eq_true (by omega),hI2.out⟩
  ·obtain rfl:k = l.length:=by omega
   have hf:l.any p = false:=by
    rw [List.any_eq_false]
    intro x hx
    obtain ⟨j,hj,rfl⟩:=List.getElem_of_mem hx
    simp [hno j hj hj]
   replace hI:=Lib.hid hI
   replace hno:=Lib.hid hno
   replace hf:=Lib.hid hf
   go_wp2_with fail
   go_ret
   exact ⟨-1,rfl,by rw [hf.out];rfl,hI.out⟩
set_option maxRecDepth 100000 in
set_option maxHeartbeats 1000000 in
theorem containsFunc_any {fm:Nat} {q:Value} (hKf:∀ (c:Array Value) (w:World),(callFunc fm c).run Tryz.prog w = .ok (.enter fm c) w) (I:World→Prop) {p:Int→Bool} {l:List Int} {v:Value} {w:World} (hv:∀ W,I W→SlI W v l) (hl:l.length≤9223372036854775807) (h0:I w)
  (hc:∀ (j:Nat) (hj:j < l.length) (W:World),I W→Calls Tryz.prog fm #[.int .i64 l[j],q] W fun e W'=>e = .returned (.bool (p l[j]))∧I W') :
  Calls Tryz.prog 140 #[v,.func (.func fm) #[] #[q]] w fun e w'=>e = .returned (.bool (l.any p))∧I w':=by
 have q1:=indexFunc_any hKf I hv hl h0 hc
 obtain ⟨ba,cp,rfl,_⟩:=hv w h0
 replace hv:=Lib.hid hv
 replace hc:=Lib.hid hc
 replace h0:=Lib.hid h0
 generalize l.any p = B at *
 go_enter Tryz.func140,Tryz.ntmps140
 go_wp2_with fail
 refine q1.mono ?_
 rintro e w2 ⟨z,rfl,hz,hI⟩
 have hz2:decide (z≥0) = B:=hz
 replace hI:=Lib.hid hI
 clear q1
 go_wp2_with fail
 go_ret
 exact ⟨by first | rfl | (rw [←hz] <;> rfl),hI.out⟩
end Go.Proofs.YtmnjakejhbpkoaaGreatDoor
end
