import Derived.Test.YtmnjakejhbpkoaaGreatDoorYVvars
import Derived.Test.YtmnjakejhbpkoaaGreatDoorYLaw3
import Derived.ChangeKeysEq
import Derived.Test.YtmnjakejhbpkoaaGreatDoorYReg
section
set_option linter.unusedSimpArgs false
set_option linter.unusedVariables false
namespace Go.Proofs.YtmnjakejhbpkoaaGreatDoor
open Go Go.RowKit Go.Shelf
def subS (a b:VSet):Bool:=decide (a &&& ~~~b = 0)
theorem subS_iff (a b:VSet):subS a b = true↔∀ u,hasS a u = true→hasS b u = true:=by
 unfold subS
 rw [decide_eq_true_iff]
 constructor
 ·intro h u hu
  obtain ⟨u1,u2⟩:=L.hasS_range hu
  obtain ⟨i,hi,rfl⟩:∃ i:Nat,i < 128∧u = (i:Int)+1:=⟨(u - 1).toNat,by omega,by omega⟩
  rw [L.hasS_bit _ _ hi] at hu ⊢
  have:=congrArg (fun x:VSet=>x.getLsbD i) h
  simp only [BitVec.getLsbD_and,BitVec.getLsbD_not,hi,decide_true,Bool.true_and,hu,BitVec.getLsbD_zero] at this
  simpa using this
 ·intro h
  refine L.set_ext fun i hi=>?_
  have e0:(0:VSet).getLsbD i = false:=BitVec.getLsbD_zero
  rw [e0,BitVec.getLsbD_and,BitVec.getLsbD_not]
  have:=h ((i:Int)+1)
  rw [L.hasS_bit _ _ hi,L.hasS_bit _ _ hi] at this
  cases ha:a.getLsbD i
  ·rfl
  ·rw [this ha];simp
theorem lohi_zero (a:VSet):(decide (lo a = 0) && decide (hi a = 0)) = decide (a = 0):=by
 rw [Bool.eq_iff_iff]
 simp only [Bool.and_eq_true,decide_eq_true_eq]
 constructor
 ·rintro ⟨h1,h2⟩
  refine L.set_ext fun i hi=>?_
  have e0:(0:VSet).getLsbD i = false:=BitVec.getLsbD_zero
  rw [e0]
  have z1:a.setWidth 64 = 0:=by
   apply BitVec.eq_of_toNat_eq
   have h3:(((a.setWidth 64).toNat:Nat):Int) = 0:=h1
   show (a.setWidth 64).toNat = 0
   omega
  have z2:(a >>> 64).setWidth 64 = 0:=by
   apply BitVec.eq_of_toNat_eq
   have h3:((((a >>> 64).setWidth 64).toNat:Nat):Int) = 0:=h2
   show ((a >>> 64).setWidth 64).toNat = 0
   omega
  by_cases h64:i < 64
  ·have:=congrArg (fun x:BitVec 64=>x.getLsbD i) z1
   simpa [BitVec.getLsbD_setWidth,h64] using this
  ·have:=congrArg (fun x:BitVec 64=>x.getLsbD (i - 64)) z2
   simp only [BitVec.getLsbD_setWidth,BitVec.getLsbD_ushiftRight] at this
   rw [show 64+(i - 64) = i by omega] at this
   simpa [show i - 64 < 64 by omega] using this
 ·rintro rfl;exact ⟨by rfl,by rfl⟩
set_option maxRecDepth 100000 in
set_option maxHeartbeats 1000000 in
theorem varsSub_any (a b:VSet) (w:World):Calls Tryz.prog 111 #[encS a,encS b] w fun e w'=>e = .returned (.bool (subS a b))∧Ext w w':=by
 have hz:=lohi_zero (a &&& ~~~b)
 have hq:=fun w=>minus_any a b w
 unfold encS at hq ⊢
 unfold subS
 rw [←hz]
 clear hz
 have hx:=((Ext.refl w).alloc (.cells #[.int .u64 (lo a),.int .u64 (hi a)] 41)).alloc (.cells #[.int .u64 (lo b),.int .u64 (hi b)] 41)
 go_enter Tryz.func111,Tryz.ntmps111
 go_wp2_with fail
 refine (hq _).mono ?_
 rintro e w1 ⟨rfl,hx1⟩
 generalize hx0:lo (a &&& ~~~b) = x at *
 generalize hx1':hi (a &&& ~~~b) = y at *
 have hse:=setEqD x y 0 0
 go_wp2_with fail
 go_ret
 exact ⟨by rw [hx0,hx1'] <;> rfl,hx.trans hx1⟩
end Go.Proofs.YtmnjakejhbpkoaaGreatDoor
end
section
set_option linter.unusedSimpArgs false
set_option linter.unusedVariables false
namespace Go.Proofs.YtmnjakejhbpkoaaGreatDoor
open Go Go.RowKit Go.Shelf
def SlT (w:World) (v:Value) (T:List (List Int)):Prop :=
 ∃ ba c,v = .slice ba T.length c∧((c = c∧T = []∧c = c)∨∃ b o,ba = some ⟨b,o,none⟩∧∀ j (hj:j < T.length),∃ u,w.cell? ⟨b,o+j,none⟩ = some u∧SlI w u T[j])
theorem SlT.ext {w w':World} {v:Value} {T:List (List Int)} (h:SlT w v T) (hb:Below w.heap.size w w'):SlT w' v T:=by
 obtain ⟨ba,c,rfl,h⟩:=h
 refine ⟨ba,c,rfl,h.imp id ?_⟩
 rintro ⟨b,o,rfl,hc⟩
 exact ⟨b,o,rfl,fun j hj=>by
  obtain ⟨u,h1,h2⟩:=hc j hj
  exact ⟨u,(hb.cell (World.block_lt_of_cell? w _ h1)).trans h1,h2.ext hb⟩⟩
theorem validB_var {n l:Int} (h0:0≤n) (h1:n≤128):L.validB n l = (decide (varF l≠0) && decide (varF l≤n)):=by
 unfold L.validB varF
 by_cases a:1≤l∧l≤128
 ·rw [if_pos a];rw [Bool.eq_iff_iff];simp only [Bool.and_eq_true,decide_eq_true_eq];omega
 ·rw [if_neg a]
  by_cases b:l≤-1∧-128≤l
  ·rw [if_pos b];rw [Bool.eq_iff_iff];simp only [Bool.and_eq_true,decide_eq_true_eq];omega
  ·rw [if_neg b];rw [Bool.eq_iff_iff];simp only [Bool.and_eq_true,decide_eq_true_eq];omega
set_option maxRecDepth 100000 in
set_option maxHeartbeats 1000000 in
theorem valid_any {n l:Int} (h0:0≤n) (h1:n≤128) (w:World):Calls Tryz.prog 148 #[.int .i64 l,.int .i64 n] w fun e w'=>e = .returned (.bool (L.validB n l))∧w = w':=by
 rw [validB_var h0 h1]
 have q:=fun W=>var_any l W
 by_cases a:varF l = 0
 ·have e:((varF l == 0:Bool)) = true:=by rw [beq_iff_eq];exact a
  have e2:decide (varF l≠0) = false:=decide_eq_false (by omega)
  rw [e2]
  have q1:=q w
  rw [a] at q1
  clear a e e2 q
  go_enter Tryz.func148,Tryz.ntmps148
  go_wp2_with fail
  refine q1.mono ?_
  rintro e w2 ⟨rfl,rfl⟩
  go_wp2_with fail
  go_ret
  exact ⟨rfl,rfl⟩
 ·have e2:decide (varF l≠0) = true:=decide_eq_true a
  rw [e2]
  generalize varF l = x at *
  have q1:=q w
  have d:(x == 0) = false:=by rw [beq_eq_false_iff_ne];exact a
  clear e2
  replace a:=Lib.hid a
  go_enter Tryz.func148,Tryz.ntmps148
  go_wp2_with fail
  refine q1.mono ?_
  rintro e w2 ⟨rfl,rfl⟩
  go_wp2_with fail
  refine q1.mono ?_
  rintro e w3 ⟨rfl,rfl⟩
  go_wp2_with fail
  go_ret
  exact ⟨by have:=a.out;simp [this],rfl⟩
theorem scan_bad {n:Int}:∀ {T:List (List Int)} {k:Nat} (hk:k < T.length) {c:Int},(∀ j (hj:j < k),L.clChk n (T[j]'(by omega)) = 0)→L.clChk n T[k] = c→c≠0→L.scanChk n T = c
 | d :: T,0,hk,c,_,hb,hc=>by rw [L.scanChk,if_neg (by rw [show (d :: T)[0] = d from rfl] at hb;rw [hb];exact hc)];exact hb
 | d :: T,k+1,hk,c,h,hb,hc=>by
   rw [L.scanChk,if_pos (show L.clChk n d = 0 from h 0 (by omega))]
   exact scan_bad (T:=T) (k:=k) (by simpa using hk) (fun j hj=>h (j+1) (by omega)) hb hc
theorem scan_good {n:Int} {T:List (List Int)} (h:∀ j (hj:j < T.length),L.clChk n T[j] = 0):L.scanChk n T = 0 :=
 L.scanChk_ok.2 fun c hc=>by
  obtain ⟨j,hj,rfl⟩:=List.getElem_of_mem hc
  exact L.clChk_ok.1 (h j hj)
theorem th_scan {n:Int} {T:List (List Int)} (h0:0≤n) (h1:n≤128) (h2:T.length≤4096):L.thChk n T = L.scanChk n T:=by
 unfold L.thChk
 rw [if_neg (by omega),if_neg (by omega)]
theorem cl_long {n:Int} {c:List Int} (h:128 < c.length):L.clChk n c = 2:=by unfold L.clChk;rw [if_pos h]
theorem cl_bad {n:Int} {c:List Int} (h:c.length≤128) {m:Nat} (hm:m < c.length) (hb:L.validB n c[m] = false):L.clChk n c = 1:=by
 unfold L.clChk
 rw [if_neg (by omega),if_neg (fun e=>by have:=List.all_eq_true.1 e _ (List.getElem_mem hm);rw [hb] at this;cases this)]
theorem cl_good {n:Int} {c:List Int} (h:c.length≤128) (hm:∀ m (hm:m < c.length),L.validB n c[m] = true):L.clChk n c = 0 :=
 L.clChk_ok.2 ⟨h,fun l hl=>by obtain ⟨j,hj,rfl⟩:=List.getElem_of_mem hl;exact hm j hj⟩
set_option maxRecDepth 100000 in
set_option maxHeartbeats 4000000 in
theorem thCheck_any {n:Int} {T:List (List Int)} {v:Value} {w:World} (hv:SlT w v T) :
  Calls Tryz.prog 78 #[.agg #[.int .i64 n,v]] w fun e w'=>e = .returned (.int .i64 (L.thChk n T))∧Ext w w':=by
 obtain ⟨ba,cp,rfl,hv⟩:=hv
 have hx1:Ext w (w.alloc (.cells #[.int .i64 n,.slice ba T.length cp] 24)):=(Ext.refl w).alloc _
 have hn1:=heap_alloc_new w (.cells #[.int .i64 n,.slice ba T.length cp] 24)
 obtain ⟨w1,hw1⟩:∃ w1,w1 = w.alloc (.cells #[.int .i64 n,.slice ba T.length cp] 24):=⟨_,rfl⟩
 rw [←hw1] at hx1 hn1
 have c0:w1.cell? ⟨w.heap.size,0,none⟩ = some (.int .i64 n):=by simp [World.cell?,hn1]
 have c1:w1.cell? ⟨w.heap.size,1,none⟩ = some (.slice ba T.length cp):=by simp [World.cell?,hn1]
 have hcs:∀ j (hj:j < T.length),∃ b o u,ba = some ⟨b,o,none⟩∧w1.cell? ⟨b,o+j,none⟩ = some u∧SlI w1 u T[j]:=fun j hj=>by
  rcases hv with ⟨_,rfl,_⟩ | ⟨b,o,rfl,h⟩
  ·simp at hj
  ·obtain ⟨u,h1,h2⟩:=h j hj
   exact ⟨b,o,u,rfl,hx1.cell h1,h2.ext hx1.below⟩
 replace hcs:=Lib.hid hcs
 clear hv hn1
 replace hx1:=Lib.hid hx1
 by_cases hn0:n < 0
 ·have d0:decide (n < 0) = true:=decide_eq_true hn0
  have hr:L.thChk n T = 6:=by unfold L.thChk;rw [if_pos (.inl hn0)]
  rw [hr]
  clear hr hn0
  go_enter Tryz.func78,Tryz.ntmps78
  go_wp2_with fail
  rw [←hw1]
  replace hw1:=Lib.hid hw1
  go_wp2_with fail
  go_ret
  exact ⟨rfl,hx1.out⟩
 have d0:decide (n < 0) = false:=decide_eq_false hn0
 by_cases hn1:n > 128
 ·have d1:decide (n > 128) = true:=decide_eq_true hn1
  have hr:L.thChk n T = 6:=by unfold L.thChk;rw [if_pos (.inr hn1)]
  rw [hr]
  clear hr hn0 hn1
  go_enter Tryz.func78,Tryz.ntmps78
  go_wp2_with fail
  rw [←hw1]
  replace hw1:=Lib.hid hw1
  go_wp2_with fail
  go_ret
  exact ⟨rfl,hx1.out⟩
 have d1:decide (n > 128) = false:=decide_eq_false hn1
 by_cases hl:(T.length:Int) > 4096
 ·have d2:decide ((T.length:Int) > 4096) = true:=decide_eq_true hl
  have hr:L.thChk n T = 2:=by unfold L.thChk;rw [if_neg (by omega),if_pos (by omega)]
  rw [hr]
  clear hr hn0 hn1 hl
  go_enter Tryz.func78,Tryz.ntmps78
  go_wp2_with fail
  rw [←hw1]
  replace hw1:=Lib.hid hw1
  go_wp2_with fail
  go_ret
  exact ⟨rfl,hx1.out⟩
 have d2:decide ((T.length:Int) > 4096) = false:=decide_eq_false hl
 rw [th_scan (by omega) (by omega) (by omega)]
 have qv:=fun l W=>valid_any (n:=n) (l:=l) (by omega) (by omega) W
 replace qv:=Lib.hid qv
 go_enter Tryz.func78,Tryz.ntmps78
 go_wp2_with fail
 rw [←hw1]
 replace hw1:=Lib.hid hw1
 go_wp2_with fail
 clear d0 d1 d2
 go_loopw [22] (fun i wr=>wr = w1∧∃ k:Nat,k≤T.length∧i = .int .i64 k∧∀ j (hj:j < k) (hj2:j < T.length),L.clChk n T[j] = 0) (fun i _=>T.length - (intOf i).toNat)
 case atStart=>exact ⟨rfl,0,Nat.zero_le _,rfl,fun j hj=>by omega⟩
 case round =>
  obtain ⟨rfl,k,hk,rfl,hgood⟩:=hrel
  replace hgood:=Lib.hid hgood
  by_cases hlt:k < T.length
  ·obtain ⟨b,o,u,rfl,f1,f2⟩:=hcs.out k hlt
   obtain ⟨bb,cc,rfl,f2⟩:=f2
   have hbad:=fun c=>scan_bad (n:=n) (T:=T) hlt (c:=c) fun j hj=>hgood.out j hj (by omega)
   have hgood2:=hgood.out
   clear hcs c1 hw1 hgood
   generalize hcT:T[k] = c at *
   have f3:∀ j (hj:j < c.length),∃ b o,bb = some ⟨b,o,none⟩∧wr.cell? ⟨b,o+j,none⟩ = some (.int .i64 c[j]):=fun j hj=>by
    rcases f2 with ⟨_,rfl,_⟩ | ⟨b,o,h1,h2⟩
    ·simp at hj
    ·exact ⟨b,o,h1,h2 j hj⟩
   replace f3:=Lib.hid f3
   clear f2
   replace hgood2:=Lib.hid hgood2
   replace hbad:=Lib.hid hbad
   replace hcT:=Lib.hid hcT
   by_cases hlen:(c.length:Int) > 128
   ·have d3:decide ((c.length:Int) > 128) = true:=decide_eq_true hlen
    have hr:=hbad.out 2 (cl_long (by omega)) (by decide)
    replace hr:=Lib.hid hr
    clear hlen
    go_wp2_with fail
    go_ret
    exact ⟨by rw [hr.out] <;> rfl,hx1.out⟩
   have d3:decide ((c.length:Int) > 128) = false:=decide_eq_false hlen
   go_wp2_with fail
   go_loopw [31] (fun i w'=>w' = wr∧∃ m:Nat,m≤c.length∧i = .int .i64 m∧∀ j (hj:j < m) (hj2:j < c.length),L.validB n c[j] = true) (fun i _=>c.length - (intOf i).toNat)
   case atStart=>exact ⟨rfl,0,Nat.zero_le _,rfl,fun j hj=>by omega⟩
   case round =>
    obtain ⟨rfl,m,hm,rfl,hv⟩:=hrel
    replace hv:=Lib.hid hv
    by_cases hlt2:m < c.length
    ·obtain ⟨b2,o2,rfl,f4⟩:=f3.out m hlt2
     have q:=qv.out c[m] wr
     cases hvb:L.validB n c[m]
     ·have hr:=hbad.out 1 (cl_bad (by omega) hlt2 hvb) (by decide)
      rw [hvb] at q
      replace hr:=Lib.hid hr
      replace hvb:=Lib.hid hvb
      generalize c[m] = x at *
      go_wp2_with fail
      refine q.mono ?_
      rintro e w2 ⟨rfl,rfl⟩
      go_wp2_with fail
      go_ret
      exact ⟨by rw [hr.out] <;> rfl,hx1.out⟩
     ·rw [hvb] at q
      replace hvb:=Lib.hid hvb
      have hv':∀ j (hj:j < m+1) (hj2:j < c.length),L.validB n c[j] = true:=fun j hj hj2=>by
       by_cases e:j = m
       ·subst e;exact hvb.out
       ·exact hv.out j (by omega) hj2
      replace hv':=Lib.hid hv'
      clear hvb
      generalize c[m] = x at *
      go_wp2_with fail
      refine q.mono ?_
      rintro e w2 ⟨rfl,rfl⟩
      go_wp2_with fail
      go_roundw
      case rel=>exact ⟨trivial,m+1,by omega,by go_num,hv'.out⟩
      case measure=>simp [intOf];omega
    ·obtain rfl:m = c.length:=by omega
     have hc0:L.clChk n c = 0:=cl_good (by omega) fun j hj=>hv.out j hj hj
     replace hc0:=Lib.hid hc0
     clear hv
     go_wp2_with fail
     go_roundw
     case rel =>
      refine ⟨trivial,k+1,by omega,by go_num,fun j hj hj2=>?_⟩
      by_cases e:j = k
      ·subst e;rw [hcT.out];exact hc0.out
      ·exact hgood2.out j (by omega) hj2
     case measure=>simp [intOf];omega
  ·obtain rfl:k = T.length:=by omega
   have hr:L.scanChk n T = 0:=scan_good fun j hj=>hgood.out j hj hj
   replace hr:=Lib.hid hr
   go_wp2_with fail
   go_ret
   exact ⟨by rw [hr.out] <;> rfl,hx1.out⟩
end Go.Proofs.YtmnjakejhbpkoaaGreatDoor
end
