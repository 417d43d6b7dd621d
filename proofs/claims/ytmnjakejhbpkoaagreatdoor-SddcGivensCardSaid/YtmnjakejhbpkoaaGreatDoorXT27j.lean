import Derived.Test.YtmnjakejhbpkoaaGreatDoorXT27h
import Derived.Test.YtmnjakejhbpkoaaGreatDoorXJoin
import Derived.Test.YtmnjakejhbpkoaaGreatDoorXSem
section
set_option linter.unusedSimpArgs false
set_option linter.unusedVariables false
namespace Go.Proofs.YtmnjakejhbpkoaaGreatDoor
open Go Go.RowKit Go.Shelf
theorem BoolsAt.stays {w w':World} {b n:Nat} {f:Nat→Bool} (h:BoolsAt w b 4 n f) (hS:Stays w w'):BoolsAt w' b 4 n f:=by
 obtain ⟨c,h1,h2⟩:=h
 exact ⟨c,hS.get h1 (by decide) (by decide),h2⟩
theorem FnAt.stays {w w':World} {v vl o:Value} {l:List Int} {φ:L.Asg→Bool} {base:Nat} (h:FnAt w v l φ) (hv:v = .agg #[vl,o]) (hrow:w.ownsRow base 3 1 vl l.length (l.map encZ)) (hS:Stays w w'):FnAt w' v l φ:=by
 obtain ⟨vl',g,c,h1,h2,h3⟩:=h
 rw [h1] at hv
 simp only [Value.agg.injEq,Array.mk.injEq,List.cons.injEq,and_true] at hv
 obtain ⟨rfl,_⟩:=hv
 exact ⟨vl',g,c,h1,owns_slI (own_stays hrow hS),h3.stays hS⟩
set_option maxRecDepth 100000 in
set_option maxHeartbeats 8000000 in
theorem stands_any {t:List VN} {sb kk:Nat} {X:List Nat} {s:St} {w0 w:World} (hL:SL t sb kk X s w0 w) {a:Nat} {φ:L.Asg→Bool} (ha:Val s a φ) {vf:Value} {l:List Int} (hf:FnAt w vf l φ) (hnd:l.Nodup) (hr:∀ v∈l,1≤v∧v≤128) (hl:l.length≤12) :
  Calls Tryz.prog 29 #[.pointer (some ⟨sb,0,none⟩),.int .i64 (a:Nat),vf] w fun e w'=>e = .returned (.bool true)∧Below w.heap.size w w':=by
 obtain ⟨vl,g0,c0,rfl,hvl,hb0⟩:=hf
 have hg0:=hb0.lt
 have hN:=pow_le4096 hl
 have e0:=heap_alloc_new w (.cells #[vl,.slice (some ⟨g0,0,none⟩) (2 ^ l.length) c0] 48)
 have hx1:Ext w (w.alloc (.cells #[vl,.slice (some ⟨g0,0,none⟩) (2 ^ l.length) c0] 48)):=(Ext.refl w).alloc _
 obtain ⟨w1,hw1⟩:∃ w1,w1 = w.alloc (.cells #[vl,.slice (some ⟨g0,0,none⟩) (2 ^ l.length) c0] 48):=⟨_,rfl⟩
 rw [←hw1] at e0 hx1
 have hvl1:=hvl.ext hx1.below
 have qs:=fun k (hk:k < 2 ^ l.length) (W:World) (h:Below w.heap.size w W)=>fnSet_any (vo:=.slice (some ⟨g0,0,none⟩) (2 ^ l.length) c0) (hvl.ext h) hr hl rfl k (Nat.lt_of_lt_of_le hk hN)
 have qe:=fun k (W:World) (h:Below w.heap.size w W)=>(hL.below h).eval ha (L.setK l k l.length)
 simp only [L.asg_setK hnd hr] at qe
 have hc0:∀ (W:World) (j:Nat),Below w.heap.size w W→j < 2 ^ l.length→W.cell? ⟨g0,j,none⟩ = some (.bool (φ (L.nth l j))):=fun W j h hj=>((hb0.same (h.block _ hg0)).cell hj).1
 generalize hNN:2 ^ l.length = N at *
 have hvc:∃ ba cp,vl = .slice ba l.length cp:=by obtain ⟨ba,cp,h,_⟩:=hvl;exact ⟨ba,cp,h⟩
 clear hvl hnd hr hb0 hvl1 hL ha
 obtain ⟨ba,cp,rfl⟩:=hvc
 obtain ⟨f,hh⟩:∃ f:Nat→Bool,∀ k,φ (L.nth l k) = f k:=⟨_,fun _=>rfl⟩
 simp only [hh] at qe hc0
 have hS:∀ j V,j < N→Below w1.heap.size w1 V→(V.cell? ⟨w.heap.size,0,none⟩ = some (.slice ba l.length cp)∧V.cell? ⟨w.heap.size,1,none⟩ = some (.slice (some ⟨g0,0,none⟩) N c0))∧V.cell? ⟨g0,j,none⟩ = some (.bool (f j)):=fun j V hj h=>by
  have f0:=(h.block w.heap.size (Array.getElem?_eq_some_iff.1 e0).1).trans e0
  exact ⟨⟨by rw [World.cell?,f0];rfl,by rw [World.cell?,f0];rfl⟩,hc0 V j (hx1.below.trans (h.mono hx1.size)) hj⟩
 replace hh:=Lib.hid hh
 replace hNN:=Lib.hid hNN
 replace qs:=Lib.hid qs
 replace qe:=Lib.hid qe
 replace hc0:=Lib.hid hc0
 replace hS:=Lib.hid hS
 have c1:w1.cell? ⟨w.heap.size,1,none⟩ = some (.slice (some ⟨g0,0,none⟩) N c0):=by rw [World.cell?,e0];rfl
 replace e0:=Lib.hid e0
 go_enter Tryz.func29,Tryz.ntmps29
 go_wp2_with fail
 rw [←hw1]
 replace hw1:=Lib.hid hw1
 go_wp2_with fail
 go_loopw [11] (fun i wr=>∃ k:Nat,k≤N∧i = .int .i64 (k:Int)∧Hid (Below w1.heap.size w1 wr)) (fun i _=>N - (intOf i).toNat)
 case atStart=>exact ⟨0,by omega,rfl,Lib.hid (Below.refl _ _)⟩
 case round =>
  obtain ⟨k,hk,rfl,hI⟩:=hrel
  by_cases hlt:k < N
  ·have d0:decide ((k:Int) < (N:Int)) = true:=decide_eq_true (by omega)
   have g0':(0:Int)≤(k:Int):=by omega
   have g1:(k:Int) < (N:Int):=by omega
   have hwb:∀ V,Below w1.heap.size w1 V→Below w.heap.size w V:=fun V h=>hx1.below.trans (h.mono hx1.size)
   replace hwb:=Lib.hid hwb
   have hd:=Lib.hid (hI.out.trans ((Below.refl w1.heap.size wr).drew))
   obtain ⟨⟨r0,r1⟩,r2⟩:=hS.out k wr hlt hI.out
   go_wp2_with fail
   (refine wp_region_held_drew (S:=(fun V=>(V.cell? ⟨w.heap.size,0,none⟩ = some (.slice ba l.length cp)∧V.cell? ⟨w.heap.size,1,none⟩ = some (.slice (some ⟨g0,0,none⟩) N c0))∧V.cell? ⟨g0,k,none⟩ = some (.bool (f k)))) (by kernel_rfl) ?_ (fun hHeld=>?_))
   ·exact hS.out k _ hlt hd.out
   (refine takeL (i:=0) (v:=?_) rfl (by kernel_rfl) (by kernel_rfl) (by kernel_rfl) (fun _ _ _ h=>h) (Or.inl ⟨by rfl,?_⟩) (by assumption) ?_)
   rotate_left
   ·(intro w hSw;(try dsimp only at hSw);go_simp;first | done | with_reducible rfl)
   (try simp only [Act.put,List.setIfInBounds_toArray,List.set_cons_zero,List.set_cons_succ])
   (refine takeL (i:=1) (v:=?_) rfl (by kernel_rfl) (by kernel_rfl) (by kernel_rfl) (fun _ _ _ h=>h) (Or.inl ⟨by rfl,?_⟩) (by assumption) ?_)
   rotate_left
   ·(intro w hSw;(try dsimp only at hSw);go_simp;first | done | with_reducible rfl)
   (try simp only [Act.put,List.setIfInBounds_toArray,List.set_cons_zero,List.set_cons_succ])
   (refine takeL (i:=2) (v:=?_) rfl (by kernel_rfl) (by kernel_rfl) (by kernel_rfl) (fun _ _ _ h=>h) (Or.inl ⟨by rfl,?_⟩) (by assumption) ?_)
   rotate_left
   ·(intro w hSw;(try dsimp only at hSw);go_simp;first | done | with_reducible rfl)
   (try simp only [Act.put,List.setIfInBounds_toArray,List.set_cons_zero,List.set_cons_succ])
   (refine takeL (i:=3) (v:=?_) rfl (by kernel_rfl) (by kernel_rfl) (by kernel_rfl) (fun _ _ _ h=>h) (Or.inl ⟨by rfl,?_⟩) (by assumption) ?_)
   rotate_left
   ·(intro w hSw;(try dsimp only at hSw);go_simp;first | done | with_reducible rfl)
   (try simp only [Act.put,List.setIfInBounds_toArray,List.set_cons_zero,List.set_cons_succ])
   (refine takeL (i:=6) (v:=?_) rfl (by kernel_rfl) (by kernel_rfl) (by kernel_rfl) (fun _ _ _ h=>h) (Or.inl ⟨by rfl,?_⟩) (by assumption) ?_)
   rotate_left
   ·(intro w hSw;(try dsimp only at hSw);go_simp;first | done | with_reducible rfl)
   (try simp only [Act.put,List.setIfInBounds_toArray,List.set_cons_zero,List.set_cons_succ])
   (refine takeL (i:=7) (v:=?_) rfl (by kernel_rfl) (by kernel_rfl) (by kernel_rfl) (fun _ _ _ h=>h) (Or.inl ⟨by rfl,?_⟩) (by assumption) ?_)
   rotate_left
   ·(intro w hSw;(try dsimp only at hSw);go_simp;first | done | with_reducible rfl)
   (try simp only [Act.put,List.setIfInBounds_toArray,List.set_cons_zero,List.set_cons_succ])
   (refine takeL (i:=8) (v:=?_) rfl (by kernel_rfl) (by kernel_rfl) (by kernel_rfl) (fun _ _ _ h=>h) (Or.inl ⟨by rfl,?_⟩) (by assumption) ?_)
   rotate_left
   ·(intro w hSw;(try dsimp only at hSw);go_simp;first | done | with_reducible rfl)
   (try simp only [Act.put,List.setIfInBounds_toArray,List.set_cons_zero,List.set_cons_succ])
   (refine takeL (i:=9) (v:=?_) rfl (by kernel_rfl) (by kernel_rfl) (by kernel_rfl) (fun _ _ _ h=>h) (Or.inl ⟨by rfl,?_⟩) (by assumption) ?_)
   rotate_left
   ·(intro w hSw;(try dsimp only at hSw);go_simp;first | done | with_reducible rfl)
   (try simp only [Act.put,List.setIfInBounds_toArray,List.set_cons_zero,List.set_cons_succ])
   (refine takeL (i:=10) (v:=?_) rfl (by kernel_rfl) (by kernel_rfl) (by kernel_rfl) (fun _ _ _ h=>h) (Or.inl ⟨by rfl,?_⟩) (by assumption) ?_)
   rotate_left
   ·(intro w hSw;(try dsimp only at hSw);go_simp;first | done | with_reducible rfl)
   (try simp only [Act.put,List.setIfInBounds_toArray,List.set_cons_zero,List.set_cons_succ])
   (refine wpAnyH_ready (rs:=[4]) (by kernel_rfl) (by simp) ?_)
   (refine consL rfl (fun K hK=>?_))
   ((rw [if_pos (by rfl)]);go_simp;refine (qs.out k hlt _ (hwb.out _ hd.out)).mono ?_;rintro e w3 ⟨rfl,hb3⟩;have hd3:=Lib.hid (hd.out.trans (hb3.mono hd.out.size));refine hK.out _ _ (hS.out k _ hlt hd3.out) (fun hHeld=>?_);clear hb3)
   (clear hK K)
   (try simp only [Act.put,List.setIfInBounds_toArray,List.set_cons_zero,List.set_cons_succ])
   (refine wpAnyH_ready (rs:=[5]) (by kernel_rfl) (by simp) ?_)
   (refine consL rfl (fun K hK=>?_))
   ((rw [if_pos (by rfl)]);go_simp;refine (qe.out k _ (hwb.out _ hd3.out)).mono ?_;rintro e w4 ⟨rfl,hb4⟩;have hd4:=Lib.hid (hd3.out.trans (hb4.below.mono hd3.out.size));refine hK.out _ _ (hS.out k _ hlt hd4.out) (fun hHeld=>?_);clear hb4)
   (clear hK K)
   (try simp only [Act.put,List.setIfInBounds_toArray,List.set_cons_zero,List.set_cons_succ])
   (refine takeL (i:=11) (v:=?_) rfl (by kernel_rfl) (by kernel_rfl) (by kernel_rfl) (fun _ _ _ h=>h) (Or.inl ⟨by rfl,?_⟩) (by assumption) ?_)
   rotate_left
   ·(intro w hSw;(try dsimp only at hSw);go_simp;first | done | with_reducible rfl)
   (try simp only [Act.put,List.setIfInBounds_toArray,List.set_cons_zero,List.set_cons_succ])
   (refine wpAnyH_done (by kernel_rfl) ?_ _)
   clear hHeld
   have hne:(f k != f k) = false:=by simp
   go_wp2_with fail
   go_roundw
   case rel=>exact ⟨k+1,by omega,by go_num,hd4⟩
   case measure=>simp [intOf];omega
  ·obtain rfl:k = N:=by omega
   have d0:decide ((k:Int) < (k:Int)) = false:=decide_eq_false (by omega)
   go_wp2_with fail
   go_ret
   exact ⟨rfl,hx1.below.trans (hI.out.mono hx1.size)⟩
end Go.Proofs.YtmnjakejhbpkoaaGreatDoor
end
section
set_option linter.unusedSimpArgs false
set_option linter.unusedVariables false
namespace Go.Proofs.YtmnjakejhbpkoaaGreatDoor
open Go Go.RowKit Go.Shelf
theorem leaf_none {t:List VN} {v:Nat} (h:¬ ∃ (u:Nat) (y:VN),t[u]? = some y∧y.left < 0∧y.var = (v:Int)):leafAt t v = none:=by
 unfold leafAt
 rw [List.findIdx?_eq_none_iff]
 intro x hx
 obtain ⟨u,hu,rfl⟩:=List.getElem_of_mem hx
 cases hb:(decide (t[u].left < 0) && decide (t[u].var = (v:Int)))
 ·rfl
 ·simp only [Bool.and_eq_true,decide_eq_true_eq] at hb
  exact absurd ⟨u,_,List.getElem?_eq_getElem hu,hb.1,hb.2⟩ h
theorem litbad_v {t:List VN} {B0:Blks} {w0 w:World} {k:Nat} {s:St} {l:Int} (h:SS t B0 w0 k s w) (hl:¬ VarOf t (l.natAbs:Int)) :
  Calls Tryz.prog 101 #[.pointer (some ⟨B0.sb,0,none⟩),.int .i64 l] w fun e w'=>e = .returned (.tuple #[.int .i64 0,.int .i64 1])∧Below w.heap.size w w':=by
 obtain ⟨B,hR,hS⟩:=h.held
 rw [←hS.sb]
 have hv0:0≤varF l:=by unfold varF;split <;> (try split) <;> omega
 obtain ⟨v,hv⟩:∃ v:Nat,varF l = v:=⟨(varF l).toNat,by omega⟩
 have hno:leafAt s.tree v = none:=leaf_none fun ⟨u,y,h1,h2,h3⟩=>by
  rw [h.tree] at h1
  have hul:=(List.getElem?_eq_some_iff.1 h1).1
  have hlf:leafB y = true:=by
   cases hb:leafB y
   ·obtain ⟨l',r',e1,_⟩:=L.inner_ok h.chk h1 hb
    omega
   ·rfl
  have hr:1≤y.var∧y.var≤128:=by
   simp only [leafB,Bool.and_eq_true,decide_eq_true_eq] at hlf
   exact hlf.2
  refine hl ⟨u,y,h1,hlf,?_⟩
  rw [h3,←hv]
  have:varF l≠0:=by omega
  unfold varF at this ⊢
  split <;> rename_i c1
  ·omega
  ·rw [if_neg c1] at this
   split <;> rename_i c2
   ·omega
   ·rw [if_neg c2] at this;exact absurd rfl this
 have:=lit_bad hR h.ne hv hno
 refine this.mono ?_
 rintro e w' ⟨rfl,hx⟩
 exact ⟨rfl,hx.below⟩
end Go.Proofs.YtmnjakejhbpkoaaGreatDoor
end
section
set_option linter.unusedSimpArgs false
set_option linter.unusedVariables false
namespace Go.Proofs.YtmnjakejhbpkoaaGreatDoor
open Go Go.RowKit Go.Shelf
set_option maxRecDepth 100000 in
set_option maxHeartbeats 4000000 in
theorem given_bad {t:List VN} {sb k:Nat} {X:List Nat} {s:St} {w0 w:World} (h:SL t sb k X s w0 w) {a:Nat} {φ:L.Asg→Bool} (ha:Val s a φ) {l:Int} (hl:¬ VarOf t (l.natAbs:Int)) :
  Calls Tryz.prog 34 #[.pointer (some ⟨sb,0,none⟩),.int .i64 (a:Nat),.int .i64 l] w fun e w'=>e = .returned (.tuple #[.int .i64 0,.int .i64 1])∧Below w.heap.size w w':=by
 have q1:=look_any h ha.lt
 replace hl:=Lib.hid hl
 go_enter Tryz.func34,Tryz.ntmps34
 go_wp2_with fail
 refine q1.mono ?_
 rintro e w2 ⟨xv,gt,ct,gb,pc,pn,f,rfl,hS2,hV2,_,hm2,⟨n1,n2,n3⟩,hy,hb2⟩
 obtain ⟨B,hBs,_,_,_,hSS⟩:=hS2.ss
 have q2:=litbad_v hSS hl.out
 rw [hBs] at q2
 have hz:=hb2.size
 clear q1 hS2 hV2 hm2 hy n1 n2 n3 hSS hBs
 go_wp2_with fail
 refine q2.mono ?_
 rintro e w3 ⟨rfl,hb3⟩
 clear q2
 go_wp2_with fail
 go_ret2
 exact ⟨rfl,hb2.trans (hb3.mono hz)⟩
set_option maxRecDepth 100000 in
set_option maxHeartbeats 4000000 in
theorem exists_bad {t:List VN} {sb k:Nat} {X:List Nat} {s:St} {w0 w:World} (h:SL t sb k X s w0 w) {a:Nat} {φ:L.Asg→Bool} (ha:Val s a φ) {v:Int} (hl:¬ VarOf t v) :
  Calls Tryz.prog 35 #[.pointer (some ⟨sb,0,none⟩),.int .i64 (a:Nat),.int .i64 v] w fun e w'=>e = .returned (.tuple #[.int .i64 0,.int .i64 1])∧Below w.heap.size w w':=by
 have q1:=look_any h ha.lt
 by_cases hv:v < 1
 ·have dv:decide (v < 1) = true:=decide_eq_true hv
  replace hl:=Lib.hid hl
  go_enter Tryz.func35,Tryz.ntmps35
  go_wp2_with fail
  refine q1.mono ?_
  rintro e w2 ⟨xv,gt,ct,gb,pc,pn,f,rfl,hS2,_,_,_,_,_,hb2⟩
  clear q1 hS2
  go_wp2_with fail
  go_ret2
  exact ⟨rfl,hb2⟩
 ·have dv:decide (v < 1) = false:=decide_eq_false hv
  have e1:(v.natAbs:Int) = v:=by omega
  replace e1:=Lib.hid e1
  replace hl:=Lib.hid hl
  go_enter Tryz.func35,Tryz.ntmps35
  go_wp2_with fail
  refine q1.mono ?_
  rintro e w2 ⟨xv,gt,ct,gb,pc,pn,f,rfl,hS2,_,_,_,_,_,hb2⟩
  have q2:=given_bad (l:=v) hS2 ha (by rw [e1.out];exact hl.out)
  have hz:=hb2.size
  clear q1 hS2
  go_wp2_with fail
  refine q2.mono ?_
  rintro e w3 ⟨rfl,hb3⟩
  clear q2
  go_wp2_with fail
  go_ret2
  exact ⟨rfl,hb2.trans (hb3.mono hz)⟩
set_option maxRecDepth 100000 in
set_option maxHeartbeats 4000000 in
theorem in_any {w:World} {fb:Nat} {vl:Value} {l:List Int} (hv:SlI w vl l) (hc:w.cell? ⟨fb,0,none⟩ = some vl) (hl:l.length≤12) (x:Int) :
  Calls Tryz.prog 36 #[.int .i64 x,.pointer (some ⟨fb,0,none⟩)] w fun e w'=>e = .returned (.bool (decide (x∈l)))∧Ext w w':=by
 obtain ⟨ba,cp,rfl,hv0⟩:=hv
 have hcs:∀ j (hj:j < l.length),∃ b o,ba = some ⟨b,o,none⟩∧w.cell? ⟨b,o+j,none⟩ = some (.int .i64 l[j]):=fun j hj=>by
  rcases hv0 with ⟨_,h2,_⟩ | ⟨b,o,rfl,h2⟩
  ·rw [h2] at hj;simp at hj
  ·exact ⟨b,o,rfl,h2 j hj⟩
 clear hv0
 replace hcs:=Lib.hid hcs
 go_enter Tryz.func36,Tryz.ntmps36
 go_wp2_with fail
 go_loopw [9] (fun i wr=>∃ k:Nat,k≤l.length∧i = .int .i64 (k:Int)∧wr = w∧Hid (x∉l.take k)) (fun i _=>l.length - (intOf i).toNat)
 case atStart=>exact ⟨0,by omega,rfl,rfl,Lib.hid (by simp)⟩
 case round =>
  obtain ⟨k,hk,rfl,rfl,hI⟩:=hrel
  by_cases hlt:k < l.length
  ·have d0:decide ((k:Int) < (l.length:Int)) = true:=decide_eq_true (by omega)
   have g0':(0:Int)≤(k:Int):=by omega
   have g1:(k:Int) < (l.length:Int):=by omega
   obtain ⟨b,o,rfl,hcell⟩:=hcs.out k hlt
   have hm:x∈l.take (k+1)↔x∈l.take k∨x = l[k]:=by
    rw [List.take_add_one,List.getElem?_eq_getElem hlt,List.mem_append];simp only [Option.toList_some,List.mem_singleton]
   have hm2:l[k]∈l:=List.getElem_mem hlt
   generalize l[k] = u at *
   replace hm:=Lib.hid hm
   replace hm2:=Lib.hid hm2
   by_cases hux:u = x
   ·have hin:decide (x∈l) = true:=decide_eq_true (by rw [←hux];exact hm2.out)
    have deq:decide (u = x) = true:=decide_eq_true hux
    have deq':(u == x) = true:=by simpa using hux
    replace hux:=Lib.hid hux
    replace hin:=Lib.hid hin
    go_wp2_with fail
    go_ret
    exact ⟨by rw [hin.out];rfl,Ext.refl _⟩
   ·have hin:Hid (x∉l.take (k+1)):=Lib.hid fun h=>(hm.out.1 h).elim hI.out fun h=>hux h.symm
    have deq:decide (u = x) = false:=decide_eq_false hux
    have deq':(u == x) = false:=by simpa using hux
    replace hux:=Lib.hid hux
    go_wp2_with fail
    go_roundw
    case rel=>exact ⟨k+1,by omega,by go_num,by first | rfl | trivial,hin⟩
    case measure=>simp [intOf];omega
  ·obtain rfl:k = l.length:=by omega
   have d0:decide ((l.length:Int) < (l.length:Int)) = false:=decide_eq_false (by omega)
   have hin:decide (x∈l) = false:=decide_eq_false (by simpa using hI.out)
   replace hin:=Lib.hid hin
   go_wp2_with fail
   go_ret
   exact ⟨by rw [hin.out];rfl,Ext.refl _⟩
end Go.Proofs.YtmnjakejhbpkoaaGreatDoor
end
