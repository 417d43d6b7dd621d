import Derived.Test.YtmnjakejhbpkoaaGreatDoorWT27f
import Derived.Test.YtmnjakejhbpkoaaGreatDoorWJoin
import Derived.Test.YtmnjakejhbpkoaaGreatDoorWTab2
import Derived.Test.YtmnjakejhbpkoaaGreatDoorWPro27
section
set_option linter.unusedSimpArgs false
set_option linter.unusedVariables false
namespace Go.Proofs.YtmnjakejhbpkoaaGreatDoor
open Go Go.RowKit Go.Shelf
theorem BoolsAt.stays {w w':World} {b n:Nat} {f:Nat→Bool} (h:BoolsAt w b 4 n f) (hS:Stays w w'):BoolsAt w' b 4 n f:=by
 obtain ⟨c,h1,h2⟩:=h
 exact ⟨c,hS.get h1 (by decide) (by decide),h2⟩
theorem FnAt.stays {w w':World} {v vl o:Value} {l:List Int} {φ:L.Asg→Bool} {base:Nat} (h:FnAt w v l φ) (hv:v = .agg #[vl,o]) (hrow:w.ownsRow base 3 1 vl l.length (l.map encZ)) (hS:Stays w w'):FnAt w' v l φ:=by
 obtain ⟨vl',g,c,h1,h2,h3⟩:=h
 rw [h1] at hv
 simp only [Value.agg.injEq,Array.mk.injEq,List.cons.injEq,and_true] at hv
 obtain ⟨rfl,_⟩:=hv
 exact ⟨vl',g,c,h1,owns_slI (own_stays hrow hS),h3.stays hS⟩
set_option maxRecDepth 100000 in
set_option maxHeartbeats 8000000 in
theorem stands_any {t:List VN} {sb kk:Nat} {X:List Nat} {s:St} {w0 w:World} (hL:SL t sb kk X s w0 w) {a:Nat} {φ:L.Asg→Bool} (ha:Val s a φ) {vf:Value} {l:List Int} (hf:FnAt w vf l φ) (hnd:l.Nodup) (hr:∀ v∈l,1≤v∧v≤128) (hl:l.length≤12) :
  Calls Tryz.prog 29 #[.pointer (some ⟨sb,0,none⟩),.int .i64 (a:Nat),vf] w fun e w'=>e = .returned (.bool true)∧Below w.heap.size w w':=by
 obtain ⟨vl,g0,c0,rfl,hvl,hb0⟩:=hf
 have hg0:=hb0.lt
 have hN:=pow_le4096 hl
 have e0:=heap_alloc_new w (.cells #[vl,.slice (some ⟨g0,0,none⟩) (2 ^ l.length) c0] 48)
 have hx1:Ext w (w.alloc (.cells #[vl,.slice (some ⟨g0,0,none⟩) (2 ^ l.length) c0] 48)):=(Ext.refl w).alloc _
 obtain ⟨w1,hw1⟩:∃ w1,w1 = w.alloc (.cells #[vl,.slice (some ⟨g0,0,none⟩) (2 ^ l.length) c0] 48):=⟨_,rfl⟩
 rw [←hw1] at e0 hx1
 have hvl1:=hvl.ext hx1.below
 have qs:=fun k (hk:k < 2 ^ l.length) (W:World) (h:Below w.heap.size w W)=>fnSet_any (vo:=.slice (some ⟨g0,0,none⟩) (2 ^ l.length) c0) (hvl.ext h) hr hl rfl k (Nat.lt_of_lt_of_le hk hN)
 have qe:=fun k (W:World) (h:Below w.heap.size w W)=>(hL.below h).eval ha (L.setK l k l.length)
 simp only [L.asg_setK hnd hr] at qe
 have hc0:∀ (W:World) (j:Nat),Below w.heap.size w W→j < 2 ^ l.length→W.cell? ⟨g0,j,none⟩ = some (.bool (φ (L.nth l j))):=fun W j h hj=>((hb0.same (h.block _ hg0)).cell hj).1
 generalize hNN:2 ^ l.length = N at *
 have hvc:∃ ba cp,vl = .slice ba l.length cp:=by obtain ⟨ba,cp,h,_⟩:=hvl;exact ⟨ba,cp,h⟩
 clear hvl hnd hr hb0 hvl1 hL ha
 obtain ⟨ba,cp,rfl⟩:=hvc
 obtain ⟨f,hh⟩:∃ f:Nat→Bool,∀ k,φ (L.nth l k) = f k:=⟨_,fun _=>rfl⟩
 simp only [hh] at qe hc0
 have hS:∀ j V,j < N→Below w1.heap.size w1 V→(V.cell? ⟨w.heap.size,0,none⟩ = some (.slice ba l.length cp)∧V.cell? ⟨w.heap.size,1,none⟩ = some (.slice (some ⟨g0,0,none⟩) N c0))∧V.cell? ⟨g0,j,none⟩ = some (.bool (f j)):=fun j V hj h=>by
  have f0:=(h.block w.heap.size (Array.getElem?_eq_some_iff.1 e0).1).trans e0
  exact ⟨⟨by rw [World.cell?,f0];rfl,by rw [World.cell?,f0];rfl⟩,hc0 V j (hx1.below.trans (h.mono hx1.size)) hj⟩
 replace hh:=Lib.hid hh
 replace hNN:=Lib.hid hNN
 replace qs:=Lib.hid qs
 replace qe:=Lib.hid qe
 replace hc0:=Lib.hid hc0
 replace hS:=Lib.hid hS
 have c1:w1.cell? ⟨w.heap.size,1,none⟩ = some (.slice (some ⟨g0,0,none⟩) N c0):=by rw [World.cell?,e0];rfl
 replace e0:=Lib.hid e0
 go_enter Tryz.func29,Tryz.ntmps29
 go_wp2_with fail
 rw [←hw1]
 replace hw1:=Lib.hid hw1
 go_wp2_with fail
 go_loopw [11] (fun i wr=>∃ k:Nat,k≤N∧i = .int .i64 (k:Int)∧Hid (Below w1.heap.size w1 wr)) (fun i _=>N - (intOf i).toNat)
 case atStart=>exact ⟨0,by omega,rfl,Lib.hid (Below.refl _ _)⟩
 case round =>
  obtain ⟨k,hk,rfl,hI⟩:=hrel
  by_cases hlt:k < N
  ·have d0:decide ((k:Int) < (N:Int)) = true:=decide_eq_true (by omega)
   have g0':(0:Int)≤(k:Int):=by omega
   have g1:(k:Int) < (N:Int):=by omega
   have hwb:∀ V,Below w1.heap.size w1 V→Below w.heap.size w V:=fun V h=>hx1.below.trans (h.mono hx1.size)
   replace hwb:=Lib.hid hwb
   have hd:=Lib.hid (hI.out.trans ((Below.refl w1.heap.size wr).drew))
   obtain ⟨⟨r0,r1⟩,r2⟩:=hS.out k wr hlt hI.out
   go_wp2_with fail
   (refine wp_region_held_drew (S:=(fun V=>(V.cell? ⟨w.heap.size,0,none⟩ = some (.slice ba l.length cp)∧V.cell? ⟨w.heap.size,1,none⟩ = some (.slice (some ⟨g0,0,none⟩) N c0))∧V.cell? ⟨g0,k,none⟩ = some (.bool (f k)))) (by kernel_rfl) ?_ (fun hHeld=>?_))
   ·exact hS.out k _ hlt hd.out
   (refine takeL (i:=0) (v:=?_) rfl (by kernel_rfl) (by kernel_rfl) (by kernel_rfl) (fun _ _ _ h=>h) (Or.inl ⟨by rfl,?_⟩) (by assumption) ?_)
   rotate_left
   ·(intro w hSw;(try dsimp only at hSw);go_simp;first | done | with_reducible rfl)
   (try simp only [Act.put,List.setIfInBounds_toArray,List.set_cons_zero,List.set_cons_succ])
   (refine takeL (i:=1) (v:=?_) rfl (by kernel_rfl) (by kernel_rfl) (by kernel_rfl) (fun _ _ _ h=>h) (Or.inl ⟨by rfl,?_⟩) (by assumption) ?_)
   rotate_left
   ·(intro w hSw;(try dsimp only at hSw);go_simp;first | done | with_reducible rfl)
   (try simp only [Act.put,List.setIfInBounds_toArray,List.set_cons_zero,List.set_cons_succ])
   (refine takeL (i:=2) (v:=?_) rfl (by kernel_rfl) (by kernel_rfl) (by kernel_rfl) (fun _ _ _ h=>h) (Or.inl ⟨by rfl,?_⟩) (by assumption) ?_)
   rotate_left
   ·(intro w hSw;(try dsimp only at hSw);go_simp;first | done | with_reducible rfl)
   (try simp only [Act.put,List.setIfInBounds_toArray,List.set_cons_zero,List.set_cons_succ])
   (refine takeL (i:=3) (v:=?_) rfl (by kernel_rfl) (by kernel_rfl) (by kernel_rfl) (fun _ _ _ h=>h) (Or.inl ⟨by rfl,?_⟩) (by assumption) ?_)
   rotate_left
   ·(intro w hSw;(try dsimp only at hSw);go_simp;first | done | with_reducible rfl)
   (try simp only [Act.put,List.setIfInBounds_toArray,List.set_cons_zero,List.set_cons_succ])
   (refine takeL (i:=6) (v:=?_) rfl (by kernel_rfl) (by kernel_rfl) (by kernel_rfl) (fun _ _ _ h=>h) (Or.inl ⟨by rfl,?_⟩) (by assumption) ?_)
   rotate_left
   ·(intro w hSw;(try dsimp only at hSw);go_simp;first | done | with_reducible rfl)
   (try simp only [Act.put,List.setIfInBounds_toArray,List.set_cons_zero,List.set_cons_succ])
   (refine takeL (i:=7) (v:=?_) rfl (by kernel_rfl) (by kernel_rfl) (by kernel_rfl) (fun _ _ _ h=>h) (Or.inl ⟨by rfl,?_⟩) (by assumption) ?_)
   rotate_left
   ·(intro w hSw;(try dsimp only at hSw);go_simp;first | done | with_reducible rfl)
   (try simp only [Act.put,List.setIfInBounds_toArray,List.set_cons_zero,List.set_cons_succ])
   (refine takeL (i:=8) (v:=?_) rfl (by kernel_rfl) (by kernel_rfl) (by kernel_rfl) (fun _ _ _ h=>h) (Or.inl ⟨by rfl,?_⟩) (by assumption) ?_)
   rotate_left
   ·(intro w hSw;(try dsimp only at hSw);go_simp;first | done | with_reducible rfl)
   (try simp only [Act.put,List.setIfInBounds_toArray,List.set_cons_zero,List.set_cons_succ])
   (refine takeL (i:=9) (v:=?_) rfl (by kernel_rfl) (by kernel_rfl) (by kernel_rfl) (fun _ _ _ h=>h) (Or.inl ⟨by rfl,?_⟩) (by assumption) ?_)
   rotate_left
   ·(intro w hSw;(try dsimp only at hSw);go_simp;first | done | with_reducible rfl)
   (try simp only [Act.put,List.setIfInBounds_toArray,List.set_cons_zero,List.set_cons_succ])
   (refine takeL (i:=10) (v:=?_) rfl (by kernel_rfl) (by kernel_rfl) (by kernel_rfl) (fun _ _ _ h=>h) (Or.inl ⟨by rfl,?_⟩) (by assumption) ?_)
   rotate_left
   ·(intro w hSw;(try dsimp only at hSw);go_simp;first | done | with_reducible rfl)
   (try simp only [Act.put,List.setIfInBounds_toArray,List.set_cons_zero,List.set_cons_succ])
   (refine wpAnyH_ready (rs:=[4]) (by kernel_rfl) (by simp) ?_)
   (refine consL rfl (fun K hK=>?_))
   ((rw [if_pos (by rfl)]);go_simp;refine (qs.out k hlt _ (hwb.out _ hd.out)).mono ?_;rintro e w3 ⟨rfl,hb3⟩;have hd3:=Lib.hid (hd.out.trans (hb3.mono hd.out.size));refine hK.out _ _ (hS.out k _ hlt hd3.out) (fun hHeld=>?_);clear hb3)
   (clear hK K)
   (try simp only [Act.put,List.setIfInBounds_toArray,List.set_cons_zero,List.set_cons_succ])
   (refine wpAnyH_ready (rs:=[5]) (by kernel_rfl) (by simp) ?_)
   (refine consL rfl (fun K hK=>?_))
   ((rw [if_pos (by rfl)]);go_simp;refine (qe.out k _ (hwb.out _ hd3.out)).mono ?_;rintro e w4 ⟨rfl,hb4⟩;have hd4:=Lib.hid (hd3.out.trans (hb4.below.mono hd3.out.size));refine hK.out _ _ (hS.out k _ hlt hd4.out) (fun hHeld=>?_);clear hb4)
   (clear hK K)
   (try simp only [Act.put,List.setIfInBounds_toArray,List.set_cons_zero,List.set_cons_succ])
   (refine takeL (i:=11) (v:=?_) rfl (by kernel_rfl) (by kernel_rfl) (by kernel_rfl) (fun _ _ _ h=>h) (Or.inl ⟨by rfl,?_⟩) (by assumption) ?_)
   rotate_left
   ·(intro w hSw;(try dsimp only at hSw);go_simp;first | done | with_reducible rfl)
   (try simp only [Act.put,List.setIfInBounds_toArray,List.set_cons_zero,List.set_cons_succ])
   (refine wpAnyH_done (by kernel_rfl) ?_ _)
   clear hHeld
   have hne:(f k != f k) = false:=by simp
   go_wp2_with fail
   go_roundw
   case rel=>exact ⟨k+1,by omega,by go_num,hd4⟩
   case measure=>simp [intOf];omega
  ·obtain rfl:k = N:=by omega
   have d0:decide ((k:Int) < (k:Int)) = false:=decide_eq_false (by omega)
   go_wp2_with fail
   go_ret
   exact ⟨rfl,hx1.below.trans (hI.out.mono hx1.size)⟩
end Go.Proofs.YtmnjakejhbpkoaaGreatDoor
end
section
set_option linter.unusedSimpArgs false
set_option linter.unusedVariables false
namespace Go.Proofs.YtmnjakejhbpkoaaGreatDoor
open Go Go.RowKit Go.Shelf
def SubK (a b:VSet) (k:Nat):Prop:=∀ v:Nat,1≤v→v < k→hasS a v = true→hasS b v = true
theorem SubK.all {a b:VSet} (h:SubK a b 129) (v:Int) (hv:hasS a v = true):hasS b v = true:=by
 have hr:1≤v∧v≤128:=by
  unfold hasS at hv
  simp only [Bool.and_eq_true,decide_eq_true_eq] at hv
  exact hv.1
 have:=h v.toNat (by omega) (by omega)
 rw [show ((v.toNat:Nat):Int) = v by omega] at this
 exact this hv
set_option maxRecDepth 100000 in
set_option maxHeartbeats 1000000 in
theorem refSub_any (a b:VSet) (D:Bool) (hD:D = true↔∀ v,hasS a v = true→hasS b v = true) (w:World):Calls Tryz.prog 83 #[.agg #[.int .u64 (lo a),.int .u64 (hi a)],.agg #[.int .u64 (lo b),.int .u64 (hi b)]] w fun e w'=>e = .returned (.bool D)∧Below w.heap.size w w':=by
 obtain ⟨g0,g1⟩:=two_all w (.cells #[.int .u64 (lo a),.int .u64 (hi a)] 41) (.cells #[.int .u64 (lo b),.int .u64 (hi b)] 41)
 have hx1:=((Ext.refl w).alloc (.cells #[.int .u64 (lo a),.int .u64 (hi a)] 41)).alloc (.cells #[.int .u64 (lo b),.int .u64 (hi b)] 41)
 have qa:=fun (v:Int) W=>refHas_any a v W
 have qb:=fun (v:Int) W=>refHas_any b v W
 unfold encS at qa qb
 obtain ⟨y0,y1⟩:=pbox_cells g0
 obtain ⟨z0,z1⟩:=pbox_cells g1
 replace hD:=Lib.hid hD
 replace qa:=Lib.hid qa
 replace qb:=Lib.hid qb
 clear g0 g1
 go_enter Tryz.func83,Tryz.ntmps83
 go_wp2_with fail
 generalize (w.alloc (.cells #[.int .u64 (lo a),.int .u64 (hi a)] 41)).alloc (.cells #[.int .u64 (lo b),.int .u64 (hi b)] 41) = w1 at *
 have h0:Hid (Ext w1 w1∧SubK a b 1):=Lib.hid ⟨Ext.refl _,fun v h1 h2=>by omega⟩
 go_loopw [5] (fun iv wr=>∃ k:Nat,1≤k∧k≤129∧iv = .int .i64 (k:Nat)∧Hid (Ext w1 wr∧SubK a b k)) (fun iv _=>129 - (intOf iv).toNat)
 case atStart=>exact ⟨1,by omega,by omega,rfl,h0⟩
 case round =>
  clear h0
  obtain ⟨k,hk1,hk,rfl,hI⟩:=hrel
  by_cases hlt:k≤128
  ·have dlt:decide ((k:Int)≤128) = true:=decide_eq_true (by omega)
   have u0:=hI.out.1.cell y0
   have u1:=hI.out.1.cell y1
   have v0:=hI.out.1.cell z0
   have v1:=hI.out.1.cell z1
   have q1:=qa.out (k:Int) wr
   have hst:(hasS a (k:Int) = true→hasS b (k:Int) = true)→SubK a b (k+1):=fun h v h1 h2 h3=>by
    by_cases e:v = k
    ·subst e;exact h h3
    ·exact hI.out.2 v h1 (by omega) h3
   have hno:hasS a (k:Int) = true→hasS b (k:Int) = false→D = false:=fun h1 h2=>by
    cases hd:D
    ·rfl
    ·have:=hD.out.1 hd _ h1
     rw [h2] at this;cases this
   replace hst:=Lib.hid hst
   replace hno:=Lib.hid hno
   cases ha:hasS a (k:Int)
   ·rw [ha] at q1
    replace ha:=Lib.hid ha
    go_wp2_with fail
    refine q1.mono ?_
    rintro e w2 ⟨rfl,hx2⟩
    clear q1
    go_wp2_with fail
    go_roundw
    case rel=>exact ⟨k+1,by omega,by omega,by go_num,Lib.hid ⟨hI.out.1.trans hx2,hst.out fun h=>by rw [ha.out] at h;cases h⟩⟩
    case measure=>simp [intOf];omega
   ·rw [ha] at q1
    replace ha:=Lib.hid ha
    go_wp2_with fail
    refine q1.mono ?_
    rintro e w2 ⟨rfl,hx2⟩
    have q2:=qb.out (k:Int) w2
    have v0':=hx2.cell v0
    have v1':=hx2.cell v1
    clear q1 u0 u1 v0 v1
    cases hb:hasS b (k:Int)
    ·rw [hb] at q2
     replace hb:=Lib.hid hb
     go_wp2_with fail
     refine q2.mono ?_
     rintro e w3 ⟨rfl,hx3⟩
     clear q2
     go_wp2_with fail
     go_ret
     exact ⟨by rw [hno.out ha.out hb.out];rfl,(hx1.trans ((hI.out.1.trans hx2).trans hx3)).below⟩
    ·rw [hb] at q2
     replace hb:=Lib.hid hb
     go_wp2_with fail
     refine q2.mono ?_
     rintro e w3 ⟨rfl,hx3⟩
     clear q2
     go_wp2_with fail
     go_roundw
     case rel=>exact ⟨k+1,by omega,by omega,by go_num,Lib.hid ⟨(hI.out.1.trans hx2).trans hx3,hst.out fun _=>hb.out⟩⟩
     case measure=>simp [intOf];omega
  ·have dlt:decide ((k:Int)≤128) = false:=decide_eq_false (by omega)
   obtain rfl:k = 129:=by omega
   have hDt:=Lib.hid (hD.out.2 hI.out.2.all)
   go_wp2_with fail
   go_ret
   exact ⟨by rw [hDt.out];rfl,(hx1.trans hI.out.1).below⟩
theorem listB_ofS {t:List VN} (hc:checkF t = 0) {l:List Int} (hs:L.SortedBel t (t.length - 1) l) (u:Int):hasS (ofS l) u = true↔VarOf t u:=by
 rw [L.hasS_ofS]
 exact ⟨fun h=>sorted_var hc hs h.2,fun h=>⟨h.range,(hs.mem u).2 ((bel_root hc u).2 h)⟩⟩
open Classical in
set_option maxRecDepth 100000 in
set_option maxHeartbeats 4000000 in
theorem refErr27_any {n:Int} {T:List (List Int)} {t:List VN} {a:VSet} (ha:L.thChk n T = 0→a = L.thVars T) (w:World) (ba:Option Addr) (cap:Nat) (ht:t = []∨∃ b o,ba = some ⟨b,o,none⟩∧TreeAt w b o t) (htl:t.length≤5864062014805) (hF:few27B t = true) :
  Calls Tryz.prog 21 #[.int .i64 (L.thChk n T),.agg #[.int .u64 (lo a),.int .u64 (hi a)],.slice ba t.length cap] w fun e w'=>e = .returned (.int .i64 (compE n T t))∧Below w.heap.size w w':=by
 have e0:=heap_alloc_new w (.cells #[.int .u64 (lo a),.int .u64 (hi a)] 41)
 have hx1:Ext w (w.alloc (.cells #[.int .u64 (lo a),.int .u64 (hi a)] 41)):=(Ext.refl w).alloc _
 obtain ⟨w1,hw1⟩:∃ w1,w1 = w.alloc (.cells #[.int .u64 (lo a),.int .u64 (hi a)] 41):=⟨_,rfl⟩
 rw [←hw1] at e0 hx1
 have ht1:t = []∨∃ b o,ba = some ⟨b,o,none⟩∧TreeAt w1 b o t:=ht.imp id fun ⟨b,o,e,h⟩=>⟨b,o,e,h.ext hx1⟩
 have qk:=refchk_any w1 ba cap ht1 htl
 by_cases h1:L.thChk n T = 0
 ·obtain rfl:=ha h1
  clear ha
  have hE1:compE n T t = if checkF t≠0 then checkF t else if (∀ u,hasS (L.thVars T) u = true→VarOf t u) then 0 else 1:=by
   unfold compE;rw [if_neg (by rw [h1];simp)]
  rw [h1]
  by_cases h2:checkF t = 0
  ·rw [if_neg (by rw [h2];simp)] at hE1
   obtain ⟨b,o,rfl,htr⟩:=tree_some h2 ht1
   rw [h2] at qk
   have q1:=fun (W:World) (h:Below w1.heap.size w1 W)=>variables_any W b o cap (htr.below h) h2
   have hfew:=few_len hF h2
   have hl6:=L.nv_le h2 (v:=t.length - 1) (by have:=(check_ok h2).1;omega)
   have hlen:∀ l,L.SortedBel t (t.length - 1) l→l.length≤1048576:=fun l hl=>by rw [hl.len h2 (by have:=(check_ok h2).1;omega)];omega
   have hD:∀ l,L.SortedBel t (t.length - 1) l→∀ W,Calls Tryz.prog 83 #[.agg #[.int .u64 (lo (L.thVars T)),.int .u64 (hi (L.thVars T))],.agg #[.int .u64 (lo (ofS l)),.int .u64 (hi (ofS l))]] W fun e w'=>e = .returned (.bool (decide (∀ u,hasS (L.thVars T) u = true→VarOf t u)))∧Below W.heap.size W w':=fun l hl W =>
    refSub_any _ _ _ (by
     rw [decide_eq_true_iff]
     exact ⟨fun h u hu=>(listB_ofS h2 hl u).2 (h u hu),fun h u hu=>(listB_ofS h2 hl u).1 (h u hu)⟩) W
   obtain ⟨A,hA⟩:∃ A,decide (∀ u,hasS (L.thVars T) u = true→VarOf t u) = A:=⟨_,rfl⟩
   have hE2:compE n T t = if A = true then 0 else 1:=by
    rw [hE1,←hA]
    by_cases h:(∀ u,hasS (L.thVars T) u = true→VarOf t u)
    ·rw [if_pos h,if_pos (by simpa using h)]
    ·rw [if_neg h,if_neg (by simpa using h)]
   simp only [hA] at hD
   replace hA:=Lib.hid hA
   clear hE1
   have y0:w1.cell? ⟨w.heap.size,0,none⟩ = some (.int .u64 (lo (L.thVars T))):=by rw [World.cell?,e0];rfl
   have y1:w1.cell? ⟨w.heap.size,1,none⟩ = some (.int .u64 (hi (L.thVars T))):=by rw [World.cell?,e0];rfl
   generalize L.thVars T = S at *
   replace e0:=Lib.hid e0
   replace q1:=Lib.hid q1
   replace hD:=Lib.hid hD
   replace hlen:=Lib.hid hlen
   replace hE2:=Lib.hid hE2
   replace h1:=Lib.hid h1
   replace h2:=Lib.hid h2
   clear ht ht1 hl6 hfew
   go_enter Tryz.func21,Tryz.ntmps21
   go_wp2_with fail
   rw [←hw1]
   replace hw1:=Lib.hid hw1
   go_wp2_with fail
   refine qk.mono ?_
   rintro e w2 ⟨rfl,hx2⟩
   have a0:=hx2.cell y0
   have a1:=hx2.cell y1
   clear qk y0 y1
   have hd:=Lib.hid (hx2.below.trans ((Below.refl w1.heap.size w2).drew))
   have hwz:=hx1.size
   go_wp2_with fail
   (refine wp_region_held_drew (S:=(fun V=>V.cell? ⟨w.heap.size,0,none⟩ = some (.int .u64 (lo S))∧V.cell? ⟨w.heap.size,1,none⟩ = some (.int .u64 (hi S)))) (by kernel_rfl) ?_ (fun hHeld=>?_))
   ·exact ⟨a0,a1⟩
   (refine takeL (i:=0) (v:=?_) rfl (by kernel_rfl) (by kernel_rfl) (by kernel_rfl) (fun _ _ _ h=>h) (Or.inl ⟨by rfl,?_⟩) (by assumption) ?_)
   rotate_left
   ·(intro w hSw;(try dsimp only at hSw);go_simp;first | done | with_reducible rfl)
   (try simp only [Act.put,List.setIfInBounds_toArray,List.set_cons_zero,List.set_cons_succ])
   (refine takeL (i:=1) (v:=?_) rfl (by kernel_rfl) (by kernel_rfl) (by kernel_rfl) (fun _ _ _ h=>h) (Or.inl ⟨by rfl,?_⟩) (by assumption) ?_)
   rotate_left
   ·(intro w hSw;(try dsimp only at hSw);go_simp;first | done | with_reducible rfl)
   (try simp only [Act.put,List.setIfInBounds_toArray,List.set_cons_zero,List.set_cons_succ])
   have hcc:∀ V,Below w1.heap.size w1 V→V.cell? ⟨w.heap.size,0,none⟩ = some (.int .u64 (lo S))∧V.cell? ⟨w.heap.size,1,none⟩ = some (.int .u64 (hi S)):=fun V h=>by
    have f0:=(h.block _ (Array.getElem?_eq_some_iff.1 e0.out).1).trans e0.out
    exact ⟨by rw [World.cell?,f0];rfl,by rw [World.cell?,f0];rfl⟩
   replace hcc:=Lib.hid hcc
   (refine wpAnyH_ready (rs:=[2]) (by kernel_rfl) (by simp) ?_)
   (refine consL rfl (fun K hK=>?_))
   ((rw [if_pos (by rfl)]);go_simp;refine (q1.out _ hd.out).mono ?_;rintro e w3 ⟨v,l,rfl,hrow,hsl,hb3⟩;have hd3:=Lib.hid (hd.out.trans (hb3.mono hd.out.size));refine hK.out _ _ (hcc.out _ hd3.out) (fun hHeld=>?_);clear hb3)
   (clear hK K)
   (try simp only [Act.put,List.setIfInBounds_toArray,List.set_cons_zero,List.set_cons_succ])
   (refine wpAnyH_ready (rs:=[3]) (by kernel_rfl) (by simp) ?_)
   (refine consL rfl (fun K hK=>?_))
   ((rw [if_pos (by rfl)]);go_simp;refine (refOf_any l v _ (owns_slI hrow) (hlen.out l hsl)).mono ?_;rintro e w4 ⟨rfl,hb4⟩;have hd4:=Lib.hid (hd3.out.trans (hb4.mono hd3.out.size));refine hK.out _ _ (hcc.out _ hd4.out) (fun hHeld=>?_);clear hb4)
   (clear hK K)
   (try simp only [Act.put,List.setIfInBounds_toArray,List.set_cons_zero,List.set_cons_succ])
   (unfold encS)
   (refine wpAnyH_ready (rs:=[4]) (by kernel_rfl) (by simp) ?_)
   (refine consL rfl (fun K hK=>?_))
   ((rw [if_pos (by rfl)]);go_simp;refine (hD.out l hsl _).mono ?_;rintro e w5 ⟨rfl,hb5⟩;have hd5:=Lib.hid (hd4.out.trans (hb5.mono hd4.out.size));refine hK.out _ _ (hcc.out _ hd5.out) (fun hHeld=>?_);clear hb5)
   (clear hK K)
   (try simp only [Act.put,List.setIfInBounds_toArray,List.set_cons_zero,List.set_cons_succ])
   (refine takeL (i:=5) (v:=?_) rfl (by kernel_rfl) (by kernel_rfl) (by kernel_rfl) (fun _ _ _ h=>h) (Or.inl ⟨by rfl,?_⟩) (by assumption) ?_)
   rotate_left
   ·(intro w hSw;(try dsimp only at hSw);go_simp;first | done | with_reducible rfl)
   (try simp only [Act.put,List.setIfInBounds_toArray,List.set_cons_zero,List.set_cons_succ])
   (refine wpAnyH_done (by kernel_rfl) ?_ _)
   clear hHeld
   have hbe:=hx1.below.trans (hd5.out.mono hwz)
   cases A
   ·go_wp2_with fail
    go_ret
    exact ⟨by rw [hE2.out];rfl,hbe⟩
   ·go_wp2_with fail
    go_ret
    exact ⟨by rw [hE2.out];rfl,hbe⟩
  ·rw [if_pos h2] at hE1
   have d2:(checkF t != 0) = true:=by simpa using h2
   replace hE1:=Lib.hid hE1
   generalize checkF t = z2 at *
   replace e0:=Lib.hid e0
   clear ht ht1
   go_enter Tryz.func21,Tryz.ntmps21
   go_wp2_with fail
   rw [←hw1]
   replace hw1:=Lib.hid hw1
   go_wp2_with fail
   refine qk.mono ?_
   rintro e w2 ⟨rfl,hx2⟩
   clear qk
   go_wp2_with fail
   go_ret
   exact ⟨by rw [hE1.out];rfl,(hx1.trans hx2).below⟩
 ·have hE1:Hid (compE n T t = L.thChk n T):=Lib.hid (by unfold compE;rw [if_pos h1])
  have d1:(L.thChk n T != 0) = true:=by simpa using h1
  clear ha
  generalize L.thChk n T = z1 at *
  replace e0:=Lib.hid e0
  clear ht ht1 qk
  go_enter Tryz.func21,Tryz.ntmps21
  go_wp2_with fail
  go_ret
  exact ⟨by rw [hE1.out];rfl,by rw [←hw1];exact hx1.below⟩
end Go.Proofs.YtmnjakejhbpkoaaGreatDoor
end
