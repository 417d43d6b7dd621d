import Derived.Test.YtckhohpbokojdaaGreatDoorMVars
import Derived.Test.YtckhohpbokojdaaGreatDoorMRef3
import Derived.Test.YtckhohpbokojdaaGreatDoorMShelf7
import Derived.Shelf.SlIterI.Collect
import Derived.Shelf.AbstractIn
set_option linter.unusedSimpArgs false
set_option linter.unusedVariables false
namespace Go.Proofs
open Go.RowKit Go.Maps Go.Sort Go.Shelf
def SeqGivesB (F:Fence) (n:Nat) (P:Program) (g:Nat) (lb:Array Value) (S:List Int→Prop) (N:Nat) (w:World):Prop :=
 ∀ (l:Nat) (J:List Int→World→Prop) (W:World),Below w.heap.size w W→(∀ s W',J s W'→Below w.heap.size w W') →
   (∀ pre x W1,J pre W1→pre.length < N→YieldAt F (n - 1) P l #[encZ x] W1 fun e W'=>e = .returned (.bool true)∧J (pre++[x]) W'∧KeepsWalks W1 W') →
   J [] W →
   CallsIn F n P g (#[.func (.yield l) #[] #[]]++lb) W fun e W'=>(∃ v,e = .returned v)∧∃ xs,S xs∧J xs W'
section
variable {P:Program} {ρ:Ren}
set_option maxRecDepth 100000 in
set_option maxHeartbeats 2000000 in
theorem appendSeqB (L:SlLaysZI.n11 P ρ) (F:Fence) (n:Nat) (h11:F.fn (ρ.f 11)) (hro:F.round = none) (hn:2≤n) (g:Nat) (lb:Array Value) (hFg:F.fn g) (eg:∀ args w,(callFunc g args).run P w = .ok (.enter g args) w)
  (S:List Int→Prop) (N:Nat) (hN:N≤maxLen) (hNb:N * 8≤140737488355328) (w:World) (hseq:SeqGivesB F (n - 1) P g lb S N w) :
  CallsIn F n P (ρ.f 11) #[.slice none 0 0,.func (.func g) #[] lb] w fun e w'=>∃ (v:Value) (ss:List Int),e = .returned v∧S ss∧w'.ownsRow w.heap.size (ρ.t 26) 1 v ss.length (ss.map encZ)∧(v = .slice none 0 0↔ss = [])∧Below w.heap.size w w':=by
 have h1:1≤n:=by omega
 have mixed:=L.mixed;have t0:=L.t0;have a0:=L.a0;have z0:=L.z0;have v0:=L.v0;have t24:=L.t24;have a24:=L.a24;have z24:=L.z24;have v24:=L.v24;have t26:=L.t26;have a26:=L.a26;have z26:=L.z26;have v26:=L.v26;have t28:=L.t28;have a28:=L.a28;have z28:=L.z28;have v28:=L.v28
 have hne:ρ.t 24≠ρ.t 26:=fun e=>by have h:=L.t24;rw [e,L.t26] at h;cases h
 have u0:=run_underlying L.t0;have u24:=run_underlying L.t24;have u26:=run_underlying L.t26;have u28:=run_underlying L.t28
 obtain ⟨_,_,FG⟩:=L.f11
 refine callsIn_of_wp_marks FG rfl h11 ?_ hro
 simp only [SlBodyZ.n11_ntmps ρ,List.size_toArray,List.length_cons,List.length_nil,Nat.reduceAdd,Nat.reduceSub,Array.replicate_succ,Array.replicate_zero,List.push_toArray,List.append_toArray,List.nil_append,List.cons_append]
 gi_wp2
 refine wpIn_rangeFunc ?_
 intro fn hfn
 rw [hro]
 obtain ⟨W0,hW0⟩:∃ W0,w.alloc (.cells #[.slice none 0 0] (ρ.t 24)) = W0:=⟨_,rfl⟩
 have hs0:W0.heap.size = w.heap.size+1:=by rw [←hW0];simp
 have hv0:W0.heap[w.heap.size]? = some (.cells #[.slice none 0 0] (ρ.t 24) (0,0)):=by rw [←hW0];exact World.alloc_heap_new w _
 have hb0:Below w.heap.size w W0:=by rw [←hW0];exact (Below.refl _ w).alloc (Nat.le_refl _) _
 rw [hW0]
 obtain ⟨W1,hW1⟩:∃ W1,(W0.alloc (.deferred (some []))).alloc (.loop (AnyZI.apRec ρ fn (.func (.func g) #[] lb) w.heap.size W0.heap.size .ready none)) = W1:=⟨_,rfl⟩
 have hold:∀ k,k < W0.heap.size→W1.heap[k]? = W0.heap[k]?:=fun k hk=>by
  rw [←hW1];exact (Below.heap_alloc _ _ k (by simp;omega)).trans (Below.heap_alloc _ _ k hk)
 have hb1:Below w.heap.size w W1:=by rw [←hW1];exact (hb0.alloc hb0.size _).alloc (by have:=hb0.size;simp;omega) _
 have hs1:W1.heap.size = W0.heap.size+2:=by rw [←hW1];simp
 have hM:AnyZI.ApAt ρ w fn (.func (.func g) #[] lb) w.heap.size (W0.heap.size+1) W0.heap.size [] W1 :=
  ⟨⟨_,(hold w.heap.size (by omega)).trans hv0,⟨rfl,.inl ⟨rfl,rfl⟩⟩,by simp⟩,
   by rw [←hW1];have:=World.alloc_heap_new (W0.alloc (.deferred (some []))) (.loop (AnyZI.apRec ρ fn (.func (.func g) #[] lb) w.heap.size W0.heap.size .ready none));rwa [World.size_alloc] at this,
   by rw [←hW1];exact (Below.heap_alloc _ _ _ (by simp)).trans (World.alloc_heap_new W0 _),hb1⟩
 refine ⟨W0.heap.size+1,[{ target:=.collected W0.heap.size,args:=#[] }],W1,{ target:=.fn (.func g) lb,args:=#[.func (.yield (W0.heap.size+1)) #[] #[]] },W1,g,
  #[.func (.yield (W0.heap.size+1)) #[] #[]]++lb,W1,?_,?_,?_,?_,fun _=>h1,?_⟩
 ·rw [←hW1];exact run_enterLoop_outer _ _ _ _ _
 ·simp [resolve,go_sem]
 ·intro f' hf';simp [Target.leads] at hf';subst hf';exact hFg
 ·simp [invoke,go_sem,eg]
 ·refine (hseq (W0.heap.size+1) (AnyZI.ApAt ρ w fn (.func (.func g) #[] lb) w.heap.size (W0.heap.size+1) W0.heap.size) W1 hb1 (fun s W' h=>h.below)
   (fun pre x W hJ hl=>AnyZI.apYield { L with } F (n - 1 - 1) w fn hfn _ w.heap.size (W0.heap.size+1) W0.heap.size (by omega) (by omega) (by omega) (Nat.le_refl _) (by omega) N hN hNb pre x W hJ hl) hM).mono ?_
  rintro e W2 ⟨⟨v0,rfl⟩,ss,hS,h2⟩
  obtain ⟨v,hv,hrow,hnil⟩:=h2.box
  have hend:=run_endLoop (P:=P) h2.L (by simp [AnyZI.apRec])
  obtain ⟨W3,hW3⟩:∃ W3,W2.putObj (W0.heap.size+1) (.loop { AnyZI.apRec ρ fn (.func (.func g) #[] lb) w.heap.size W0.heap.size .ready none with state:=.exhausted }) = W3:=⟨_,rfl⟩
  rw [hW3] at hend
  have hg3:W2.grownBy W3 (some (W0.heap.size+1)):=by rw [←hW3];exact grownBy_putObj_a _ _ _
  have hv3:W3.heap[w.heap.size]? = some (.cells #[v] (ρ.t 24) (0,0)):=by rw [←hW3];exact (World.putObj_heap_other (by omega)).trans hv
  have hK3:W3.heap[W0.heap.size]? = some (.deferred (some [])):=by rw [←hW3];exact (World.putObj_heap_other (by omega)).trans h2.K
  have hrow3:=hrow.kept hg3 (ownsRow_ne_a hrow h2.L (fun cur e=>by first | cases e | exact hne (Obj.cells.inj e).2.1))
  have hb3:Below w.heap.size w W3:=h2.below.grown hg3 h2.below.size (fun k e=>by cases e;omega)
  obtain ⟨hc3,hf3⟩:=cell_of_box_a hv3
  clear hW3
  refine ⟨none,W3,hend,?_⟩
  gi_wp2
  rw [←hs0]
  refine ⟨by simp,.inl ⟨_,_,rfl,run_takeDeferred hK3,?_⟩⟩
  exact ⟨_,results_tmp rfl _ _ _,v,ss,rfl,hS,hrow3.kept (grownBy_putObj_a _ _ _) (ownsRow_ne_a hrow3 hK3 (fun cur e=>by first | cases e | exact hne (Obj.cells.inj e).2.1)),hnil,hb3.grown (grownBy_putObj_a _ _ _) hb3.size (fun k e=>by cases e;omega)⟩
set_option maxHeartbeats 1000000 in
theorem collectB (L:SlLaysZI.n8 P ρ) (F:Fence) (n:Nat) (h8:F.fn (ρ.f 8)) (h11:F.fn (ρ.f 11)) (hro:F.round = none) (hn:3≤n) (g:Nat) (lb:Array Value) (hFg:F.fn g) (eg:∀ args w,(callFunc g args).run P w = .ok (.enter g args) w)
  (S:List Int→Prop) (N:Nat) (hN:N≤maxLen) (hNb:N * 8≤140737488355328) (w:World) (hseq:SeqGivesB F (n - 1 - 1) P g lb S N w) :
  CallsIn F n P (ρ.f 8) #[.func (.func g) #[] lb] w fun e w'=>∃ (v:Value) (ss:List Int),e = .returned v∧S ss∧w'.ownsRow w.heap.size (ρ.t 26) 1 v ss.length (ss.map encZ)∧(v = .slice none 0 0↔ss = [])∧Below w.heap.size w w':=by
 have h1:1≤n:=by omega
 have e11:∀ args w,(callFunc (ρ.f 11) args).run P w = .ok (.enter (ρ.f 11) args) w:=L.f11.enters rfl
 have mixed:=L.mixed;have t0:=L.t0;have a0:=L.a0;have z0:=L.z0;have v0:=L.v0;have t24:=L.t24;have a24:=L.a24;have z24:=L.z24;have v24:=L.v24;have t26:=L.t26;have a26:=L.a26;have z26:=L.z26;have v26:=L.v26;have t28:=L.t28;have a28:=L.a28;have z28:=L.z28;have v28:=L.v28
 have u0:=run_underlying L.t0;have u24:=run_underlying L.t24;have u26:=run_underlying L.t26;have u28:=run_underlying L.t28
 obtain ⟨_,_,FG⟩:=L.f8
 refine callsIn_of_wp FG rfl h8 ?_ hro
 simp only [SlBodyZ.n8_ntmps ρ,List.size_toArray,List.length_cons,List.length_nil,Nat.reduceAdd,Nat.reduceSub,Array.replicate_succ,Array.replicate_zero,List.push_toArray,List.append_toArray,List.nil_append,List.cons_append]
 gi_wp2_with (gi_at_fn (ρ.f 11);refine (appendSeqB { L with } F (n - 1) h11 hro (by omega) g lb hFg eg S N hN hNb _ hseq).mono ?_;rintro e w' ⟨v,ss,rfl,hS,hrow,hnil,hb⟩)
 go_ret
 exact ⟨v,ss,rfl,hS,hrow,hnil,hb⟩
end
end Go.Proofs
namespace Go.Proofs.YtckhohpbokojdaaGreatDoor
open Go Go.RowKit Go.Shelf
theorem listVK_eq (s:VSet):∀ k,k≤128→listVK s k = ((List.range k).filter (fun i=>s.getLsbD i)).map (fun i=>((i+1:Nat):Int))
 | 0,_=>rfl
 | k+1,hk=>by
   rw [listVK,listVK_eq s k (by omega),List.range_succ,List.filter_append,List.map_append]
   have hh:hasS s ((k:Int)+1) = s.getLsbD k:=by
    unfold hasS
    rw [show ((k:Int)+1 - 1).toNat = k by omega]
    simp [show (1:Int)≤(k:Int)+1 by omega,show (k:Int)+1≤128 by omega]
   rw [hh]
   cases h:s.getLsbD k <;> simp [List.filter_cons,h]
theorem listV_eq (s:VSet):listV s = (listS s).map (fun n:Nat=>(n:Int)):=by
 unfold listV listS
 rw [listVK_eq s 128 (Nat.le_refl _),List.map_map]
 rfl
theorem below_two {n:Nat} {w a b:World} (h:Below n w a) (k:Below n w b) (hs:a.heap.size≤b.heap.size):Below n a b :=
 ⟨k.os.trans h.os.symm,k.tape.trans h.tape.symm,k.output.trans h.output.symm,hs,fun i hi=>(k.block i hi).trans (h.block i hi).symm⟩
theorem members_gives (n:Nat) (hn:1≤n) (s:VSet) (Bn:Nat) (w:World) (hb:w.heap[Bn]? = some (.cells #[.int .u64 (lo s),.int .u64 (hi s)] 37 (0,0))) (hT:TzTab w) :
  SeqGivesB Fence.wide n Tryz.prog 75 #[.pointer (some ⟨Bn,0,none⟩)] (fun ss=>ss = listV s) 128 w:=fun l J W hW hJ hY h0=>by
 have hbl:Bn < w.heap.size:=(Array.getElem?_eq_some_iff.1 hb).1
 have hbW:=(hW.block Bn hbl).trans hb
 refine (members1_in n hn l Bn w.heap.size s (fun pre W'=>J (pre.map fun n:Nat=>(n:Int)) W') (fun _ _=>False) (fun pre x W1 hJ1 hlt=>?_) W (by simp [World.cell?,hbW]) (by simp [World.cell?,hbW]) (hT.below hT.lt hW) hT.lt' h0).mono ?_
 ·obtain ⟨fn,tmps,assign,body,hy,hR⟩:=hY _ (x:Int) W1 hJ1 (by simpa using hlt)
  refine ⟨fn,tmps,assign,body,hy,hR.mono ?_⟩
  rintro e W' ⟨rfl,h2,h3⟩
  exact .inl ⟨rfl,by simpa using h2,below_two (hJ _ _ hJ1) (hJ _ _ h2) h3.size⟩
 ·rintro e W' ⟨he,(⟨ys,rfl,h⟩ | ⟨pre,_,h⟩)⟩
  ·exact ⟨he,_,listV_eq s ▸ rfl,h⟩
  ·exact h.elim
set_option maxRecDepth 100000 in
set_option maxHeartbeats 2000000 in
theorem vlist_any (s:VSet) (w:World) (hT:TzTab w) :
  Calls Tryz.prog 27 #[.agg #[.int .u64 (lo s),.int .u64 (hi s)]] w fun e w'=>∃ v,e = .returned v∧w'.ownsRow w.heap.size 3 1 v (listV s).length ((listV s).map encZ)∧Below w.heap.size w w':=by
 refine (callsIn_wide (n:=6)).1 ?_
 have hx1:=(Ext.refl w).alloc (.cells #[.int .u64 (lo s),.int .u64 (hi s)] 37)
 have hx2:=hx1.alloc (.cells #[.int .u64 (lo s),.int .u64 (hi s)] 37)
 have hn2:=heap_alloc_new (w.alloc (.cells #[.int .u64 (lo s),.int .u64 (hi s)] 37)) (.cells #[.int .u64 (lo s),.int .u64 (hi s)] 37)
 rw [World.size_alloc] at hn2
 have hseq:=members_gives 3 (by omega) s _ _ hn2 (hT.ext hx2)
 have cM:=members_in 5 s
 have cS:=collectB Tryz.collectInt Fence.wide 5 trivial trivial rfl (by omega) 75 #[.pointer (some ⟨w.heap.size+1,0,none⟩)] trivial (enters_of Tryz.func75 (by kernel_rfl) rfl) _ 128 (by unfold maxLen;omega) (by omega) _ hseq
 change CallsIn _ _ Tryz.prog 54 _ _ _ at cS
 have hfM:Fence.wide.fn 55:=trivial
 have hfS:Fence.wide.fn 54:=trivial
 refine callsIn_of_wp Tryz.func27 rfl trivial ?_ rfl
 simp only [Tryz.ntmps27,List.size_toArray,List.length_cons,List.length_nil,Nat.reduceAdd,Nat.reduceSub,Array.replicate_succ,Array.replicate_zero,List.push_toArray,List.append_toArray,List.nil_append,List.cons_append]
 gi_wp2_with (first
  | (gi_at_call 55;refine (cM _).mono ?_;rintro e w' ⟨rfl,rfl⟩)
  | (gi_at_call 54;refine cS.mono ?_;rintro e w' ⟨v,ss,rfl,rfl,hrow,hnil,hb⟩))
 go_ret
 exact ⟨v,rfl,own_base hrow hx2.size,hx2.below.trans (hb.mono hx2.size)⟩
end Go.Proofs.YtckhohpbokojdaaGreatDoor
