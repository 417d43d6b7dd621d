import Derived.Test.YtmnjakejhbpkoaaGreatDoorWNt4
import Derived.ChangeKeysEq
import Derived.Test.YtmnjakejhbpkoaaGreatDoorWTab2
import Derived.Test.YtmnjakejhbpkoaaGreatDoorWVvars
import Derived.Test.YtmnjakejhbpkoaaGreatDoorWLen2
import Derived.Test.YtmnjakejhbpkoaaGreatDoorWLaw12
import Derived.Test.YtmnjakejhbpkoaaGreatDoorWLaw3
import Derived.Test.YtmnjakejhbpkoaaGreatDoorWVars
import Derived.Test.YtmnjakejhbpkoaaGreatDoorWTop
import Derived.Test.YtmnjakejhbpkoaaGreatDoorWReg
import Derived.Laws.EntriesVeiled
section
set_option linter.unusedSimpArgs false
set_option linter.unusedVariables false
namespace Go.Proofs.YtmnjakejhbpkoaaGreatDoor
open Go Go.RowKit Go.Shelf
theorem natL_inj {a b:Nat} (ha:a < 256) (hb:b < 256) (h:natL a = natL b):a = b:=by
 unfold natL at h
 split at h <;> split at h
 ·omega
 ·simp at h
 ·simp at h
 ·simp only [List.cons.injEq,and_true] at h
  have:=congrArg UInt8.toNat h
  simp at this
  omega
theorem ba_eq (A B:ByteArray):(A == B) = decide (A = B):=by
 show (A.data == B.data) = _
 rw [Bool.eq_iff_iff,beq_iff_eq,decide_eq_true_iff]
 exact ⟨fun h=>ByteArray.ext h,fun h=>by rw [h]⟩
theorem natL_toList (a:Nat):(⟨(natL a).toArray⟩:ByteArray).toList = natL a:=by
 unfold natL
 split
 ·unfold ByteArray.toList
  rw [ByteArray.toList.loop];rfl
 ·unfold ByteArray.toList
  rw [ByteArray.toList.loop,ByteArray.toList.loop];rfl
theorem natEq {a b:Nat} (ha:a < 256) (hb:b < 256) (w:World):(Op.equalIn 10000 52 (natV a) (natV b)).run Tryz.prog w = .ok (decide (a = b)) w:=by
 unfold natV
 rw [run_equalIn_agg w _ _ _ _ (by kernel_rfl) (by kernel_rfl)]
 by_cases h1:a = b
 ·subst h1
  simp [go_sem]
 ·have h2:natL a≠natL b:=fun h=>h1 (natL_inj ha hb h)
  have h3:(⟨(natL a).toArray⟩:ByteArray)≠⟨(natL b).toArray⟩:=fun h=>h2 (by have:=congrArg ByteArray.data h;simpa using this)
  have h4:((⟨(natL a).toArray⟩:ByteArray) == ⟨(natL b).toArray⟩) = false:=by rw [ba_eq];exact decide_eq_false h3
  have h5:¬ ((⟨(natL a).toArray⟩:ByteArray).toList = (⟨(natL b).toArray⟩:ByteArray).toList):=by rw [natL_toList,natL_toList];exact h2
  simp [go_sem,h1,h2,h4,h5]
end Go.Proofs.YtmnjakejhbpkoaaGreatDoor
end
section
set_option linter.unusedSimpArgs false
set_option linter.unusedVariables false
namespace Go.Proofs.YtmnjakejhbpkoaaGreatDoor
open Go Go.RowKit Go.Shelf
theorem TreeAt.sameB {w w':World} {b o:Nat} {t:List VN} (h:TreeAt w b o t) (hs:w'.heap[b]? = w.heap[b]?):TreeAt w' b o t:=fun j x hj=>by
 have:=h j x hj
 simpa only [World.cell?,hs] using this
theorem SL.treeL {t:List VN} {sb k:Nat} {X:List Nat} {s:St} {w0 w:World} (h:SL t sb k X s w0 w):Calls Tryz.prog 64 #[.pointer (some ⟨sb,0,none⟩)] w fun e w'=>∃ g cap,e = .returned (.slice (some ⟨g,0,none⟩) t.length cap)∧w.heap.size≤g∧g < w'.heap.size∧TreeAt w' g 0 t∧Below w.heap.size w w':=by
 obtain ⟨B,rfl,hR,_,_,_⟩:=h.ss
 have hf:=h.few
 have q:=tree_any hR (by rw [h.tree];omega)
 rw [h.tree] at q
 refine q.mono ?_
 rintro e w5 ⟨g5,cp5,cs5,rfl,hg5,hh5,hcs5,hb5⟩
 exact ⟨g5,cp5,rfl,hg5,(Array.getElem?_eq_some_iff.1 hh5).1,fun j x hj=>by rw [World.cell?,hh5];exact hcs5 j x hj,hb5⟩
structure VwAt (t:List VN) (sb xv gt ct gb pc pn:Nat) (f:Nat→VSet) (w:World):Prop where
 box:w.heap[xv]? = some (.cells #[.pointer (some ⟨sb,0,none⟩),.slice (some ⟨gt,0,none⟩) t.length ct,.slice (some ⟨gb,0,none⟩) t.length t.length,.map (some pc),.map (some pn)] 144 (0,0))
 tree:TreeAt w gt 0 t
 sets:SetsAt w gb t.length f
 bel:∀ j,j < t.length→IsBel t j (f j)
theorem VwAt.same {t:List VN} {sb xv gt ct gb pc pn:Nat} {f:Nat→VSet} {w w':World} (h:VwAt t sb xv gt ct gb pc pn f w) (h1:w'.heap[xv]? = w.heap[xv]?) (h2:w'.heap[gt]? = w.heap[gt]?) (h3:w'.heap[gb]? = w.heap[gb]?):VwAt t sb xv gt ct gb pc pn f w' :=
 ⟨h1.trans h.box,h.tree.sameB h2,h.sets.same h3,h.bel⟩
def encC (n:Nat):Value:=natV n
set_option maxRecDepth 100000 in
set_option maxHeartbeats 4000000 in
theorem look_any {t:List VN} {sb k:Nat} {X:List Nat} {s:St} {w0 w:World} (h:SL t sb k X s w0 w) {a:Nat} (ha:a < s.nodes.length) :
  Calls Tryz.prog 96 #[.pointer (some ⟨sb,0,none⟩),.int .i64 (a:Nat)] w fun e w'=>∃ (xv gt ct gb pc pn:Nat) (f:Nat→VSet),e = .returned (.tuple #[.pointer (some ⟨xv,0,none⟩),.int .i64 0])∧SL t sb k (xv :: gt :: gb :: pc :: pn :: X) s w0 w'∧VwAt t sb xv gt ct gb pc pn f w' ∧
   MapAt encNat encC w' pc (fun _=>none)∧MapAt encNat encNat w' pn (fun _=>none)∧(pc≠pn∧gt≠gb∧∀ y∈[gt,gb,pc,pn],y≠xv)∧(∀ y∈[xv,gt,gb,pc,pn],w.heap.size≤y)∧Below w.heap.size w w':=by
 have hn:s.nodes[a]? = some s.nodes[a]:=List.getElem?_eq_getElem ha
 have q1:=h.at hn
 have hmm:∀ w,(Instr.makeMap 141 none).run Tryz.prog w = .ok (.map (some w.heap.size)) (w.alloc (.map #[] 0)):=fun w=>rfl
 have hmm2:∀ w,(Instr.makeMap 142 none).run Tryz.prog w = .ok (.map (some w.heap.size)) (w.alloc (.map #[] 0)):=fun w=>rfl
 go_enter Tryz.func96,Tryz.ntmps96
 go_wp2_with fail
 refine q1.mono ?_
 rintro e w1 ⟨rfl,hb1⟩
 have h1:=h.below hb1
 have q2:=h1.treeL
 replace h1:=Lib.hid h1
 clear q1 h hn
 go_wp2_with fail
 refine q2.mono ?_
 rintro e w2 ⟨gt,ct,rfl,hgt,hgt',ht2,hb2⟩
 have hc:=h1.out.chk
 have q3:=vvars_any (cap:=ct) w2 gt 0 ht2 hc
 replace ht2:=Lib.hid ht2
 clear q2
 go_wp2_with fail
 refine q3.mono ?_
 rintro e w3 ⟨gb,f,hgb,rfl,hS3,hbl,hx3⟩
 replace hS3:=Lib.hid hS3
 replace hbl:=Lib.hid hbl
 replace hx3:=Lib.hid hx3
 clear q3
 go_wp2_with fail
 have hS3l:=hS3.out.lt
 have s2:=h1.out.own hb2 hgt hgt'
 have s3:=s2.own hx3.out.below hgb hS3l
 have b4:Below w3.heap.size w3 (w3.alloc (.map #[] 0)):=(Below.refl _ _).alloc (Nat.le_refl _) _
 have s4:=s3.own (x:=w3.heap.size) b4 (Nat.le_refl _) (by simp)
 have b5:Below (w3.alloc (.map #[] 0)).heap.size (w3.alloc (.map #[] 0)) ((w3.alloc (.map #[] 0)).alloc (.map #[] 0)):=(Below.refl _ _).alloc (Nat.le_refl _) _
 have s5:=s4.own (x:=w3.heap.size+1) b5 (by simp) (by simp)
 obtain ⟨bx,hbx⟩:∃ bx,bx = Obj.cells #[.pointer (some ⟨sb,0,none⟩),.slice (some ⟨gt,0,none⟩) t.length ct,.slice (some ⟨gb,0,none⟩) t.length t.length,.map (some w3.heap.size),.map (some (w3.heap.size+1))] 144 (0,0):=⟨_,rfl⟩
 rw [←hbx]
 have b6:Below ((w3.alloc (.map #[] 0)).alloc (.map #[] 0)).heap.size ((w3.alloc (.map #[] 0)).alloc (.map #[] 0)) (((w3.alloc (.map #[] 0)).alloc (.map #[] 0)).alloc bx):=(Below.refl _ _).alloc (Nat.le_refl _) _
 have s6:=s5.own (x:=w3.heap.size+1+1) b6 (by simp) (by simp)
 obtain ⟨e1,e2,e3⟩:=alloc3h w3 (.map #[] 0) (.map #[] 0) bx
 have b7:Below w3.heap.size w3 (((w3.alloc (.map #[] 0)).alloc (.map #[] 0)).alloc bx):=((Below.refl _ _).alloc (Nat.le_refl _) _ |>.alloc (by simp) _).alloc (by simp <;> omega) _
 have hm1:MapAt encNat encC (w3.alloc (.map #[] 0)) w3.heap.size (fun _=>none):=mapNew _ _ w3
 have hm2:MapAt encNat encNat ((w3.alloc (.map #[] 0)).alloc (.map #[] 0)) (w3.heap.size+1) (fun _=>none):=by have:=mapNew encNat encNat (w3.alloc (.map #[] 0));simpa using this
 have hm1':=(hm1.same (b5.block _ hm1.lt)).same (b6.block _ (by simp <;> omega))
 have hm2':=hm2.same (b6.block _ hm2.lt)
 have ht7:TreeAt (((w3.alloc (.map #[] 0)).alloc (.map #[] 0)).alloc bx) gt 0 t:=(ht2.out.ext hx3.out).below b7
 have hS7:=hS3.out.below b7
 have hbe:Below w.heap.size w (((w3.alloc (.map #[] 0)).alloc (.map #[] 0)).alloc bx):=hb1.trans ((hb2.trans ((hx3.out.below.trans (b7.mono hx3.out.below.size)).mono hb2.size)).mono hb1.size)
 generalize ((w3.alloc (.map #[] 0)).alloc (.map #[] 0)).alloc bx = w7 at *
 have z1:=hb1.size
 have z2:=hb2.size
 have z3:=hx3.out.below.size
 refine bodyPost_ret (v:=.tuple #[.pointer (some ⟨w3.heap.size+1+1,0,none⟩),.int .i64 0]) (by simp [results,Tryz.results96,go_sem]) rfl
  ⟨w3.heap.size+1+1,gt,ct,gb,w3.heap.size,w3.heap.size+1,f,rfl,s6.fewer (fun y hy=>?_),⟨by rw [e3,hbx],ht7,hS7,hbl.out⟩,hm1',hm2',⟨by omega,by omega,fun y hy=>?_⟩,fun y hy=>?_,hbe⟩
 ·simp only [List.mem_cons] at hy ⊢
  rcases hy with rfl | rfl | rfl | rfl | rfl | hy
  ·exact .inl rfl
  ·exact .inr (.inr (.inr (.inr (.inl rfl))))
  ·exact .inr (.inr (.inr (.inl rfl)))
  ·exact .inr (.inr (.inl rfl))
  ·exact .inr (.inl rfl)
  ·exact .inr (.inr (.inr (.inr (.inr hy))))
 ·simp only [List.mem_cons,List.not_mem_nil,or_false] at hy
  rcases hy with rfl | rfl | rfl | rfl <;> omega
 ·simp only [List.mem_cons,List.not_mem_nil,or_false] at hy
  rcases hy with rfl | rfl | rfl | rfl | rfl <;> omega
end Go.Proofs.YtmnjakejhbpkoaaGreatDoor
end
section
set_option linter.unusedSimpArgs false
set_option linter.unusedVariables false
namespace Go.Proofs.YtmnjakejhbpkoaaGreatDoor
open Go Go.RowKit Go.Shelf
theorem thVars_take {T:List (List Int)} {k:Nat} (hk:k < T.length):L.thVars (T.take (k+1)) = L.clVars (L.thVars (T.take k)) T[k]:=by
 unfold L.thVars
 rw [List.take_succ_eq_append_getElem hk,List.foldl_append]
 rfl
theorem clVars_take {c:List Int} {k:Nat} (s:VSet) (hk:k < c.length):L.clVars s (c.take (k+1)) = withS (L.clVars s (c.take k)) (c[k].natAbs:Int):=by
 unfold L.clVars
 rw [List.take_succ_eq_append_getElem hk,List.foldl_append]
 rfl
theorem varF_valid {n l:Int} (hn:n≤128) (h:L.validB n l = true):varF l = (l.natAbs:Int):=by
 have:=L.validB_range hn h
 unfold varF
 split
 ·omega
 ·split
  ·omega
  ·omega
def cS (s:VSet):Obj:=.cells #[.int .u64 (lo s),.int .u64 (hi s)] 41 (0,0)
theorem cS_zero:cS 0 = .cells #[.int .u64 0,.int .u64 0] 41 (0,0):=by unfold cS;rw [show lo (0:VSet) = 0 from rfl,show hi (0:VSet) = 0 from rfl]
set_option maxRecDepth 100000 in
set_option maxHeartbeats 4000000 in
theorem thVars_any {n:Int} {T:List (List Int)} {v:Value} {w:World} (hv:SlT w v T) (hok:L.thChk n T = 0) :
  Calls Tryz.prog 80 #[.agg #[.int .i64 n,v]] w fun e w'=>e = .returned (encS (L.thVars T))∧Ext w w':=by
 obtain ⟨⟨hn0,hn1⟩,hT,hall⟩:=L.thChk_ok.1 hok
 have qc:=fun W (h:SlT W v T)=>thCheck_any (n:=n) h
 rw [hok] at qc
 obtain ⟨ba,cp,rfl,hv0⟩:=id hv
 obtain ⟨w3,hw3⟩:∃ w3,w3 = ((w.alloc (.cells #[.int .i64 n,.slice ba T.length cp] 24)).alloc (.cells #[.int .u64 0,.int .u64 0] 41)).alloc (.cells #[.int .u64 0,.int .u64 0] 41):=⟨_,rfl⟩
 obtain ⟨e1,e2,e3⟩:=alloc3h w (.cells #[.int .i64 n,.slice ba T.length cp] 24) (.cells #[.int .u64 0,.int .u64 0] 41) (.cells #[.int .u64 0,.int .u64 0] 41)
 have hx3:Ext w w3:=by rw [hw3];exact (((Ext.refl w).alloc _).alloc _).alloc _
 rw [←hw3] at e1 e2 e3
 have q1:=qc w3 (hv.ext hx3.below)
 have c00:w3.cell? ⟨w.heap.size,0,none⟩ = some (.int .i64 n):=by simp [World.cell?,e1]
 have c01:w3.cell? ⟨w.heap.size,1,none⟩ = some (.slice ba T.length cp):=by simp [World.cell?,e1]
 replace e2:=Lib.hid e2
 replace e3:=Lib.hid e3
 replace hx3:=Lib.hid hx3
 replace hall:=Lib.hid hall
 have hcs:∀ j (hj:j < T.length),∃ b o u,ba = some ⟨b,o,none⟩∧w.cell? ⟨b,o+j,none⟩ = some u∧SlI w u T[j]:=fun j hj=>by
  rcases hv0 with ⟨_,rfl,_⟩ | ⟨b,o,rfl,h⟩
  ·simp at hj
  ·obtain ⟨u,h1,h2⟩:=h j hj
   exact ⟨b,o,u,rfl,h1,h2⟩
 replace hcs:=Lib.hid hcs
 clear hv hv0 qc hok
 go_enter Tryz.func80,Tryz.ntmps80
 go_wp2_with fail
 rw [←hw3]
 replace hw3:=Lib.hid hw3
 refine q1.mono ?_
 rintro e w4 ⟨rfl,hx4⟩
 have d01:=hx4.cell c01
 have g2:=hx4.below.block _ (Array.getElem?_eq_some_iff.1 e2.out).1 |>.trans e2.out
 have g3:=hx4.below.block _ (Array.getElem?_eq_some_iff.1 e3.out).1 |>.trans e3.out
 have hxx:=hx3.out.trans hx4
 replace g2:=Lib.hid g2
 replace g3:=Lib.hid g3
 replace hxx:=Lib.hid hxx
 clear q1 c00 c01 e1 e2 e3 hx3 hx4
 go_wp2_with fail
 obtain ⟨Z,hZ⟩:∃ Z,Z = w.heap.size+1:=⟨_,rfl⟩
 rw [←hZ] at g2 g3 ⊢
 replace hZ:=Lib.hid hZ
 go_loopw [15] (fun i wr=>∃ k:Nat,k≤T.length∧i = .int .i64 k∧(wr.heap[Z+1]? = some (cS (L.thVars (T.take k)))∧wr.heap[Z]? = some (.cells #[.int .u64 0,.int .u64 0] 41 (0,0))∧Ext w wr)) (fun i _=>T.length - (intOf i).toNat)
 case atStart=>exact ⟨0,Nat.zero_le _,rfl,g3.out.trans (congrArg some cS_zero.symm),g2.out,hxx.out⟩
 case round =>
  obtain ⟨k,hk,rfl,hH,hz,hx⟩:=hrel
  clear d01 g2 g3 hxx
  by_cases hlt:k < T.length
  ·obtain ⟨b,o,u,rfl,f1,f2⟩:=hcs.out k hlt
   have f1:=hx.cell f1
   obtain ⟨bb,cc,rfl,f2⟩:=f2
   obtain ⟨hc1,hc2⟩:=hall.out _ (List.getElem_mem hlt)
   have hnx:=thVars_take hlt
   generalize hS0:L.thVars (T.take k) = s0 at *
   generalize hcT:T[k] = c at *
   have f3:∀ j (hj:j < c.length),∃ b o,bb = some ⟨b,o,none⟩∧w.cell? ⟨b,o+j,none⟩ = some (.int .i64 c[j]):=fun j hj=>by
    rcases f2 with ⟨_,rfl,_⟩ | ⟨b,o,h1,h2⟩
    ·simp at hj
    ·exact ⟨b,o,h1,h2 j hj⟩
   replace f3:=Lib.hid f3
   replace hnx:=Lib.hid hnx
   replace hS0:=Lib.hid hS0
   replace hcT:=Lib.hid hcT
   replace hc2:=Lib.hid hc2
   replace hH:=Lib.hid hH
   replace hz:=Lib.hid hz
   replace hx:=Lib.hid hx
   clear f2 hcs hw3 hall
   go_wp2_with fail
   go_loopw [21] (fun i wr=>∃ m:Nat,m≤c.length∧i = .int .i64 m∧(wr.heap[Z+1]? = some (cS (L.clVars s0 (c.take m)))∧wr.heap[Z]? = some (.cells #[.int .u64 0,.int .u64 0] 41 (0,0))∧Ext w wr)) (fun i _=>c.length - (intOf i).toNat)
   case atStart=>exact ⟨0,Nat.zero_le _,rfl,hH.out,hz.out,hx.out⟩
   case round =>
    obtain ⟨m,hm,rfl,hH,hz,hx⟩:=hrel
    by_cases hlt2:m < c.length
    ·obtain ⟨b2,o2,rfl,f4⟩:=f3.out m hlt2
     have f4:=hx.cell f4
     have hval:=varF_valid hn1 (hc2.out _ (List.getElem_mem hlt2))
     have hnx2:=clVars_take s0 hlt2
     rw [←hval] at hnx2
     replace hval:=Lib.hid hval
     generalize L.clVars s0 (c.take m) = s1 at *
     generalize c[m] = x at *
     have c0:wr.cell? ⟨Z+1,0,none⟩ = some (.int .u64 (lo s1)):=by simp [World.cell?,hH,cS]
     have c1:wr.cell? ⟨Z+1,1,none⟩ = some (.int .u64 (hi s1)):=by simp [World.cell?,hH,cS]
     have hsz:Z+1 < wr.heap.size:=World.block_lt_of_cell? wr _ c0
     have qv:=fun W=>var_any x W
     generalize varF x = y at *
     have qw:=fun W=>with_any s1 y W
     unfold encS at qw
     replace qv:=Lib.hid qv
     replace qw:=Lib.hid qw
     replace hnx2:=Lib.hid hnx2
     replace hH:=Lib.hid hH
     replace hz:=Lib.hid hz
     replace hx:=Lib.hid hx
     go_wp2_with fail
     (refine wp_region_z (S:=(fun V=>V.cell? ⟨Z+1,0,none⟩ = some (.int .u64 (lo s1))∧V.cell? ⟨Z+1,1,none⟩ = some (.int .u64 (hi s1)))) 4 (by kernel_rfl) ?_ (fun hHeld=>?_))
     ·exact ⟨c0,c1⟩
     (refine wpZ_take (i:=0) (v:=?_) rfl (by kernel_rfl) (by decide) (by kernel_rfl) (by kernel_rfl) (by kernel_rfl) (fun _ _ _ h=>h) (Or.inl ⟨by rfl,?_⟩) (by assumption) ?_)
     rotate_left
     ·(intro w hSw;(try dsimp only at hSw);obtain ⟨r0,r1⟩:=hSw;go_simp;first | done | with_reducible rfl)
     (try simp only [Act.put,List.setIfInBounds_toArray,List.set_cons_zero,List.set_cons_succ])
     (refine wpZ_take (i:=1) (v:=?_) rfl (by kernel_rfl) (by decide) (by kernel_rfl) (by kernel_rfl) (by kernel_rfl) (fun _ _ _ h=>h) (Or.inl ⟨by rfl,?_⟩) (by assumption) ?_)
     rotate_left
     ·(intro w hSw;(try dsimp only at hSw);skip;go_simp;first | done | with_reducible rfl)
     (try simp only [Act.put,List.setIfInBounds_toArray,List.set_cons_zero,List.set_cons_succ])
     (refine wpZ_one (i:=2) (by kernel_rfl) rfl (fun K hK=>?_))
     ((rw [if_pos (by rfl)]);go_simp;(go_at_call 143);refine (qv.out _).mono ?_;rintro e v1 ⟨rfl,rfl⟩;refine hK.out _ _ hHeld (fun hHeld=>?_))
     (clear hK K)
     (try simp only [Act.put,List.setIfInBounds_toArray,List.set_cons_zero,List.set_cons_succ])
     (refine wpZ_one (i:=3) (by kernel_rfl) rfl (fun K hK=>?_))
     ((rw [if_pos (by rfl)]);go_simp;(go_at_call 113);refine (qw.out _).mono ?_;rintro e v2 ⟨rfl,hv2⟩;refine hK.out _ _ ⟨hv2.cell hHeld.1,hv2.cell hHeld.2⟩ (fun hHeld=>?_))
     (clear hK K)
     (try simp only [Act.put,List.setIfInBounds_toArray,List.set_cons_zero,List.set_cons_succ])
     have hv2':Ext wr v2:=((Ext.refl wr).drew).trans hv2
     have hH2:=(hv2'.below.block _ hsz).trans hH.out
     have hz2:=(hv2'.below.block _ (by omega)).trans hz.out
     have z0:v2.cell? ⟨Z+1,0,none⟩ = some (.int .u64 (lo s1)):=hHeld.1
     have z1:v2.cell? ⟨Z+1,1,none⟩ = some (.int .u64 (hi s1)):=hHeld.2
     have y0:v2.frozen? ⟨Z+1,0,none⟩ = false:=by simp [World.frozen?,hH2,cS]
     have y1:v2.frozen? ⟨Z+1,1,none⟩ = false:=by simp [World.frozen?,hH2,cS]
     have hws:w.heap.size≤Z+1:=by have:=hZ.out;omega
     have hend:Hid (((v2.setCell ⟨Z+1,0,none⟩ (.int .u64 (lo (withS s1 y)))).setCell ⟨Z+1,1,none⟩ (.int .u64 (hi (withS s1 y)))).heap[Z+1]? = some (cS (L.clVars s0 (c.take (m+1))))∧((v2.setCell ⟨Z+1,0,none⟩ (.int .u64 (lo (withS s1 y)))).setCell ⟨Z+1,1,none⟩ (.int .u64 (hi (withS s1 y)))).heap[Z]? = some (.cells #[.int .u64 0,.int .u64 0] 41 (0,0))∧Ext w ((v2.setCell ⟨Z+1,0,none⟩ (.int .u64 (lo (withS s1 y)))).setCell ⟨Z+1,1,none⟩ (.int .u64 (hi (withS s1 y))))):=Lib.hid ⟨by
      rw [hnx2.out];exact heap_set2 hH2 _ _,((Below.heap_setCell _ _ _ _ (by simp)).trans (Below.heap_setCell _ _ _ _ (by simp))).trans hz2,((hx.out.trans hv2').setCell hws _).setCell hws _⟩
     clear hHeld hv2 hv2' hH2 hz2 c0 c1 f1 f4 hws
     (refine wpZ_last (by kernel_rfl) rfl (by kernel_rfl) (fun K hK=>?_))
     ((rw [if_pos (by rfl)]);go_simp;refine hK.out _ _ ?_)
     (clear hK K)
     (try simp only [Act.put,List.setIfInBounds_toArray,List.set_cons_zero,List.set_cons_succ])
     go_wp2_with fail
     exact ⟨⟨m+1,by omega,rfl,hend.out⟩,by simp [intOf];omega⟩
    ·obtain rfl:m = c.length:=by omega
     rw [List.take_length] at hH
     replace hH:=Lib.hid hH
     replace hz:=Lib.hid hz
     replace hx:=Lib.hid hx
     go_wp2_with fail
     exact ⟨⟨k+1,by omega,rfl,by rw [hnx.out];exact hH.out,hz.out,hx.out⟩,by simp [intOf];omega⟩
  ·obtain rfl:k = T.length:=by omega
   rw [List.take_length] at hH
   obtain ⟨s0,hs0⟩:∃ s0,s0 = L.thVars T:=⟨_,rfl⟩
   rw [←hs0] at hH
   replace hs0:=Lib.hid hs0
   have c0:wr.cell? ⟨Z+1,0,none⟩ = some (.int .u64 (lo s0)):=by simp [World.cell?,hH,cS]
   have c1:wr.cell? ⟨Z+1,1,none⟩ = some (.int .u64 (hi s0)):=by simp [World.cell?,hH,cS]
   have z0:wr.cell? ⟨Z,0,none⟩ = some (.int .u64 0):=by simp [World.cell?,hz]
   have z1:wr.cell? ⟨Z,1,none⟩ = some (.int .u64 0):=by simp [World.cell?,hz]
   have y0:wr.frozen? ⟨Z,0,none⟩ = false:=by simp [World.frozen?,hz]
   have y1:wr.frozen? ⟨Z,1,none⟩ = false:=by simp [World.frozen?,hz]
   have hws:w.heap.size≤Z:=by have:=hZ.out;omega
   have r0:((wr.setCell ⟨Z,0,none⟩ (.int .u64 (lo s0))).setCell ⟨Z,1,none⟩ (.int .u64 (hi s0))).cell? ⟨Z,0,none⟩ = some (.int .u64 (lo s0)):=by
    rw [World.cell?,heap_set2 hz];rfl
   have r1:((wr.setCell ⟨Z,0,none⟩ (.int .u64 (lo s0))).setCell ⟨Z,1,none⟩ (.int .u64 (hi s0))).cell? ⟨Z,1,none⟩ = some (.int .u64 (hi s0)):=by
    rw [World.cell?,heap_set2 hz];rfl
   have hxe:Ext w ((wr.setCell ⟨Z,0,none⟩ (.int .u64 (lo s0))).setCell ⟨Z,1,none⟩ (.int .u64 (hi s0))):=(hx.setCell hws _).setCell hws _
   replace hxe:=Lib.hid hxe
   replace hH:=Lib.hid hH
   replace hz:=Lib.hid hz
   replace hx:=Lib.hid hx
   replace r0:=Lib.hid r0
   replace r1:=Lib.hid r1
   go_wp2_with fail
   exact bodyPost_ret (v:=encS s0) (by simp [results,Tryz.results80,go_sem,r0.out,r1.out,encS]) rfl ⟨by rw [hs0.out],hxe.out⟩
end Go.Proofs.YtmnjakejhbpkoaaGreatDoor
end
section
set_option linter.unusedSimpArgs false
set_option linter.unusedVariables false
namespace Go.Proofs.YtmnjakejhbpkoaaGreatDoor
open Go Go.RowKit Go.Shelf
def subS (a b:VSet):Bool:=decide (a &&& ~~~b = 0)
theorem subS_iff (a b:VSet):subS a b = true↔∀ u,hasS a u = true→hasS b u = true:=by
 unfold subS
 rw [decide_eq_true_iff]
 constructor
 ·intro h u hu
  obtain ⟨u1,u2⟩:=L.hasS_range hu
  obtain ⟨i,hi,rfl⟩:∃ i:Nat,i < 128∧u = (i:Int)+1:=⟨(u - 1).toNat,by omega,by omega⟩
  rw [L.hasS_bit _ _ hi] at hu ⊢
  have:=congrArg (fun x:VSet=>x.getLsbD i) h
  simp only [BitVec.getLsbD_and,BitVec.getLsbD_not,hi,decide_true,Bool.true_and,hu,BitVec.getLsbD_zero] at this
  simpa using this
 ·intro h
  refine L.set_ext fun i hi=>?_
  have e0:(0:VSet).getLsbD i = false:=BitVec.getLsbD_zero
  rw [e0,BitVec.getLsbD_and,BitVec.getLsbD_not]
  have:=h ((i:Int)+1)
  rw [L.hasS_bit _ _ hi,L.hasS_bit _ _ hi] at this
  cases ha:a.getLsbD i
  ·rfl
  ·rw [this ha];simp
theorem lohi_zero (a:VSet):(decide (lo a = 0) && decide (hi a = 0)) = decide (a = 0):=by
 rw [Bool.eq_iff_iff]
 simp only [Bool.and_eq_true,decide_eq_true_eq]
 constructor
 ·rintro ⟨h1,h2⟩
  refine L.set_ext fun i hi=>?_
  have e0:(0:VSet).getLsbD i = false:=BitVec.getLsbD_zero
  rw [e0]
  have z1:a.setWidth 64 = 0:=by
   apply BitVec.eq_of_toNat_eq
   have h3:(((a.setWidth 64).toNat:Nat):Int) = 0:=h1
   show (a.setWidth 64).toNat = 0
   omega
  have z2:(a >>> 64).setWidth 64 = 0:=by
   apply BitVec.eq_of_toNat_eq
   have h3:((((a >>> 64).setWidth 64).toNat:Nat):Int) = 0:=h2
   show ((a >>> 64).setWidth 64).toNat = 0
   omega
  by_cases h64:i < 64
  ·have:=congrArg (fun x:BitVec 64=>x.getLsbD i) z1
   simpa [BitVec.getLsbD_setWidth,h64] using this
  ·have:=congrArg (fun x:BitVec 64=>x.getLsbD (i - 64)) z2
   simp only [BitVec.getLsbD_setWidth,BitVec.getLsbD_ushiftRight] at this
   rw [show 64+(i - 64) = i by omega] at this
   simpa [show i - 64 < 64 by omega] using this
 ·rintro rfl;exact ⟨by rfl,by rfl⟩
set_option maxRecDepth 100000 in
set_option maxHeartbeats 1000000 in
theorem varsSub_any (a b:VSet) (w:World):Calls Tryz.prog 111 #[encS a,encS b] w fun e w'=>e = .returned (.bool (subS a b))∧Ext w w':=by
 have hz:=lohi_zero (a &&& ~~~b)
 have hq:=fun w=>minus_any a b w
 unfold encS at hq ⊢
 unfold subS
 rw [←hz]
 clear hz
 have hx:=((Ext.refl w).alloc (.cells #[.int .u64 (lo a),.int .u64 (hi a)] 41)).alloc (.cells #[.int .u64 (lo b),.int .u64 (hi b)] 41)
 go_enter Tryz.func111,Tryz.ntmps111
 go_wp2_with fail
 refine (hq _).mono ?_
 rintro e w1 ⟨rfl,hx1⟩
 generalize hx0:lo (a &&& ~~~b) = x at *
 generalize hx1':hi (a &&& ~~~b) = y at *
 have hse:=setEqD x y 0 0
 go_wp2_with fail
 go_ret
 exact ⟨by rw [hx0,hx1'] <;> rfl,hx.trans hx1⟩
end Go.Proofs.YtmnjakejhbpkoaaGreatDoor
end
section
set_option linter.unusedSimpArgs false
set_option linter.unusedVariables false
namespace Go.Proofs.YtmnjakejhbpkoaaGreatDoor
open Go Go.RowKit Go.Shelf
def allK:Nat→VSet
 | 0=>0
 | k+1=>withS (allK k) ((k:Int)+1)
theorem hasS_allK (v:Int):∀ n,n≤128→(hasS (allK n) v = true↔1≤v∧v≤n)
 | 0,_=>by
   rw [allK,L.hasS_zero]
   exact ⟨fun h=>(by cases h),fun h=>by omega⟩
 | n+1,hn=>by
   rw [allK,L.hasS_with,Bool.or_eq_true,hasS_allK v n (by omega)]
   simp only [Bool.and_eq_true,decide_eq_true_eq]
   omega
theorem hasS_and (a b:VSet) (v:Int):hasS (a &&& b) v = (hasS a v && hasS b v):=by
 unfold hasS
 rw [BitVec.getLsbD_and]
 cases decide (1≤v) <;> cases decide (v≤128) <;> simp
theorem thφ_take {T:List (List Int)} {x:L.Asg} {k:Nat} (hk:k < T.length):L.thφ (T.take (k+1)) x = (L.thφ (T.take k) x && L.clφ T[k] x):=by
 rw [List.take_succ_eq_append_getElem hk,L.thφ_snoc]
end Go.Proofs.YtmnjakejhbpkoaaGreatDoor
end
