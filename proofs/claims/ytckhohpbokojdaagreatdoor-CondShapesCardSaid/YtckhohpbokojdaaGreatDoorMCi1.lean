import Derived.Test.YtckhohpbokojdaaGreatDoorMBase
import Derived.Test.YtckhohpbokojdaaGreatDoorMVars
import Derived.Test.YtckhohpbokojdaaGreatDoorMReg
import Derived.Laws.IdiomStrings
import Derived.LoopN
import Derived.Laws.CopyOwn
import Derived.Laws.IdiomCopy
import Derived.Test.YtckhohpbokojdaaGreatDoorMThy
import Derived.Test.YtckhohpbokojdaaGreatDoorMRegz
import Derived.Test.YtckhohpbokojdaaGreatDoorMLaw11
import Derived.Test.YtckhohpbokojdaaGreatDoorMRef3
import Derived.Test.YtckhohpbokojdaaGreatDoorMAdd
import Derived.ChangeKeysEq
import Derived.Laws.EntriesVeiled
import Derived.Test.YtckhohpbokojdaaGreatDoorMLaw17
section
set_option linter.unusedSimpArgs false
set_option linter.unusedVariables false
namespace Go.Proofs.YtckhohpbokojdaaGreatDoor.L
def g1 (A x:Nat):Nat:=(x / 2 &&& A)+(x &&& A)
def g2 (A x:Nat):Nat:=(x / 4 &&& A)+(x &&& A)
def g3 (A x:Nat):Nat:=(x / 16+x) &&& A
theorem t1:((List.range 512).all fun k=>((k % 256 / 2+128 * (k / 256)) &&& 0x55) == (k % 256 / 2 &&& 0x55)) = true:=by decide +kernel
theorem t2:((List.range 1024).all fun k=>((k % 256 / 4+64 * (k / 256)) &&& 0x33) == (k % 256 / 4 &&& 0x33)) = true:=by decide +kernel
theorem t3:((List.range 2048).all fun k=>!(decide (k % 256 % 16≤4) && decide (k % 256 / 16≤4) && decide (k / 256≤4)) || (((k % 256 / 16+16 * (k / 256)+k % 256) &&& 0x0f) == ((k % 256 / 16+k % 256) &&& 0x0f))) = true:=by decide +kernel
def pop8 (u:Nat):Nat:=((List.range 8).filter fun i=>u.testBit i).length
theorem t4:((List.range 256).all fun u=>decide (g1 0x55 u < 256) && (decide (g2 0x33 (g1 0x55 u) < 256) && (decide (g2 0x33 (g1 0x55 u) % 16≤4) && (decide (g2 0x33 (g1 0x55 u) / 16≤4) && (g3 0x0f (g2 0x33 (g1 0x55 u)) == pop8 u))))) = true:=by decide +kernel
end Go.Proofs.YtckhohpbokojdaaGreatDoor.L
end
section
set_option linter.unusedSimpArgs false
set_option linter.unusedVariables false
namespace Go.Proofs.YtckhohpbokojdaaGreatDoor
open Go Go.RowKit Go.Shelf
def RowF (w:World) (b:Nat) (ty:TypeId) (n:Nat) (f:Nat→Value):Prop:=∃ c,w.heap[b]? = some (.cells c ty (0,0))∧c.size = n∧∀ j,j < n→c[j]? = some (f j)
def putF (f:Nat→Value) (i:Nat) (v:Value):Nat→Value:=fun j=>if j = i then v else f j
section
variable {w w':World} {b n:Nat} {ty:TypeId} {f:Nat→Value}
theorem RowF.cell (h:RowF w b ty n f) {j:Nat} (hj:j < n):w.cell? ⟨b,j,none⟩ = some (f j)∧w.frozen? ⟨b,j,none⟩ = false:=by
 obtain ⟨c,h1,h2,h3⟩:=h
 have h4:=h3 j hj
 simp [World.cell?,World.frozen?,h1,h4]
theorem RowF.same (h:RowF w b ty n f) (hs:w'.heap[b]? = w.heap[b]?):RowF w' b ty n f:=by
 obtain ⟨c,h1,h2⟩:=h
 exact ⟨c,hs.trans h1,h2⟩
theorem RowF.lt (h:RowF w b ty n f):b < w.heap.size:=by
 obtain ⟨c,h1,_⟩:=h
 exact (Array.getElem?_eq_some_iff.1 h1).1
theorem RowF.ext (h:RowF w b ty n f) (hs:Ext w w'):RowF w' b ty n f:=h.same (hs.below.block b h.lt)
theorem RowF.below (h:RowF w b ty n f) (hs:Below w.heap.size w w'):RowF w' b ty n f:=h.same (hs.block b h.lt)
theorem RowF.set (h:RowF w b ty n f) (i:Nat) (v:Value):RowF (w.setCell ⟨b,i,none⟩ v) b ty n (putF f i v):=by
 obtain ⟨c,h1,h2,h3⟩:=h
 refine ⟨_,heap_set h1 _ _,by simpa using h2,fun j hj=>?_⟩
 have h4:=h3 j hj
 unfold putF
 by_cases hij:j = i
 ·subst hij
  rw [if_pos rfl,Array.getElem?_setIfInBounds,if_pos rfl,if_pos (by omega)]
 ·rw [if_neg hij,Array.getElem?_setIfInBounds,if_neg (by omega)];exact h4
theorem RowF.congr {g:Nat→Value} (h:RowF w b ty n f) (hg:∀ j,j < n→f j = g j):RowF w b ty n g:=by
 obtain ⟨c,h1,h2,h3⟩:=h
 exact ⟨c,h1,h2,fun j hj=>by rw [h3 j hj,hg j hj]⟩
end
theorem rowNew (w:World) (n:Nat) (z:Value) (ty:TypeId) (ad:Nat) (ha:ad = w.heap.size):RowF (w.alloc (.cells (madeCells #[z] n) ty)) ad ty n (fun _=>z):=by
 refine ⟨_,(by subst ha;exact heap_alloc_new w _),by simp [madeCells],fun j hj=>?_⟩
 simp [madeCells,hj,Nat.mod_one]
theorem make_row {sl el:TypeId} {z:Value} {by_:Nat} (h1:Tryz.prog.underlying sl = some (.slice el)) (h2:(Tryz.prog.info? el).map (fun i=>(i.zero,i.size,i.bytes)) = some (some z,1,by_)) (hz:z.cells = #[z]) (n:Nat) (hn:n≤1048576) (hb:by_≤64) (w:World) :
  (Instr.makeSlice sl (.int .i64 n) (.int .i64 n)).run Tryz.prog w = .ok (.slice (some ⟨w.heap.size,0,none⟩) n n) (w.alloc (.cells (madeCells #[z] n) el)):=by
 obtain ⟨i,hi,hz1,hs,hb1⟩:=info_parts h2
 have hr:=run_make (P:=Tryz.prog) w sl el i _ h1 hi hz1 .i64 .i64 n n (by omega) (Int.le_refl _) (by rw [hb1];have h1:by_ * n≤64 * 1048576:=Nat.mul_le_mul hb hn;have h2:n * by_ = by_ * n:=Nat.mul_comm _ _;omega) (by omega)
 rw [hs,hz,Nat.mul_one] at hr
 exact hr
end Go.Proofs.YtckhohpbokojdaaGreatDoor
end
section
set_option linter.unusedSimpArgs false
set_option linter.unusedVariables false
namespace Go.Proofs.YtckhohpbokojdaaGreatDoor
open Go Go.RowKit Go.Shelf
theorem alloc2h (w:World) (o1 o2:Obj):((w.alloc o1).alloc o2).heap[w.heap.size]? = some o1∧((w.alloc o1).alloc o2).heap[w.heap.size+1]? = some o2 :=
 ⟨(Below.heap_alloc _ _ _ (by simp)).trans (heap_alloc_new w o1),by have:=heap_alloc_new (w.alloc o1) o2;simpa using this⟩
theorem alloc3h (w:World) (o1 o2 o3:Obj):(((w.alloc o1).alloc o2).alloc o3).heap[w.heap.size]? = some o1∧(((w.alloc o1).alloc o2).alloc o3).heap[w.heap.size+1]? = some o2∧(((w.alloc o1).alloc o2).alloc o3).heap[w.heap.size+1+1]? = some o3 :=
 ⟨(Below.heap_alloc _ _ _ (by simp <;> omega)).trans (alloc2h w o1 o2).1,(Below.heap_alloc _ _ _ (by simp <;> omega)).trans (alloc2h w o1 o2).2,by have:=heap_alloc_new ((w.alloc o1).alloc o2) o3;simpa using this⟩
end Go.Proofs.YtckhohpbokojdaaGreatDoor
end
section
set_option linter.unusedSimpArgs false
set_option linter.unusedVariables false
namespace Go.Proofs.YtckhohpbokojdaaGreatDoor
open Go Go.RowKit Go.Shelf
def cS (s:VSet):Obj:=.cells #[.int .u64 (lo s),.int .u64 (hi s)] 37 (0,0)
end Go.Proofs.YtckhohpbokojdaaGreatDoor
end
section
set_option linter.unusedSimpArgs false
set_option linter.unusedVariables false
namespace Go.Proofs.YtckhohpbokojdaaGreatDoor
open Go Go.RowKit Go.Shelf
set_option maxRecDepth 100000 in
set_option maxHeartbeats 1000000 in
theorem indexFunc_any {fm:Nat} {q:Value} (hKf:∀ (c:Array Value) (w:World),(callFunc fm c).run Tryz.prog w = .ok (.enter fm c) w) (I:World→Prop) {p:Int→Bool} {l:List Int} {v:Value} {w:World} (hv:∀ W,I W→SlI W v l) (hl:l.length≤9223372036854775807) (h0:I w)
  (hc:∀ (j:Nat) (hj:j < l.length) (W:World),I W→Calls Tryz.prog fm #[.int .i64 l[j],q] W fun e W'=>e = .returned (.bool (p l[j]))∧I W') :
  Calls Tryz.prog 73 #[v,.func (.func fm) #[] #[q]] w fun e w'=>∃ z:Int,e = .returned (.int .i64 z)∧decide (0≤z) = l.any p∧I w':=by
 obtain ⟨ba,cp,rfl,_⟩:=hv w h0
 have hcell:∀ W,I W→∀ j (hj:j < l.length),∃ b o,ba = some ⟨b,o,none⟩∧W.cell? ⟨b,o+j,none⟩ = some (.int .i64 l[j]):=fun W hI j hj=>by
  obtain ⟨ba',cp',e,h⟩:=hv W hI
  cases e
  rcases h with ⟨_,rfl,_⟩ | ⟨b,o,h1,h2⟩
  ·simp at hj
  ·exact ⟨b,o,h1,h2 j hj⟩
 replace hcell:=Lib.hid hcell
 replace hc:=Lib.hid hc
 replace h0:=Lib.hid h0
 clear hv
 go_enter Tryz.func73,Tryz.ntmps73
 go_wp2_with fail
 go_loopw [5,8] (fun _ i wr=>∃ k:Nat,k≤l.length∧i = .int .i64 k∧I wr∧∀ j (hj:j < l.length),j < k→p l[j] = false) (fun _ i _=>l.length - (intOf i).toNat)
 case atStart=>exact ⟨0,Nat.zero_le _,rfl,h0.out,fun j _ h=>absurd h (Nat.not_lt_zero _)⟩
 case round =>
  obtain ⟨k,hk,rfl,hI,hno⟩:=hrel
  by_cases hlt:k < l.length
  ·obtain ⟨b,o,rfl,f1⟩:=hcell.out wr hI k hlt
   have q1:=hc.out k hlt wr hI
   have hany:p l[k] = true→l.any p = true:=fun h=>List.any_eq_true.2 ⟨_,List.getElem_mem hlt,h⟩
   have hnext:p l[k] = false→∀ j (hj:j < l.length),j < k+1→p l[j] = false:=fun h j hj hjk=>by
    by_cases e:j = k
    ·subst e;exact h
    ·exact hno j hj (by omega)
   generalize l[k] = x at *
   replace hI:=Lib.hid hI
   replace hno:=Lib.hid hno
   replace hnext:=Lib.hid hnext
   replace hany:=Lib.hid hany
   cases hp:p x
   ·rw [hp] at q1
    go_wp2_with fail
    refine q1.mono ?_
    rintro e w2 ⟨rfl,hI2⟩
    have hn2:=hnext.out hp
    replace hI2:=Lib.hid hI2
    replace hn2:=Lib.hid hn2
    clear q1
    go_wp2_with fail
    go_roundw
    case rel=>exact ⟨k+1,by omega,by go_num,hI2.out,hn2.out⟩
    case measure=>simp [intOf];omega
   ·rw [hp] at q1
    go_wp2_with fail
    refine q1.mono ?_
    rintro e w2 ⟨rfl,hI2⟩
    replace hI2:=Lib.hid hI2
    clear q1
    go_wp2_with fail
    go_ret
    exact ⟨k,rfl,by rw [hany.out hp];exact decide_eq_true (by omega),hI2.out⟩
  ·obtain rfl:k = l.length:=by omega
   have hf:l.any p = false:=by
    rw [List.any_eq_false]
    intro x hx
    obtain ⟨j,hj,rfl⟩:=List.getElem_of_mem hx
    simp [hno j hj hj]
   replace hI:=Lib.hid hI
   replace hno:=Lib.hid hno
   replace hf:=Lib.hid hf
   go_wp2_with fail
   go_ret
   exact ⟨-1,rfl,by rw [hf.out];rfl,hI.out⟩
set_option maxRecDepth 100000 in
set_option maxHeartbeats 1000000 in
theorem containsFunc_any {fm:Nat} {q:Value} (hKf:∀ (c:Array Value) (w:World),(callFunc fm c).run Tryz.prog w = .ok (.enter fm c) w) (I:World→Prop) {p:Int→Bool} {l:List Int} {v:Value} {w:World} (hv:∀ W,I W→SlI W v l) (hl:l.length≤9223372036854775807) (h0:I w)
  (hc:∀ (j:Nat) (hj:j < l.length) (W:World),I W→Calls Tryz.prog fm #[.int .i64 l[j],q] W fun e W'=>e = .returned (.bool (p l[j]))∧I W') :
  Calls Tryz.prog 49 #[v,.func (.func fm) #[] #[q]] w fun e w'=>e = .returned (.bool (l.any p))∧I w':=by
 have q1:=indexFunc_any hKf I hv hl h0 hc
 obtain ⟨ba,cp,rfl,_⟩:=hv w h0
 replace hv:=Lib.hid hv
 replace hc:=Lib.hid hc
 replace h0:=Lib.hid h0
 generalize l.any p = B at *
 go_enter Tryz.func49,Tryz.ntmps49
 go_wp2_with fail
 refine q1.mono ?_
 rintro e w2 ⟨z,rfl,hz,hI⟩
 have hz2:decide (z≥0) = B:=hz
 replace hI:=Lib.hid hI
 clear q1
 go_wp2_with fail
 go_ret
 exact ⟨by first | rfl | (rw [←hz] <;> rfl),hI.out⟩
end Go.Proofs.YtckhohpbokojdaaGreatDoor
end
section
set_option linter.unusedSimpArgs false
set_option linter.unusedVariables false
namespace Go.Proofs.YtckhohpbokojdaaGreatDoor
open Go Go.RowKit Go.Shelf
def SlC (w:World) (v:Value) (C:List L.Gt):Prop :=
 ∃ ba c,v = .slice ba C.length c∧(C = []∨∃ b o,ba = some ⟨b,o,none⟩∧∀ j (hj:j < C.length),w.cell? ⟨b,o+j * 3,none⟩ = some (.int .i64 C[j].kind)∧w.cell? ⟨b,o+j * 3+1,none⟩ = some (.int .i64 C[j].lit)∧∃ u,w.cell? ⟨b,o+j * 3+2,none⟩ = some u∧SlI w u C[j].inp)
theorem SlC.ext {w w':World} {v:Value} {C:List L.Gt} (h:SlC w v C) (hb:Below w.heap.size w w'):SlC w' v C:=by
 obtain ⟨ba,c,rfl,h⟩:=h
 refine ⟨ba,c,rfl,h.imp id ?_⟩
 rintro ⟨b,o,rfl,hc⟩
 exact ⟨b,o,rfl,fun j hj=>by
  obtain ⟨h1,h2,u,h3,h4⟩:=hc j hj
  exact ⟨(hb.cell (World.block_lt_of_cell? w _ h1)).trans h1,(hb.cell (World.block_lt_of_cell? w _ h2)).trans h2,u,(hb.cell (World.block_lt_of_cell? w _ h3)).trans h3,h4.ext hb⟩⟩
theorem SlC.shape {w:World} {v:Value} {C:List L.Gt} (h:SlC w v C):∃ ba c,v = .slice ba C.length c∧∀ j (hj:j < C.length),∃ b o bb cc,ba = some ⟨b,o,none⟩∧w.cell? ⟨b,o+j * 3,none⟩ = some (.int .i64 C[j].kind)∧w.cell? ⟨b,o+j * 3+1,none⟩ = some (.int .i64 C[j].lit)∧w.cell? ⟨b,o+j * 3+2,none⟩ = some (.slice bb C[j].inp.length cc)∧SlI w (.slice bb C[j].inp.length cc) C[j].inp:=by
 obtain ⟨ba,c,rfl,h⟩:=h
 refine ⟨ba,c,rfl,fun j hj=>?_⟩
 rcases h with rfl | ⟨b,o,rfl,h⟩
 ·simp at hj
 ·obtain ⟨h1,h2,u,h3,h4⟩:=h j hj
  obtain ⟨bb,cc,e,_⟩:=id h4
  subst e
  exact ⟨b,o,bb,cc,rfl,h1,h2,h3,h4⟩
end Go.Proofs.YtckhohpbokojdaaGreatDoor
end
