import Derived.Test.YtemnmcfmabamcaaGreatDoorXVs8
import Derived.Test.YtemnmcfmabamcaaGreatDoorXVs12
import Derived.Test.YtemnmcfmabamcaaGreatDoorXVb
import Derived.Test.YtemnmcfmabamcaaGreatDoorXVpost
section
set_option linter.unusedSimpArgs false
set_option linter.unusedVariables false
namespace Go.Proofs.YtemnmcfmabamcaaGreatDoor
open Go Go.RowKit Go.Shelf
def MvAt (w:World) (v:Value) (ms:List (Nat × Nat)):Prop:=∃ (ba:Option Addr) (cp:Nat),v = .slice ba ms.length cp∧(ms = []∨∃ g,ba = some ⟨g,0,none⟩∧g < w.heap.size∧∀ j (hj:j < ms.length),w.cell? ⟨g,j * 2,none⟩ = some (.int .i64 (ms[j].1:Nat))∧w.cell? ⟨g,j * 2+1,none⟩ = some (.int .i64 (ms[j].2:Nat)))
theorem MvAt.below {w w':World} {v:Value} {ms:List (Nat × Nat)} (h:MvAt w v ms) (hb:Below w.heap.size w w'):MvAt w' v ms:=by
 obtain ⟨ba,cp,rfl,h | ⟨g,rfl,hg,hc⟩⟩:=h
 ·exact ⟨ba,cp,rfl,.inl h⟩
 ·exact ⟨_,cp,rfl,.inr ⟨g,rfl,Nat.lt_of_lt_of_le hg hb.size,fun j hj=>⟨(hb.cell (show (⟨g,j * 2,none⟩:Addr).block < w.heap.size from hg)).trans (hc j hj).1,(hb.cell (show (⟨g,j * 2+1,none⟩:Addr).block < w.heap.size from hg)).trans (hc j hj).2⟩⟩⟩
theorem own_moves {w:World} {N n:Nat} {v:Value} {ms:List (Nat × Nat)} (h:w.ownsRow N 45 2 v n (movesV ms)) (hn:n = ms.length):MvAt w v ms:=by
 subst hn
 rcases row_shape h with ⟨e,h0⟩ | ⟨g,cp,rfl⟩
 ·exact ⟨none,0,by rw [h0];exact e,.inl (List.eq_nil_of_length_eq_zero h0)⟩
 ·refine ⟨_,cp,rfl,.inr ⟨g,rfl,(own_lt h rfl).1,fun j hj=>?_⟩⟩
  obtain ⟨h1,h2⟩:=movesV_at ms j hj
  exact ⟨by rw [h.cellAt (j * 2) (by omega),h1],by rw [h.cellAt (j * 2+1) (by omega),h2]⟩
theorem MvAt.some {w:World} {v:Value} {ms:List (Nat × Nat)} (h:MvAt w v ms) (h0:0 < ms.length):∃ g cp,v = .slice (some ⟨g,0,none⟩) ms.length cp∧g < w.heap.size∧∀ j (hj:j < ms.length),w.cell? ⟨g,j * 2,none⟩ = some (.int .i64 (ms[j].1:Nat))∧w.cell? ⟨g,j * 2+1,none⟩ = some (.int .i64 (ms[j].2:Nat)):=by
 obtain ⟨ba,cp,rfl,h | ⟨g,rfl,hg,hc⟩⟩:=h
 ·rw [h] at h0;simp at h0
 ·exact ⟨g,cp,rfl,hg,hc⟩
theorem mvEq (a b c d:Int) (w:World):(Op.equalIn 10000 45 (.agg #[.int .i64 a,.int .i64 b]) (.agg #[.int .i64 c,.int .i64 d])).run Tryz.prog w = .ok (decide (a = c) && decide (b = d)) w:=by
 rw [run_equalIn_agg w _ _ _ _ (by kernel_rfl) (by kernel_rfl)]
 simp [go_sem]
 by_cases h1:a = c <;> by_cases h2:b = d <;> simp [h1,h2]
def wkT:L.Tr:=.node (.node (.leaf 1) (.leaf 2)) (.leaf 3)
def wkU:L.Tr:=.node (.leaf 1) (.node (.leaf 2) (.leaf 3))
theorem wkT_ok:TrOK wkT [1,2,3]:=⟨by decide,by decide,by decide,by decide,fun v=>by simp [wkT,L.Tr.vars]⟩
theorem wk_E:L.searchT [1,2,3] (L.tabO [1,2,3] (begφ 3)) (wkT.post 0).length 1 (wkT,[]) = (wkU,[(4,1)]):=by kernel_rfl
def wkText:ByteArray:=⟨#[40,49,32,40,50,32,51,41,41,32,40,45,49,32,70,59,32,49,32,40,45,50,32,70,59,32,50,32,51,41,41]⟩
theorem wk_shown:shB wkU (wkU.post 0) (begφ 3) = wkText:=by
 unfold shB
 rw [show wkU.post 0 = t4v from rfl,vw_texts (φ:=begφ 3) (fun y=>by simp [begφ,List.range_succ])]
 rfl
set_option maxRecDepth 100000 in
set_option maxHeartbeats 4000000 in
theorem works29_any (w:World) (hz:TzTab w) (hp:PowTab w):Calls Tryz.prog 12 #[] w fun e w'=>e = .returned (.bool true)∧Below w.heap.size w w':=by
 have q1:=begun_any (n:=3) wkT_ok hz hp (by omega) (fun i hi=>by
  obtain rfl | rfl | rfl:i = 0∨i = 1∨i = 2:=by omega
  all_goals simp [wkT,L.Tr.vars])
 rw [show strB (L.prT wkT) = ⟨#[40,40,49,32,50,41,32,51,41]⟩ from rfl] at q1
 go_enter Tryz.func12,Tryz.ntmps12
 go_wp2_with fail
 refine q1.mono ?_
 rintro e w1 ⟨sb1,r1,rfl,h1,hb1⟩
 have q2:=search_any (k:=1) h1 wkT_ok.root wkT_ok (hz.same (hb1.block _ hz.lt')) (hp.same (hb1.block _ hp.lt)) (by omega)
 unfold RetSearch at q2
 rw [wk_E] at q2
 clear q1
 go_wp2_with fail
 refine q2.mono ?_
 rintro e w2 ⟨sb2,r2,v2,rfl,h2,hok2,ho2,hb2⟩
 have b2:=hb1.trans (hb2.mono hb1.size)
 have hm2:=own_moves ho2 rfl
 have q3:=shown_any h2 hok2.root (hp.same (b2.block _ hp.lt)) hok2.pr
 rw [wk_shown] at q3
 unfold wkText at q3
 obtain ⟨g2,cp2,rfl,_,hc2⟩:=hm2.some (by decide)
 have c20:=(hc2 0 (by decide)).1
 have c21:=(hc2 0 (by decide)).2
 have hlt2:=World.block_lt_of_cell? _ _ c20
 simp only [List.length_cons,List.length_nil,List.getElem_cons_zero] at c20 c21 hlt2 ⊢
 replace h2:=Lib.hid h2
 clear q2 hm2 ho2 hc2
 go_wp2_with fail
 refine q3.mono ?_
 rintro e w3 ⟨rfl,hb3⟩
 have d20:=(hb3.cell hlt2).trans c20
 have d21:=(hb3.cell hlt2).trans c21
 have heq:=fun W=>mvEq 4 1 4 1 W
 clear q3
 go_wp2_with fail
 go_ret
 exact ⟨rfl,b2.trans (hb3.mono b2.size)⟩
end Go.Proofs.YtemnmcfmabamcaaGreatDoor
end
section
set_option linter.unusedSimpArgs false
set_option linter.unusedVariables false
namespace Go.Proofs.YtemnmcfmabamcaaGreatDoor
open Go Go.RowKit Go.Shelf
theorem strB_beq (X:ByteArray):(X == X) = true:=by
 obtain ⟨d⟩:=X
 show (d == d) = true
 exact beq_self_eq_true d
theorem fold_len (l:List Int) (f:List Bool):∀ (is:List Nat) (s:L.Tr × List (Nat × Nat)),(is.foldl (L.stepT l f) s).2.length≤s.2.length+is.length
 | [],s=>by simp
 | i :: r,s=>by
   rw [List.foldl_cons]
   have h:=fold_len l f r (L.stepT l f s i)
   have h2:(L.stepT l f s i).2.length≤s.2.length+1:=by
    rcases L.stepT_or l f s i with ⟨e,_⟩ | ⟨kd,U,e,_⟩
    ·rw [e];omega
    ·rw [e];simp
   simp only [List.length_cons]
   omega
theorem searchT_len (l:List Int) (f:List Bool) (n:Nat):∀ (k:Nat) (s:L.Tr × List (Nat × Nat)),(L.searchT l f n k s).2.length≤s.2.length+k * n
 | 0,s=>by simp [L.searchT]
 | k+1,s=>by
   have hp:(L.passT l f n s).2.length≤s.2.length+n:=by
    have:=fold_len l f (List.range n) s
    rw [List.length_range] at this
    exact this
   have he:(k+1) * n = k * n+n:=Nat.succ_mul k n
   unfold L.searchT
   simp only
   split
   ·omega
   ·have:=searchT_len l f n k (L.passT l f n s)
    omega
theorem pass_lt (p:Int):(p % 18446744073709551616 % 7).toNat≤6:=by omega
end Go.Proofs.YtemnmcfmabamcaaGreatDoor
end
section
set_option linter.unusedSimpArgs false
set_option linter.unusedVariables false
namespace Go.Proofs.YtemnmcfmabamcaaGreatDoor
open Go Go.RowKit Go.Shelf
def Refs (p:Option Addr) (err:Int) (G:List Int→Prop) (w:World):Prop :=
 ∀ (W:World) (v:Value) (l:List Int),Below w.heap.size w W→SlI W v l→l.length≤2→G l→Calls Tryz.prog 39 #[.pointer p,v] W fun e w'=>e = .returned (.int .i64 err)∧Ext W w'
theorem Refs.ext {p:Option Addr} {err:Int} {G:List Int→Prop} {w w':World} (h:Refs p err G w) (hx:Below w.heap.size w w'):Refs p err G w':=fun W v l hb=>h W v l (hx.trans (hb.mono hx.size))
theorem check_bad {t:List VN} {B0:Blks} {w0 w:World} {k:Nat} {s:St} (h:SS t B0 w0 k s w) (a:Int) (ha:¬ (0≤a∧a < s.nodes.length)):Refs (some ⟨B0.sb,0,none⟩) 1 (fun l=>a∈l) w:=fun W v l hb hv hl hg=>by
 obtain ⟨B,hR,hS⟩:=(h.below hb).held
 rw [←hS.sb]
 have hch:chkF s.nodes.length l = 1:=by
  unfold chkF
  rw [if_neg]
  rw [List.all_eq_true]
  intro hall
  have:=hall a hg
  simp only [Bool.and_eq_true,decide_eq_true_eq] at this
  exact ha this
 have:=sck_any hR h.ne hv (by omega)
 rw [hch] at this
 refine this.mono ?_
 rintro e w' ⟨rfl,rfl⟩
 exact ⟨rfl,Ext.refl _⟩
set_option maxRecDepth 100000 in
set_option maxHeartbeats 1000000 in
theorem at_ref {p:Option Addr} {err:Int} {G:List Int→Prop} {w:World} {a:Int} (hR:Refs p err G w) (hg:G [a]) (he:(err != 0) = true) :
  Calls Tryz.prog 41 #[.pointer p,.int .i64 a] w fun e w'=>e = .returned (.tuple #[.int .i64 0,.int .i64 err])∧Ext w w':=by
 have hx:=(Ext.refl w).alloc (.cells #[.int .i64 a] 3)
 have hz:=heap_alloc_new w (.cells #[.int .i64 a] 3)
 go_enter Tryz.func41,Tryz.ntmps41
 go_wp2_with fail
 generalize w.alloc (.cells #[.int .i64 a] 3) = w1 at *
 have hq:=hR w1 _ _ hx.below (slI_one hz) (by simp) hg
 clear hz
 refine hq.mono ?_
 rintro e w2 ⟨rfl,hx2⟩
 go_wp2_with fail
 go_ret2
 exact ⟨rfl,hx.trans hx2⟩
end Go.Proofs.YtemnmcfmabamcaaGreatDoor
end
section
set_option linter.unusedSimpArgs false
set_option linter.unusedVariables false
namespace Go.Proofs.YtemnmcfmabamcaaGreatDoor
open Go Go.RowKit Go.Shelf
def RetSNo (err:Int) (w:World) (e:Ending) (w':World):Prop:=e = .returned (.tuple #[.pointer none,.int .i64 0,.slice none 0 0,.int .i64 err])∧Below w.heap.size w w'
set_option maxRecDepth 100000 in
set_option maxHeartbeats 2000000 in
theorem search_nil (w:World) (r k:Int):Calls Tryz.prog 15 #[.pointer none,.int .i64 r,.int .i64 k] w (RetSNo 9 w):=by
 go_enter Tryz.func15,Tryz.ntmps15
 go_wp2_with fail
 go_step3
 go_wp2_with fail
 try rw [Exit.noGoto_ret]
 refine bodyPost_ret (v:=.tuple #[.pointer none,.int .i64 0,.slice none 0 0,.int .i64 9]) (by simp [results,Tryz.results15,go_sem]) rfl ⟨rfl,Below.refl _ _⟩
set_option maxRecDepth 100000 in
set_option maxHeartbeats 2000000 in
theorem tree_zero {w:World} {g:Nat} (hk:w.cell? ⟨g,0,none⟩ = some (.slice none 0 0)):Calls Tryz.prog 19 #[.pointer (some ⟨g,0,none⟩)] w fun e w'=>e = .returned (.slice none 0 0)∧w = w':=by
 have q:=AnyE.slices_Clone_nil Tryz.cloneTree 0 0 w
 go_enter Tryz.func19,Tryz.ntmps19
 go_wp2_with fail
 refine q.mono ?_
 rintro e w' ⟨rfl,rfl⟩
 clear q
 go_wp2_with fail
 go_ret
 exact ⟨rfl,rfl⟩
set_option maxRecDepth 100000 in
set_option maxHeartbeats 2000000 in
theorem search_zero {w:World} {g:Nat} (hk:w.cell? ⟨g,0,none⟩ = some (.slice none 0 0)) (r k:Int):Calls Tryz.prog 15 #[.pointer (some ⟨g,0,none⟩),.int .i64 r,.int .i64 k] w (RetSNo 9 w):=by
 have q:=tree_zero hk
 go_enter Tryz.func15,Tryz.ntmps15
 go_wp2_with fail
 go_step3
 go_wp2_with fail
 refine q.mono ?_
 rintro e w' ⟨rfl,rfl⟩
 clear q
 go_wp2_with fail
 try rw [Exit.noGoto_ret]
 refine bodyPost_ret (v:=.tuple #[.pointer none,.int .i64 0,.slice none 0 0,.int .i64 9]) (by simp [results,Tryz.results15,go_sem]) rfl ⟨rfl,Below.refl _ _⟩
set_option maxRecDepth 100000 in
set_option maxHeartbeats 2000000 in
theorem search_root {t:List VN} {φ:L.Asg→Bool} {sb r0:Nat} {w:World} {r:Int} (h:StOn t φ sb r0 w) (hR:Refs (some ⟨sb,0,none⟩) 1 (fun l=>r∈l) w) (k:Int):Calls Tryz.prog 15 #[.pointer (some ⟨sb,0,none⟩),.int .i64 r,.int .i64 k] w (RetSNo 1 w):=by
 have t0:=(check_ok h.chk).1
 have dne:((t.length:Int) == 0) = false:=by rw [beq_eq_false_iff_ne];omega
 have q1:=h.tree
 have q2:=fun W (hb:Below w.heap.size w W)=>at_ref (hR.ext hb) (a:=r) (by simp) (by decide)
 replace q2:=Lib.hid q2
 go_enter Tryz.func15,Tryz.ntmps15
 go_wp2_with fail
 go_step3
 go_wp2_with fail
 refine q1.mono ?_
 rintro e w1 ⟨g1,c1,rfl,_,_,hb1⟩
 have q2':=q2.out w1 hb1
 clear q1
 go_wp2_with fail
 refine q2'.mono ?_
 rintro e w2 ⟨rfl,hx2⟩
 clear q2'
 go_wp2_with fail
 try rw [Exit.noGoto_ret]
 refine bodyPost_ret (v:=.tuple #[.pointer none,.int .i64 0,.slice none 0 0,.int .i64 1]) (by simp [results,Tryz.results15,go_sem]) rfl ⟨rfl,hb1.trans (hx2.below.mono hb1.size)⟩
set_option maxRecDepth 100000 in
set_option maxHeartbeats 2000000 in
theorem search_pass {t:List VN} {φ:L.Asg→Bool} {sb r:Nat} {w:World} (h:StOn t φ sb r w) (k:Int) (hk:k < 0∨100 < k):Calls Tryz.prog 15 #[.pointer (some ⟨sb,0,none⟩),.int .i64 (r:Nat),.int .i64 k] w (RetSNo 1 w):=by
 have t0:=(check_ok h.chk).1
 have dne:((t.length:Int) == 0) = false:=by rw [beq_eq_false_iff_ne];omega
 have q1:=h.tree
 have q2:=fun W (hb:Below w.heap.size w W)=>(h.below hb).at
 replace q2:=Lib.hid q2
 by_cases h0:k < 0
 ·have d0:decide (k < 0) = true:=decide_eq_true h0
  go_enter Tryz.func15,Tryz.ntmps15
  go_wp2_with fail
  go_step3
  go_wp2_with fail
  refine q1.mono ?_
  rintro e w1 ⟨g1,c1,rfl,_,_,hb1⟩
  obtain ⟨z,q2'⟩:=q2.out w1 hb1
  clear q1
  go_wp2_with fail
  refine q2'.mono ?_
  rintro e w2 ⟨rfl,hb2⟩
  clear q2'
  go_wp2_with fail
  try rw [Exit.noGoto_ret]
  refine bodyPost_ret (v:=.tuple #[.pointer none,.int .i64 0,.slice none 0 0,.int .i64 1]) (by simp [results,Tryz.results15,go_sem]) rfl ⟨rfl,hb1.trans (hb2.mono hb1.size)⟩
 ·have d0:decide (k < 0) = false:=decide_eq_false h0
  have h1:100 < k:=by omega
  have d1:decide (k > 100) = true:=decide_eq_true h1
  go_enter Tryz.func15,Tryz.ntmps15
  go_wp2_with fail
  go_step3
  go_wp2_with fail
  refine q1.mono ?_
  rintro e w1 ⟨g1,c1,rfl,_,_,hb1⟩
  obtain ⟨z,q2'⟩:=q2.out w1 hb1
  clear q1
  go_wp2_with fail
  refine q2'.mono ?_
  rintro e w2 ⟨rfl,hb2⟩
  clear q2'
  go_wp2_with fail
  try rw [Exit.noGoto_ret]
  refine bodyPost_ret (v:=.tuple #[.pointer none,.int .i64 0,.slice none 0 0,.int .i64 1]) (by simp [results,Tryz.results15,go_sem]) rfl ⟨rfl,hb1.trans (hb2.mono hb1.size)⟩
theorem const_size {T:L.Tr} {l:List Int} (hT:TrOK T l) (c:Bool):L.sizeTr T l (L.tabO l fun _=>c) = 0:=by
 obtain ⟨d,v0,v1⟩:=ds_new hT.chk hT.len
 have hi:=d.room.inv
 have key:∀ a,a < 2→L.sizeTr T l (L.tabO l (L.sem (newSt (T.post 0)).nodes a)) = 0:=fun a ha=>by
  have hn:(newSt (T.post 0)).nodes[a]? = some cNode:=by
   obtain rfl | rfl:a = 0∨a = 1:=by omega
   ·rfl
   ·rfl
  have hr:∀ b,b∈[a]↔L.Reach (newSt (T.post 0)).nodes a b:=fun b=>by
   rw [List.mem_singleton]
   constructor
   ·rintro rfl;exact .refl
   ·intro h
    induction h with
    | refl=>rfl
    | prime _ h2 h3 ih=>subst ih;rw [hn] at h2;cases h2;cases h3
    | sub _ h2 h3 ih=>subst ih;rw [hn] at h2;cases h2;cases h3
  rw [L.sizeTr_law hi (l:=l) hT.sbl hT.root (by simp [newSt]) (a:=a) (by simpa [newSt] using ha) (o:=[a]) (by simp) hr]
  simp [sumEl,hn,cNode]
 cases c
 ·have:=key 0 (by omega)
  rw [show L.sem (newSt (T.post 0)).nodes 0 = fun _=>false from funext v0.sem] at this
  exact this
 ·have:=key 1 (by omega)
  rw [show L.sem (newSt (T.post 0)).nodes 1 = fun _=>true from funext v1.sem] at this
  exact this
theorem const_node {t:List VN} {c:Bool} {sb r:Nat} {w:World} (h:StOn t (fun _=>c) sb r w):r = if c = true then 1 else 0:=by
 obtain ⟨B,k,s,rfl,hS,hv⟩:=h.st
 have hi:=hS.inv
 cases c
 ·exact Val.eq hi hv ⟨(List.getElem?_eq_some_iff.1 hi.zero).1,hi.sem0⟩ fun _=>rfl
 ·exact Val.eq hi hv ⟨(List.getElem?_eq_some_iff.1 hi.one).1,hi.sem1⟩ fun _=>rfl
set_option maxRecDepth 100000 in
set_option maxHeartbeats 8000000 in
theorem vsnone_any {t:List VN} {bts:Nat} {p root:Int} (w:World) (ba:Option Addr) (cap:Nat) (hT:TzTab w) (hP:PowTab w) (h:t = []∨∃ b o,ba = some ⟨b,o,none⟩∧TreeAt w b o t) (hbt:bts < 65536) (hp:-9223372036854775808≤p∧p≤9223372036854775807) (hroot:-9223372036854775808≤root∧root≤9223372036854775807) :
  Calls Tryz.prog 7 #[.agg #[.slice ba t.length cap,.int .u16 (bts:Nat),.int .i64 p],.int .i64 root] w fun e w'=>e = .returned (.bool true)∧Below w.heap.size w w':=by
 have hw:∀ w',Below w.heap.size w w'→Calls Tryz.prog 12 #[] w' fun e w''=>e = .returned (.bool true)∧Below w'.heap.size w' w'':=fun w' hx=>works29_any w' (hT.same (hx.block _ hT.lt')) (hP.same (hx.block _ hP.lt))
 obtain ⟨xb,hxb⟩:∃ xb,w.heap.size = xb:=⟨_,rfl⟩
 obtain ⟨w3,hw3⟩:∃ w3,w3 = ((w.alloc (.cells #[.slice ba t.length cap,.int .u16 (bts:Nat),.int .i64 p] 26)).alloc (.cells #[.slice none 0 0,.map none,.slice none 0 0,.map none,.map none,.map none] 67)).alloc (.cells #[.pointer none,.pointer (some ⟨xb+1,0,none⟩)] 28):=⟨_,rfl⟩
 obtain ⟨hb3,h30,h31,h32,hx3⟩:=three_allocs w _ _ _ _ _ _ hxb hw3
 obtain ⟨c0,c1,c2⟩:=box3 h30
 have cz:w3.cell? ⟨xb+1,0,none⟩ = some (.slice none 0 0):=by rw [World.cell?,h31];rfl
 obtain ⟨p0,p1⟩:=box2' h32
 have hcell:Hid (∀ W,Below w3.heap.size w3 W→(W.cell? ⟨xb,0,none⟩ = some (.slice ba t.length cap)∧W.cell? ⟨xb,1,none⟩ = some (.int .u16 (bts:Nat))∧W.cell? ⟨xb,2,none⟩ = some (.int .i64 p))∧W.cell? ⟨xb+1,0,none⟩ = some (.slice none 0 0)∧W.cell? ⟨xb+1+1,0,none⟩ = some (.pointer none)∧W.cell? ⟨xb+1+1,1,none⟩ = some (.pointer (some ⟨xb+1,0,none⟩))):=Lib.hid fun W hb =>
  ⟨⟨(hb.cell (World.block_lt_of_cell? _ _ c0)).trans c0,(hb.cell (World.block_lt_of_cell? _ _ c1)).trans c1,(hb.cell (World.block_lt_of_cell? _ _ c2)).trans c2⟩,(hb.cell (World.block_lt_of_cell? _ _ cz)).trans cz,(hb.cell (World.block_lt_of_cell? _ _ p0)).trans p0,(hb.cell (World.block_lt_of_cell? _ _ p1)).trans p1⟩
 have h0:Hid (Below w3.heap.size w3 w3):=Lib.hid (Below.refl _ _)
 replace hw:=Lib.hid hw
 clear h30 h31 h32 hx3 c0 c1 c2 cz p0 p1
 go_enter Tryz.func7,Tryz.ntmps7
 go_wp2_with fail
 try simp only [hxb]
 rw [←hw3]
 replace hxb:=Lib.hid hxb
 replace hw3:=Lib.hid hw3
 go_loopw [20] (fun iv wr=>∃ i:Nat,i≤2∧iv = .int .i64 (i:Nat)∧Hid (Below w3.heap.size w3 wr)) (fun iv _=>2 - (intOf iv).toNat)
 case atStart=>exact ⟨0,by omega,rfl,h0⟩
 case round =>
  clear h0
  obtain ⟨i,hi,rfl,hI⟩:=hrel
  obtain ⟨⟨c0,c1,c2⟩,cz,p0,p1⟩:=hcell.out wr hI.out
  by_cases hlt:i < 2
  ·obtain rfl | rfl:i = 0∨i = 1:=by omega
   ·have q:=search_nil wr root p
    unfold RetSNo at q
    go_wp2_with fail
    refine q.mono ?_
    rintro e w4 ⟨rfl,hb4⟩
    have hnext:Hid (Below w3.heap.size w3 w4):=Lib.hid (hI.out.trans (hb4.mono hI.out.size))
    clear q
    go_wp2_with fail
    go_roundw
    case rel=>exact ⟨1,by omega,rfl,hnext⟩
    case measure=>simp [intOf]
   ·have q:=search_zero cz root p
    unfold RetSNo at q
    go_wp2_with fail
    refine q.mono ?_
    rintro e w4 ⟨rfl,hb4⟩
    have hnext:Hid (Below w3.heap.size w3 w4):=Lib.hid (hI.out.trans (hb4.mono hI.out.size))
    clear q
    go_wp2_with fail
    go_roundw
    case rel=>exact ⟨2,by omega,rfl,hnext⟩
    case measure=>simp [intOf]
  ·obtain rfl:i = 2:=by omega
   have bwr:=hb3.trans (hI.out.mono hb3.size)
   have ql:=light_any (w:=wr) (ba:=ba) (cap:=cap) (bits:=bts) (p:=p) (h.imp id fun ⟨b,o,e,ht⟩=>⟨b,o,e,ht.below bwr⟩)
   cases hf:few7 t
   ·rw [hf] at ql
    go_wp2_with fail
    refine ql.mono ?_
    rintro e w4 ⟨rfl,hx4⟩
    have b4:=bwr.trans (hx4.below.mono bwr.size)
    have q:=hw.out w4 b4
    clear ql
    go_wp2_with fail
    refine q.mono ?_
    rintro e w5 ⟨rfl,hb5⟩
    go_wp2_with fail
    go_ret
    exact ⟨rfl,b4.trans (hb5.mono b4.size)⟩
   ·rw [hf] at ql
    obtain ⟨T,l,tc,t7,hvr,hl6,hsb,hIT,hTok⟩:=few7_of hf
    obtain ⟨b,o,rfl,ht⟩:=tree_some tc h
    clear h hf
    go_wp2_with fail
    refine ql.mono ?_
    rintro e w4 ⟨rfl,hx4⟩
    have b4:=bwr.trans (hx4.below.mono bwr.size)
    have d2:=hx4.cell c2
    have d0:=hx4.cell c0
    have qn:=new_v w4 b o cap (hT.same (b4.block _ hT.lt')) (hP.same (b4.block _ hP.lt)) (ht.below b4) tc (by omega)
    clear ql c0 c1 cz p0 p1
    go_wp2_with fail
    refine qn.mono ?_
    rintro e w5 ⟨B,rfl,hS5,hv0,hv1,_,hb5⟩
    have b5:=b4.trans (hb5.mono b4.size)
    have e2:=(hb5.cell (World.block_lt_of_cell? _ _ d2)).trans d2
    have hs0:=StOn.of hS5 hv0
    have hs1:=StOn.of hS5 hv1
    clear qn d0 d2 c2
    by_cases hr:0≤root∧root≤1
    ·by_cases hpp:0≤p∧p≤100
     ·obtain ⟨k,rfl⟩:∃ k:Nat,p = k:=⟨p.toNat,by omega⟩
      obtain ⟨c,hc,hsc⟩:∃ c:Bool,root = ((if c = true then 1 else 0:Nat):Int)∧StOn t (fun _=>c) B.sb (if c = true then 1 else 0) w5:=by
       obtain h | h:root = 0∨root = 1:=by omega
       ·exact ⟨false,h,hs0⟩
       ·exact ⟨true,h,hs1⟩
      have qs:=search_any (k:=k) hsc hIT hTok (hT.same (b5.block _ hT.lt')) (hP.same (b5.block _ hP.lt)) (by omega)
      unfold RetSearch at qs
      have hch:=(L.searchT_chain l (L.tabO l fun _=>c) (T.post 0).length (T0:=T) k (T,[]) (.nil T)).less
      rw [const_size hTok c] at hch
      obtain ⟨E,hE⟩:∃ E,E = L.searchT l (L.tabO l fun _=>c) (T.post 0).length k (T,[]):=⟨_,rfl⟩
      rw [←hE] at qs hch
      have hl0:E.2.length = 0:=by omega
      obtain ⟨rn,hrn⟩:∃ rn:Nat,rn = (if c = true then 1 else 0):=⟨_,rfl⟩
      rw [←hrn] at hc qs
      rw [hl0] at qs
      have d1:decide (root < 0) = false:=decide_eq_false (by omega)
      have d2:decide (root > 1) = false:=decide_eq_false (by omega)
      have d2':decide ((1:Int) < root) = false:=decide_eq_false (by omega)
      have d3:decide ((k:Int) < 0) = false:=decide_eq_false (by omega)
      have d4:decide ((k:Int) > 100) = false:=decide_eq_false (by omega)
      have d4':decide ((100:Int) < (k:Int)) = false:=decide_eq_false (by omega)
      subst hc
      replace hrn:=Lib.hid hrn
      replace hE:=Lib.hid hE
      clear hch hl0 hs0 hs1 hsc hS5
      go_wp2_with fail
      refine qs.mono ?_
      rintro e w6 ⟨sb6,r6,v6,rfl,hSt6,_,ho6,hb6⟩
      obtain ⟨ba6,cp6,rfl⟩:=row_slice ho6
      have b6:=b5.trans (hb6.mono b5.size)
      have hr6:r6 = rn:=by rw [hrn.out];exact const_node hSt6
      subst hr6
      have e2':=(hb6.cell (World.block_lt_of_cell? _ _ e2)).trans e2
      have q:=hw.out w6 b6
      clear qs ho6
      replace hSt6:=Lib.hid hSt6
      go_wp2_with fail
      refine q.mono ?_
      rintro e w7 ⟨rfl,hb7⟩
      go_wp2_with fail
      go_ret
      exact ⟨rfl,b6.trans (hb7.mono b6.size)⟩
     ·obtain ⟨rn,hrn,φ,hsc⟩:∃ rn:Nat,root = (rn:Nat)∧∃ φ,StOn t φ B.sb rn w5:=by
       obtain h | h:root = 0∨root = 1:=by omega
       ·exact ⟨0,h,_,hs0⟩
       ·exact ⟨1,h,_,hs1⟩
      have qs:=search_pass hsc p (by omega)
      have d1:decide (root < 0) = false:=decide_eq_false (by omega)
      have d2:decide (root > 1) = false:=decide_eq_false (by omega)
      have d2':decide ((1:Int) < root) = false:=decide_eq_false (by omega)
      subst hrn
      clear hs0 hs1 hsc hS5
      by_cases h3:p < 0
      ·have d3:decide (p < 0) = true:=decide_eq_true h3
       unfold RetSNo at qs
       go_wp2_with fail
       refine qs.mono ?_
       rintro e w6 ⟨rfl,hb6⟩
       have b6:=b5.trans (hb6.mono b5.size)
       have e2':=(hb6.cell (World.block_lt_of_cell? _ _ e2)).trans e2
       have q:=hw.out w6 b6
       clear qs
       go_wp2_with fail
       refine q.mono ?_
       rintro e w7 ⟨rfl,hb7⟩
       go_wp2_with fail
       go_ret
       exact ⟨rfl,b6.trans (hb7.mono b6.size)⟩
      ·have d3:decide (p < 0) = false:=decide_eq_false h3
       have h4:100 < p:=by omega
       have d4:decide (p > 100) = true:=decide_eq_true h4
       have d4':decide ((100:Int) < p) = true:=decide_eq_true h4
       unfold RetSNo at qs
       go_wp2_with fail
       refine qs.mono ?_
       rintro e w6 ⟨rfl,hb6⟩
       have b6:=b5.trans (hb6.mono b5.size)
       have e2':=(hb6.cell (World.block_lt_of_cell? _ _ e2)).trans e2
       have q:=hw.out w6 b6
       clear qs
       go_wp2_with fail
       refine q.mono ?_
       rintro e w7 ⟨rfl,hb7⟩
       go_wp2_with fail
       go_ret
       exact ⟨rfl,b6.trans (hb7.mono b6.size)⟩
    ·have qs:=search_root hs0 (check_bad hS5 root (by simp [newSt];omega)) p
     clear hs0 hs1 hS5
     by_cases h3:root < 0
     ·have d3:decide (root < 0) = true:=decide_eq_true h3
      unfold RetSNo at qs
      go_wp2_with fail
      refine qs.mono ?_
      rintro e w6 ⟨rfl,hb6⟩
      have b6:=b5.trans (hb6.mono b5.size)
      have e2':=(hb6.cell (World.block_lt_of_cell? _ _ e2)).trans e2
      have q:=hw.out w6 b6
      clear qs
      go_wp2_with fail
      refine q.mono ?_
      rintro e w7 ⟨rfl,hb7⟩
      go_wp2_with fail
      go_ret
      exact ⟨rfl,b6.trans (hb7.mono b6.size)⟩
     ·have d3:decide (root < 0) = false:=decide_eq_false h3
      have h4:1 < root:=by omega
      have d4:decide (root > 1) = true:=decide_eq_true h4
      have d4':decide ((1:Int) < root) = true:=decide_eq_true h4
      unfold RetSNo at qs
      go_wp2_with fail
      refine qs.mono ?_
      rintro e w6 ⟨rfl,hb6⟩
      have b6:=b5.trans (hb6.mono b5.size)
      have e2':=(hb6.cell (World.block_lt_of_cell? _ _ e2)).trans e2
      have q:=hw.out w6 b6
      clear qs
      go_wp2_with fail
      refine q.mono ?_
      rintro e w7 ⟨rfl,hb7⟩
      go_wp2_with fail
      go_ret
      exact ⟨rfl,b6.trans (hb7.mono b6.size)⟩
end Go.Proofs.YtemnmcfmabamcaaGreatDoor
end
