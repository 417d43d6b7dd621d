import Derived.Test.YtemnmcfmabamcaaGreatDoorXMade
import Derived.Test.YtemnmcfmabamcaaGreatDoorXVcopy
import Derived.Test.YtemnmcfmabamcaaGreatDoorXLaw8
import Derived.Test.YtemnmcfmabamcaaGreatDoorXReg
import Derived.Deep.AppendLies
import Derived.Test.YtemnmcfmabamcaaGreatDoorXTab2
import Derived.Test.YtemnmcfmabamcaaGreatDoorXVpost
import Derived.Test.YtemnmcfmabamcaaGreatDoorXLaw9
import Derived.Test.YtemnmcfmabamcaaGreatDoorXRep
import Derived.Shelf.Strings.BuilderK
section
set_option linter.unusedSimpArgs false
set_option linter.unusedVariables false
namespace Go.Proofs.YtemnmcfmabamcaaGreatDoor
open Go Go.RowKit Go.Shelf
structure StOn (t:List VN) (φ:L.Asg→Bool) (sb r:Nat) (w:World):Prop where
 st:∃ (B:Blks) (k:Nat) (s:St),B.sb = sb∧SS t B w k s w∧Val s r φ
abbrev StAt (T:L.Tr) (φ:L.Asg→Bool) (sb r:Nat) (w:World):Prop:=StOn (T.post 0) φ sb r w
def RetMvT (kd i:Nat) (T:L.Tr) (φ:L.Asg→Bool) (w:World) (e:Ending) (w':World):Prop :=
 Below w.heap.size w w'∧((L.mvT kd i T 0 = none∧e = .returned (.tuple #[.pointer none,.int .i64 0,.int .i64 1])) ∨
  ∃ (U:L.Tr) (sb r:Nat),L.mvT kd i T 0 = some U∧e = .returned (.tuple #[.pointer (some ⟨sb,0,none⟩),.int .i64 (r:Nat),.int .i64 0])∧StAt U φ sb r w')
noncomputable def txOf (t:List VN) (φ:L.Asg→Bool):List UInt8:=open Classical in
 if h:∃ p:St × Nat,L.Inv p.1∧p.1.tree = t∧p.2 < p.1.nodes.length∧L.sem p.1.nodes p.2 = φ then L.tx h.choose.1.nodes h.choose.2 else []
theorem txOf_eq {t:List VN} {φ:L.Asg→Bool} {s:St} {r:Nat} (hi:L.Inv s) (ht:s.tree = t) (hv:Val s r φ):L.tx s.nodes r = txOf t φ:=by
 have h:∃ p:St × Nat,L.Inv p.1∧p.1.tree = t∧p.2 < p.1.nodes.length∧L.sem p.1.nodes p.2 = φ:=⟨(s,r),hi,ht,hv.lt,funext hv.sem⟩
 unfold txOf
 rw [dif_pos h]
 obtain ⟨g1,g2,g3,g4⟩:=h.choose_spec
 exact L.tx_eq hi g1 (by rw [g2,ht]) _ _ hv.lt g3 (by rw [g4];exact funext hv.sem)
section
variable {T:L.Tr} {t:List VN} {φ:L.Asg→Bool} {sb r:Nat} {w:World} {l:List Int}
theorem StOn.of {B:Blks} {w0:World} {k:Nat} {s:St} (h:SS t B w0 k s w) (hv:Val s r φ):StOn t φ B.sb r w:=by
 obtain ⟨B',hB,_,hS,_⟩:=h.here
 exact ⟨⟨B',k,s,hB,hS,hv⟩⟩
theorem StOn.below {w':World} (h:StOn t φ sb r w) (hb:Below w.heap.size w w'):StOn t φ sb r w':=by
 obtain ⟨B,k,s,rfl,hS,hv⟩:=h.st
 exact .of (hS.below hb) hv
theorem StOn.chk (h:StOn t φ sb r w):checkF t = 0:=by
 obtain ⟨B,k,s,rfl,hS,hv⟩:=h.st
 exact hS.chk
theorem ret_mvT (hT:TrOK T l) {kd i:Nat} {e:Ending} {w':World} (h:RetMoved kd (T.post 0) i φ w e w'):RetMvT kd i T φ w e w':=by
 obtain ⟨hb,h | ⟨U,B,so,r,h1,h2,h3,h4,_⟩⟩:=moved_T hT.range h
 ·exact ⟨hb,.inl h⟩
 ·exact ⟨hb,.inr ⟨U,B.sb,r,h1,h2,.of h3 h4⟩⟩
theorem StOn.right (h:StAt T φ sb r w) (hT:TrOK T l) (hz:TzTab w) (hp:PowTab w) (i:Nat):Calls Tryz.prog 62 #[.pointer (some ⟨sb,0,none⟩),.int .i64 (r:Nat),.int .i64 (i:Nat)] w (RetMvT 1 i T φ w):=by
 obtain ⟨B,k,s,rfl,hS,hv⟩:=h.st
 exact (mvright_any hS hv hT.len hz hp).mono fun e w' h=>ret_mvT hT h
theorem StOn.left (h:StAt T φ sb r w) (hT:TrOK T l) (hz:TzTab w) (hp:PowTab w) (i:Nat):Calls Tryz.prog 63 #[.pointer (some ⟨sb,0,none⟩),.int .i64 (r:Nat),.int .i64 (i:Nat)] w (RetMvT 2 i T φ w):=by
 obtain ⟨B,k,s,rfl,hS,hv⟩:=h.st
 exact (mvleft_any hS hv hT.len hz hp).mono fun e w' h=>ret_mvT hT h
theorem StOn.swap (h:StAt T φ sb r w) (hT:TrOK T l) (hz:TzTab w) (hp:PowTab w) (i:Nat):Calls Tryz.prog 64 #[.pointer (some ⟨sb,0,none⟩),.int .i64 (r:Nat),.int .i64 (i:Nat)] w (RetMvT 3 i T φ w):=by
 obtain ⟨B,k,s,rfl,hS,hv⟩:=h.st
 exact (mvswap_any hS hv hT.len hz hp).mono fun e w' h=>ret_mvT hT h
theorem StOn.size (h:StOn t φ sb r w) (hl:L.SortedBel t (t.length - 1) l) (hT:L.IsT L.idc t (t.length - 1) T):Calls Tryz.prog 20 #[.pointer (some ⟨sb,0,none⟩),.int .i64 (r:Nat)] w fun e w'=>e = .returned (.tuple #[.int .i64 (L.sizeTr T l (L.tabO l φ):Nat),.int .i64 0])∧Below w.heap.size w w':=by
 obtain ⟨B,k,s,rfl,hS,hv⟩:=h.st
 exact size_tr hS hv hl hT
theorem StOn.eval (h:StOn t φ sb r w) (x:VSet):Calls Tryz.prog 34 #[.pointer (some ⟨sb,0,none⟩),.int .i64 (r:Nat),.agg #[.int .u64 (lo x),.int .u64 (hi x)]] w fun e w'=>e = .returned (.bool (φ (L.asg x)))∧Ext w w':=by
 obtain ⟨B,k,s,rfl,hS,hv⟩:=h.st
 exact eval_v hS hv x
theorem StOn.text (h:StOn t φ sb r w):Calls Tryz.prog 14 #[.pointer (some ⟨sb,0,none⟩),.int .i64 (r:Nat)] w fun e w'=>e = .returned (.tuple #[.string ⟨(txOf t φ).toArray⟩,.int .i64 0])∧Below w.heap.size w w':=by
 obtain ⟨B,k,s,rfl,hS,hv⟩:=h.st
 rw [←txOf_eq hS.inv hS.tree hv]
 exact text_v hS hv.lt
theorem StOn.at (h:StOn t φ sb r w):∃ z:Int,Calls Tryz.prog 41 #[.pointer (some ⟨sb,0,none⟩),.int .i64 (r:Nat)] w fun e w'=>e = .returned (.tuple #[.int .i64 z,.int .i64 0])∧Below w.heap.size w w':=by
 obtain ⟨B,k,s,rfl,hS,hv⟩:=h.st
 exact ⟨_,at_v hS (List.getElem?_eq_getElem hv.lt)⟩
theorem StOn.tree (h:StOn t φ sb r w):Calls Tryz.prog 19 #[.pointer (some ⟨sb,0,none⟩)] w fun e w'=>∃ g cap,e = .returned (.slice (some ⟨g,0,none⟩) t.length cap)∧w.heap.size≤g∧TreeAt w' g 0 t∧Below w.heap.size w w':=by
 obtain ⟨B,k,s,rfl,hS,hv⟩:=h.st
 obtain ⟨B',hB,hR,_,_⟩:=hS.here
 have ht:=hS.tree
 have hf:=hS.few
 rw [←hB]
 refine (tree_any hR (by rw [ht];omega)).mono ?_
 rintro e w' ⟨g,cap,cs,rfl,h1,h2,h3,h4⟩
 rw [ht] at h3 ⊢
 exact ⟨g,cap,rfl,h1,fun j u hj=>by rw [World.cell?,h2];exact h3 j u hj,h4⟩
theorem StOn.copy (h:StOn t φ sb r w) (hT:L.IsT L.idc t (t.length - 1) T) (hk:TrOK T l) (hz:TzTab w) (hp:PowTab w) {b o cap:Nat} (hu:TreeAt w b o (T.post 0)) :
  Calls Tryz.prog 26 #[.pointer (some ⟨sb,0,none⟩),.int .i64 (r:Nat),.slice (some ⟨b,o,none⟩) (T.post 0).length cap] w fun e w'=>∃ sb' r',e = .returned (.tuple #[.pointer (some ⟨sb',0,none⟩),.int .i64 (r':Nat),.int .i64 0])∧StAt T φ sb' r' w'∧Below w.heap.size w w':=by
 have hc:=h.chk
 obtain ⟨B,k,s,rfl,hS,hv⟩:=h.st
 refine (copy_any hS hv hu hk.chk hk.len (fun v=>(hT.root_mem hc v).symm.trans (hk.root.root_mem hk.chk v)) hz hp).mono ?_
 rintro e w' ⟨B',so,r',rfl,h1,h2,_,h4⟩
 exact ⟨B'.sb,r',rfl,.of h1 h2,h4⟩
theorem txOf_len (h:StOn t φ sb r w):(txOf t φ).length≤4000000:=by
 obtain ⟨B,k,s,rfl,hS,hv⟩:=h.st
 have hf:=hS.few
 have h0:=hS.pos
 have ht:=hS.tree
 rw [←txOf_eq hS.inv hS.tree hv]
 have h1:=(L.tx_len hS.inv (by rw [ht];exact hf) r hv.lt (s.tree.length - 1) (by rw [ht];omega) (dep_root hS.inv hv.lt)).2
 have h2:=L.nv_le hS.inv.tree (v:=s.tree.length - 1) (by rw [ht];omega)
 rw [ht] at h1 h2
 exact Nat.le_trans h1 ((show ∀ n,n≤6→L.tB n≤4000000 by decide) _ (by omega))
end
end Go.Proofs.YtemnmcfmabamcaaGreatDoor
end
section
set_option linter.unusedSimpArgs false
set_option linter.unusedVariables false
namespace Go.Proofs.YtemnmcfmabamcaaGreatDoor
open Go Go.RowKit Go.Shelf
theorem ba_size (l:List UInt8):(⟨l.toArray⟩:ByteArray).size = l.length:=by simp [ByteArray.size]
def digL (n:Nat):List UInt8:=[UInt8.ofNat (48+n)]
def decN (n:Nat):List UInt8:=if n≤9 then digL n else if n≤99 then digL (n / 10)++digL (n % 10) else digL (n / 10 / 10)++digL (n / 10 % 10)++digL (n % 10)
end Go.Proofs.YtemnmcfmabamcaaGreatDoor
end
section
set_option linter.unusedSimpArgs false
set_option linter.unusedVariables false
namespace Go.Proofs.YtemnmcfmabamcaaGreatDoor
open Go Go.RowKit Go.Shelf
def strB (l:List UInt8):ByteArray:=⟨l.toArray⟩
theorem strB_size (a:List UInt8):(strB a).size = a.length:=ba_size a
end Go.Proofs.YtemnmcfmabamcaaGreatDoor
end
section
set_option linter.unusedSimpArgs false
set_option linter.unusedVariables false
namespace Go.Proofs.YtemnmcfmabamcaaGreatDoor
open Go Go.RowKit Go.Shelf
theorem own_at {w:World} {N n:Nat} {e:TypeId} {v:Value} {xs:List Value} (h:w.ownsRow N e 1 v n xs) (hn:0 < n):∃ g cap,v = .slice (some ⟨g,0,none⟩) n cap∧N≤g:=by
 obtain ⟨_,⟨rfl,e⟩ | ⟨g,cap,cur,rfl,hg,_⟩⟩:=h
 ·omega
 ·exact ⟨g,cap,rfl,hg⟩
theorem own_cellAt {w:World} {N n g cap:Nat} {e:TypeId} {xs:List Value} (h:w.ownsRow N e 1 (.slice (some ⟨g,0,none⟩) n cap) n xs) {j:Nat} {u:Value} (hj:xs[j]? = some u):w.cell? ⟨g,j,none⟩ = some u:=by
 have hjl:=(List.getElem?_eq_some_iff.1 hj).1
 rw [h.cellAt j (by have:=h.1;omega),hj]
theorem heap_set_ne {w:World} {b k:Nat} (o:Nat) (v:Value) (h:k≠b):(w.setCell ⟨b,o,none⟩ v).heap[k]? = w.heap[k]?:=by
 simp only [World.setCell,Array.getElem?_modify]
 rw [if_neg (fun e=>h e.symm)]
theorem three_allocs (w:World) (c1 c2 c3:Array Value) (t1 t2 t3:TypeId) {x:Nat} (hx:w.heap.size = x) {w3:World} (h:w3 = ((w.alloc (.cells c1 t1)).alloc (.cells c2 t2)).alloc (.cells c3 t3)) :
  Below w.heap.size w w3∧w3.heap[x]? = some (.cells c1 t1 (0,0))∧w3.heap[x+1]? = some (.cells c2 t2 (0,0))∧w3.heap[x+1+1]? = some (.cells c3 t3 (0,0))∧w3.heap.size = x+3:=by
 subst hx h
 have s1:(w.alloc (.cells c1 t1)).heap.size = w.heap.size+1:=by simp
 have s2:((w.alloc (.cells c1 t1)).alloc (.cells c2 t2)).heap.size = w.heap.size+2:=by simp
 have e1:=heap_alloc_new w (.cells c1 t1)
 have e2:=heap_alloc_new (w.alloc (.cells c1 t1)) (.cells c2 t2)
 have e3:=heap_alloc_new ((w.alloc (.cells c1 t1)).alloc (.cells c2 t2)) (.cells c3 t3)
 rw [s1] at e2
 rw [s2] at e3
 have b1:=(Below.refl w.heap.size w).alloc (Nat.le_refl _) (.cells c1 t1)
 have b2:=b1.alloc (by omega) (.cells c2 t2)
 have b3:=b2.alloc (by omega) (.cells c3 t3)
 refine ⟨b3,?_,?_,e3,by simp⟩
 ·rw [Below.heap_alloc _ _ _ (by omega),Below.heap_alloc _ _ _ (by omega)];exact e1
 ·rw [Below.heap_alloc _ _ _ (by omega)];exact e2
end Go.Proofs.YtemnmcfmabamcaaGreatDoor
end
section
set_option linter.unusedSimpArgs false
set_option linter.unusedVariables false
namespace Go.Proofs.YtemnmcfmabamcaaGreatDoor
open Go Go.RowKit Go.Shelf
theorem belThen {N:Nat} {w wr w':World} (h:Below N w wr) (hN:N = w.heap.size) (hb:Below wr.heap.size wr w'):Below N w w':=h.trans (hb.mono (by have:=h.size;omega))
end Go.Proofs.YtemnmcfmabamcaaGreatDoor
end
section
set_option linter.unusedSimpArgs false
set_option linter.unusedVariables false
namespace Go.Proofs.YtemnmcfmabamcaaGreatDoor
open Go Go.RowKit Go.Shelf
theorem ds_new {t:List VN} (hc:checkF t = 0) (h7:t.length≤7):DS t (newSt t)∧Val (newSt t) 0 (fun _=>false)∧Val (newSt t) 1 fun _=>true:=by
 have hi:=new_inv hc
 exact ⟨⟨⟨hi,by show t.length≤11;omega,by rw [new_big];exact Nat.le_refl _⟩,rfl⟩,⟨(List.getElem?_eq_some_iff.1 hi.zero).1,fun x=>hi.sem0 x⟩,⟨(List.getElem?_eq_some_iff.1 hi.one).1,fun x=>hi.sem1 x⟩⟩
end Go.Proofs.YtemnmcfmabamcaaGreatDoor
end
section
set_option linter.unusedSimpArgs false
set_option linter.unusedVariables false
namespace Go.Proofs.YtemnmcfmabamcaaGreatDoor.L
def chnT:Nat→Tr
 | 0=>.leaf 1
 | n+1=>.node (chnT n) (.leaf ((n+2:Nat):Int))
def chnL (n:Nat):List Int:=(List.range (n+1)).map fun i=>((i+1:Nat):Int)
def chnF (n:Nat):List Bool:=(List.range (2 ^ (n+1))).map fun i=>decide (i+1 = 2 ^ (n+1))
def chnE (n k:Nat):Tr × List (Nat × Nat):=searchT (chnL n) (chnF n) (chnT n).size k (chnT n,[])
def chnB (n k:Nat):Bool:=decide (2 * n≤sizeTr (chnE n k).1 (chnL n) (chnF n)) && (decide (k < 5) || (decide (sizeTr (chnE n k).1 (chnL n) (chnF n) = 2 * n) && decide ((chnE n k).2.length < k)))
theorem chn_all:((List.range 4).all fun n=>(List.range 6).all fun k=>chnB n k) = true:=by decide +kernel
theorem chn_ok (n k:Nat) (hn:n < 4):2 * n≤sizeTr (chnE n k).1 (chnL n) (chnF n)∧(5≤k→sizeTr (chnE n k).1 (chnL n) (chnF n) = 2 * n):=by
 have h:∀ j,j < 6→chnB n j = true:=fun j hj=>List.all_eq_true.1 (List.all_eq_true.1 chn_all n (List.mem_range.2 hn)) j (List.mem_range.2 hj)
 have h5:=h 5 (by omega)
 unfold chnB at h5
 simp only [Bool.and_eq_true,Bool.or_eq_true,decide_eq_true_eq] at h5
 obtain ⟨a1,a2⟩:=h5
 obtain ⟨a2,a3⟩:=a2.resolve_left (by omega)
 by_cases hk:k < 6
 ·have:=h k hk
  unfold chnB at this
  simp only [Bool.and_eq_true,Bool.or_eq_true,decide_eq_true_eq] at this
  refine ⟨this.1,fun h5=>?_⟩
  obtain rfl:k = 5:=by omega
  exact a2
 ·have e:chnE n k = chnE n 5:=by
   unfold chnE at a3 ⊢
   obtain ⟨m,rfl⟩:∃ m,k = 5+m:=⟨k - 5,by omega⟩
   rw [searchT_more]
   exact searchT_fix _ _ _ _ (searchT_least _ _ _ 5 (chnT n,[]) (by simpa using a3))
  rw [e]
  exact ⟨a1,fun _=>a2⟩
end Go.Proofs.YtemnmcfmabamcaaGreatDoor.L
end
section
set_option linter.unusedSimpArgs false
set_option linter.unusedVariables false
namespace Go.Proofs.YtemnmcfmabamcaaGreatDoor
open Go Go.RowKit Go.Shelf
def t2v:List VN:=[⟨-1,-1,1⟩,⟨-1,-1,2⟩,⟨0,1,0⟩]
def twoText:List UInt8:=[40,45,49,32,70,59,32,49,32,50,41]
def twB:Bool:=match literalF (newSt t2v) 1 0 with
 | none=>false
 | some (a,s1)=>decide (L.tx s1.nodes a = [49]) && match literalF s1 2 1 with
   | none=>false
   | some (b,s2)=>match andF 14 s2 a b with
     | none=>false
     | some (c,s3)=>decide (L.tx s3.nodes c = twoText)
theorem tw_data:twB = true:=by kernel_rfl
theorem t2v_ok:checkF t2v = 0:=by kernel_rfl
theorem tw_texts:txOf t2v (litφ 1) = [49]∧txOf t2v (fun y=>litφ 1 y && litφ 2 y) = twoText:=by
 have h0:=(ds_new t2v_ok (by decide)).1
 obtain ⟨a,s1,e1,d1,st1,v1⟩:=ds_lit (l:=1) (u:=0) h0 (y:=⟨-1,-1,1⟩) rfl rfl rfl
 obtain ⟨b,s2,e2,d2,st2,v2⟩:=ds_lit (l:=2) (u:=1) d1 (y:=⟨-1,-1,2⟩) rfl rfl rfl
 obtain ⟨c,s3,e3,d3,st3,v3⟩:=ds_and d2 t2v_ok (by decide) (v1.step d1.room.inv st2) v2
 have e1:literalF (newSt t2v) 1 0 = some (a,s1):=e1
 have e2:literalF s1 2 1 = some (b,s2):=e2
 have hd:=tw_data
 unfold twB at hd
 rw [e1] at hd
 simp only [Bool.and_eq_true,decide_eq_true_eq] at hd
 obtain ⟨g1,hd⟩:=hd
 rw [e2] at hd
 simp only at hd
 rw [e3] at hd
 simp only [decide_eq_true_eq] at hd
 exact ⟨by rw [←txOf_eq d1.room.inv d1.tree v1];exact g1,by rw [←txOf_eq d3.room.inv d3.tree v3];exact hd⟩
theorem vw_texts {φ:L.Asg→Bool} (h:∀ y,φ y = (y 1 && (y 2 && y 3))):txOf t4v φ = vwText:=by
 have hc:checkF t4v = 0:=by kernel_rfl
 have h0:=(ds_new hc (by decide)).1
 obtain ⟨a,s1,_,d1,st1,v1⟩:=ds_lit (l:=1) (u:=0) h0 (y:=⟨-1,-1,1⟩) rfl rfl rfl
 obtain ⟨b,s2,_,d2,st2,v2⟩:=ds_lit (l:=2) (u:=1) d1 (y:=⟨-1,-1,2⟩) rfl rfl rfl
 obtain ⟨c,s3,_,d3,st3,v3⟩:=ds_lit (l:=3) (u:=2) d2 (y:=⟨-1,-1,3⟩) rfl rfl rfl
 obtain ⟨d,s4,_,d4,st4,v4⟩:=ds_and d3 hc (by decide) (v2.step d2.room.inv st3) v3
 obtain ⟨e,s5,_,d5,st5,v5⟩:=ds_and d4 hc (by decide) (((v1.step d1.room.inv st2).step d2.room.inv st3).step d3.room.inv st4) v4
 have v6:Val s5 e φ:=v5.congr fun y=>by
  rw [h]
  simp only [litφ]
  cases h1:y 1 <;> cases h2:y 2 <;> cases h3:y 3 <;> simp_all
 rw [←txOf_eq d5.room.inv d5.tree v6]
 exact vw_text d5.room.inv d5.tree v6 h
end Go.Proofs.YtemnmcfmabamcaaGreatDoor
end
section
set_option linter.unusedSimpArgs false
set_option linter.unusedVariables false
namespace Go.Proofs.YtemnmcfmabamcaaGreatDoor
open Go Go.RowKit Go.Shelf
theorem bld_info:(Tryz.prog.info? 111).map (fun i=>(i.size)) = some 2:=by kernel_rfl
theorem byte_info:(Tryz.prog.info? 5).map (fun i=>(i.zero,i.size,i.bytes)) = some (some (.int .u8 0),1,1):=by kernel_rfl
def BdAt (N b:Nat) (l:List UInt8) (w:World):Prop:=Lib.IsBuilderF 111 5 N b (Lib.byteCells l) w
set_option maxRecDepth 100000 in
set_option maxHeartbeats 1000000 in
theorem bcheck_used (b:Nat) (w:World) (h0:w.cell? ⟨b,0,none⟩ = some (.pointer (some ⟨b,0,none⟩))) :
  Calls Tryz.prog 86 #[.pointer (some ⟨b,0,none⟩)] w fun e w'=>e = .returned (.tuple #[])∧w' = w:=by
 obtain ⟨j,hj,hjs⟩:=Option.map_eq_some_iff.1 bld_info
 go_enter Tryz.func86,Tryz.ntmps86
 go_wp2_with fail
 rw [Lib.run_neq_ptr_same w _ Tryz.underlying109 hj]
 go_wp2_with fail
 go_end0
 exact ⟨rfl,rfl⟩
set_option maxRecDepth 100000 in
set_option maxHeartbeats 1000000 in
theorem bcheck_fresh (b:Nat) (w:World) (h0:w.cell? ⟨b,0,none⟩ = some (.pointer none)) (hsh:w.shape? b = some (111,2)) (hfz:w.frozen? ⟨b,0,none⟩ = false) :
  Calls Tryz.prog 86 #[.pointer (some ⟨b,0,none⟩)] w fun e w'=>e = .returned (.tuple #[])∧w' = w.setCell ⟨b,0,none⟩ (.pointer (some ⟨b,0,none⟩)):=by
 obtain ⟨j,hj,hjs⟩:=Option.map_eq_some_iff.1 bld_info
 go_enter Tryz.func86,Tryz.ntmps86
 go_wp2_with fail
 rw [Lib.run_to_unsafe w ⟨b,0,none⟩ Tryz.underlying109 Tryz.underlying168 hj (by rw [hjs];decide) hsh (Nat.zero_lt_succ 1)]
 simp only [Result.andThen]
 rw [Oper.upon_value]
 go_wp2_with fail
 rw [run_callFunc_extern Tryz.func114 (by kernel_rfl) (by kernel_rfl) (by kernel_rfl) (e:=Extern.AbiNoEscape.same) (by kernel_rfl)]
 rw [Lib.run_noEscape]
 simp only [Result.andThen]
 rw [Oper.upon_value]
 go_wp2_with fail
 rw [Lib.run_from_unsafe w ⟨b,0,none⟩ Tryz.underlying168 Tryz.underlying109 hj hsh (by kernel_rfl)]
 simp only [Result.andThen]
 rw [Oper.upon_value]
 go_wp2_with fail
 go_end0
 exact ⟨rfl,rfl⟩
def BdRet (N b:Nat) (l:List UInt8) (w w':World):Prop:=BdAt N b l w'∧Below N w w'∧Lib.OthersKept 5 (some b) w w'
theorem bcheck_any {N b:Nat} {bs:List Value} {w:World} (h:Lib.IsBuilderF 111 5 N b bs w) :
  Calls Tryz.prog 86 #[.pointer (some ⟨b,0,none⟩)] w fun e w'=>e = .returned (.tuple #[])∧(Lib.BuilderAtF 111 5 N b (.pointer (some ⟨b,0,none⟩)) bs w'∧Below N w w'∧Lib.OthersKept 5 (some b) w w'):=by
 rcases h with h | h
 ·refine (bcheck_fresh b w h.cell0 h.shape h.frozen0).mono ?_
  rintro e w' ⟨rfl,rfl⟩
  exact ⟨rfl,h.used _,(Below.refl N w).setCell (p:=⟨b,0,none⟩) h.1 _,(Lib.OthersKept.refl _ _ w).setCell ⟨b,0,none⟩ rfl _⟩
 ·refine (bcheck_used b w h.cell0).mono ?_
  rintro e w' ⟨rfl,rfl⟩
  exact ⟨rfl,h,Below.refl N _,Lib.OthersKept.refl _ _ _⟩
set_option maxRecDepth 100000 in
set_option maxHeartbeats 2000000 in
theorem bbyte_any {N b:Nat} {l:List UInt8} {w:World} (c:UInt8) (h:BdAt N b l w) (hl:l.length≤1000000) (hN:N≤w.heap.size) :
  Calls Tryz.prog 57 #[.pointer (some ⟨b,0,none⟩),.int .u8 (c.toNat:Nat)] w fun e w'=>e = .returned .nilIface∧BdRet N b (l++[c]) w w':=by
 obtain ⟨i0,hi,hz0,hz1,hz2⟩:=info_parts byte_info
 have q1:=bcheck_any h
 have hbl:(Lib.byteCells l).length = l.length:=Lib.byteCells_length l
 go_enter Tryz.func57,Tryz.ntmps57
 go_wp2_with fail
 refine q1.mono ?_
 rintro e w1 ⟨rfl,h1,hb1,hk1⟩
 clear q1
 obtain ⟨hB,v,hbk,hown,hne⟩:=h1
 have c0:w1.cell? ⟨b,0,none⟩ = some (.pointer (some ⟨b,0,none⟩)):=by rw [Lib.cell_of_heap hbk];rfl
 have c1:w1.cell? ⟨b,1,none⟩ = some v:=by rw [Lib.cell_of_heap hbk];rfl
 have hs1:=hb1.size
 have hNs:N≤(w1.alloc (.cells #[.int .u8 (c.toNat:Nat)] 5)).heap.size:=by simp;omega
 go_wp2_with (at_builtin;(refine wpList_append_ownF _ rfl _ _ 72 rfl N 5 i0 (.int .u8 0) 1 1 Tryz.underlying72 hi hz0 hz1 hz2 rfl (by decide) _ _ _ rfl (hown.alloc _) ⟨w1.heap.size,0,none⟩ 1 1 [.int .u8 (c.toNat:Nat)] rfl rfl ?c1 ?c2 ?c3 ?c4 ?c5 ?_))
 case c1=>exact cell_one_at _ _ _ _ rfl
 case c2=>simp [Value.oneCell']
 case c3=>unfold maxLen;omega
 case c4=>omega
 case c5=>exact hNs
 intro v' w2 hown' hgrow _
 have hlt:b < w1.heap.size:=(Array.getElem?_eq_some_iff.1 hbk).1
 have hb2:w2.heap[b]? = some (.cells #[.pointer (some ⟨b,0,none⟩),v] 111 (0,0)):=by
  rw [hgrow.block b (by simp;omega) (fun e=>hne e.symm),Lib.alloc_old w1 _ b hlt]
  exact hbk
 have d0:w2.cell? ⟨b,0,none⟩ = some (.pointer (some ⟨b,0,none⟩)):=by rw [Lib.cell_of_heap hb2];rfl
 have d1:w2.cell? ⟨b,1,none⟩ = some v:=by rw [Lib.cell_of_heap hb2];rfl
 have f1:w2.frozen? ⟨b,1,none⟩ = false:=Lib.frozen_of_heap hb2 1
 obtain ⟨g,cap,rfl⟩:∃ g cap,v' = .slice (some ⟨g,0,none⟩) (l.length+1) cap:=by
  rcases hown'.2 with ⟨_,h0⟩ | ⟨g,cap,cur,fz,hv,_⟩
  ·omega
  ·exact ⟨g,cap,hv⟩
 have hA:Lib.BuilderAtF 111 5 N b (.pointer (some ⟨b,0,none⟩)) (Lib.byteCells (l++[c])) (w2.setCell ⟨b,1,none⟩ (.slice (some ⟨g,0,none⟩) (l.length+1) cap)):=by
  rw [Lib.byteCells_append]
  exact Lib.BuilderAtF.put (T:=111) (e:=5) hB hb2 (bs':=Lib.byteCells l++Lib.byteCells [c]) (by rw [List.length_append,Lib.byteCells_length,Lib.byteCells_length];exact hown') (by decide)
 have hF:Below N w (w2.setCell ⟨b,1,none⟩ (.slice (some ⟨g,0,none⟩) (l.length+1) cap)):=((hb1.alloc (by omega) _).grown hgrow hNs (fun k hk=>(hown.lt k hk).1)).setCell (p:=⟨b,1,none⟩) hB _
 have hO:Lib.OthersKept 5 (some b) w (w2.setCell ⟨b,1,none⟩ (.slice (some ⟨g,0,none⟩) (l.length+1) cap)):=((hk1.alloc _).grown hgrow (Lib.ownsRowF_kind (hown.alloc _))).setCell ⟨b,1,none⟩ rfl _
 replace hA:=Lib.hid hA
 replace hF:=Lib.hid hF
 replace hO:=Lib.hid hO
 clear hgrow hown' hown hbk hb1 hk1 hb2 hbl
 go_wp2_with fail
 go_ret
 exact ⟨rfl,.inr hA.out,hF.out,hO.out⟩
set_option maxRecDepth 100000 in
set_option maxHeartbeats 2000000 in
theorem bstr_any {N b:Nat} {l s:List UInt8} {w:World} (h:BdAt N b l w) (hl:l.length≤1000000) (hs:s.length≤1000000) (hN:N≤w.heap.size) :
  Calls Tryz.prog 55 #[.pointer (some ⟨b,0,none⟩),.string ⟨s.toArray⟩] w fun e w'=>(∃ n:Int,e = .returned (.tuple #[.int .i64 n,.nilIface]))∧BdRet N b (l++s) w w':=by
 obtain ⟨i0,hi,hz0,hz1,hz2⟩:=info_parts byte_info
 have q1:=bcheck_any h
 have hbl:(Lib.byteCells l).length = l.length:=Lib.byteCells_length l
 have hsz:(⟨s.toArray⟩:ByteArray).size = s.length:=by simp [ByteArray.size]
 go_enter Tryz.func55,Tryz.ntmps55
 go_wp2_with fail
 refine q1.mono ?_
 rintro e w1 ⟨rfl,h1,hb1,hk1⟩
 clear q1
 obtain ⟨hB,v,hbk,hown,hne⟩:=h1
 have c0:w1.cell? ⟨b,0,none⟩ = some (.pointer (some ⟨b,0,none⟩)):=by rw [Lib.cell_of_heap hbk];rfl
 have c1:w1.cell? ⟨b,1,none⟩ = some v:=by rw [Lib.cell_of_heap hbk];rfl
 have hs1:=hb1.size
 have hNs:N≤w1.heap.size:=by omega
 generalize hS:(⟨s.toArray⟩:ByteArray) = S at *
 go_wp2_with (at_builtin;refine Lib.wpList_append_own_stringF _ rfl _ _ 72 9 rfl N 5 i0 Tryz.underlying72 Tryz.underlying9 hi hz0 hz1 hz2 _ _ _ rfl hown S rfl (by unfold maxLen;omega) (by omega) hNs ?_)
 intro v' w2 hown' hgrow _
 have hlt:b < w1.heap.size:=(Array.getElem?_eq_some_iff.1 hbk).1
 have hb2:w2.heap[b]? = some (.cells #[.pointer (some ⟨b,0,none⟩),v] 111 (0,0)):=by
  rw [hgrow.block b hlt (fun e=>hne e.symm)]
  exact hbk
 have d0:w2.cell? ⟨b,0,none⟩ = some (.pointer (some ⟨b,0,none⟩)):=by rw [Lib.cell_of_heap hb2];rfl
 have d1:w2.cell? ⟨b,1,none⟩ = some v:=by rw [Lib.cell_of_heap hb2];rfl
 have f1:w2.frozen? ⟨b,1,none⟩ = false:=Lib.frozen_of_heap hb2 1
 obtain ⟨ao,n',cap,rfl⟩:∃ ao n' cap,v' = .slice ao n' cap:=by
  rcases hown'.2 with ⟨hv,_⟩ | ⟨g,cap,cur,fz,hv,_⟩
  ·exact ⟨_,_,_,hv⟩
  ·exact ⟨_,_,_,hv⟩
 have hA:Lib.BuilderAtF 111 5 N b (.pointer (some ⟨b,0,none⟩)) (Lib.byteCells (l++s)) (w2.setCell ⟨b,1,none⟩ (.slice ao n' cap)):=by
  rw [Lib.byteCells_append,←Lib.strCells_toArray s,hS]
  exact Lib.BuilderAtF.put (T:=111) (e:=5) hB hb2 (bs':=Lib.byteCells l++Lib.strCells S) (by rw [List.length_append,Lib.strCells_length,Lib.byteCells_length,hsz];exact hown') (by decide)
 have hF:Below N w (w2.setCell ⟨b,1,none⟩ (.slice ao n' cap)):=(hb1.grown hgrow hNs (fun k hk=>(hown.lt k hk).1)).setCell (p:=⟨b,1,none⟩) hB _
 have hO:Lib.OthersKept 5 (some b) w (w2.setCell ⟨b,1,none⟩ (.slice ao n' cap)):=(hk1.grown hgrow (Lib.ownsRowF_kind hown)).setCell ⟨b,1,none⟩ rfl _
 replace hA:=Lib.hid hA
 replace hF:=Lib.hid hF
 replace hO:=Lib.hid hO
 replace hS:=Lib.hid hS
 clear hgrow hown' hown hbk hb1 hk1 hb2 hbl
 go_wp2_with fail
 go_ret2
 exact ⟨⟨_,rfl⟩,.inr hA.out,hF.out,hO.out⟩
end Go.Proofs.YtemnmcfmabamcaaGreatDoor
end
