import Derived.Test.YtckhohpbokojdaaGreatDoorMN32
import Derived.Deep.CutRange
set_option linter.unusedSimpArgs false
set_option linter.unusedVariables false
namespace Go.Proofs.YtckhohpbokojdaaGreatDoor
open Go Go.RowKit Go.Shelf
def repN (κ:Int→Int) (y:L.ND):L.ND:=if y.kind = 2 then if κ y.lit = 2 then y else ⟨κ y.lit,0,[]⟩ else y
def repU (κ:Int→Int) (nl:List L.ND) (us:Nat→Value) (i:Nat):Nat→Value:=fun k=>if k < i∧(L.ndAt nl k).kind = 2∧κ (L.ndAt nl k).lit≠2 then .slice none 0 0 else us k
def repY (κ:Int→Int) (nl:List L.ND) (i:Nat):Nat→L.ND:=fun k=>if k < i then repN κ (L.ndAt nl k) else L.ndAt nl k
theorem rep_keep {κ:Int→Int} {nl:List L.ND} {us:Nat→Value} {i:Nat} (h:(L.ndAt nl i).kind≠2∨κ (L.ndAt nl i).lit = 2):(∀ k,repY κ nl i k = repY κ nl (i+1) k)∧∀ k,repU κ nl us i k = repU κ nl us (i+1) k:=by
 refine ⟨fun k=>?_,fun k=>?_⟩
 ·unfold repY
  by_cases e:k = i
  ·subst e
   rw [if_neg (Nat.lt_irrefl _),if_pos (Nat.lt_succ_self _)]
   unfold repN
   rcases h with h | h
   ·rw [if_neg h]
   ·rw [if_pos h];split <;> rfl
  ·by_cases e2:k < i
   ·rw [if_pos e2,if_pos (by omega)]
   ·rw [if_neg e2,if_neg (by omega)]
 ·unfold repU
  by_cases e:k = i
  ·subst e
   rw [if_neg (fun a=>absurd a.1 (Nat.lt_irrefl _)),if_neg (fun a=>h.elim (fun h=>h a.2.1) (fun h=>a.2.2 h))]
  ·by_cases e2:k < i
   ·have:k < i+1:=by omega
    simp [e2,this]
   ·have:¬ k < i+1:=by omega
    simp [e2,this]
theorem rep_put {κ:Int→Int} {nl:List L.ND} {us:Nat→Value} {i:Nat} (h:(L.ndAt nl i).kind = 2) (h2:κ (L.ndAt nl i).lit≠2):(∀ k,(if k = i then (⟨κ (L.ndAt nl i).lit,0,[]⟩:L.ND) else repY κ nl i k) = repY κ nl (i+1) k)∧∀ k,(if k = i then Value.slice none 0 0 else repU κ nl us i k) = repU κ nl us (i+1) k:=by
 refine ⟨fun k=>?_,fun k=>?_⟩
 ·unfold repY
  by_cases e:k = i
  ·subst e
   rw [if_pos rfl,if_pos (Nat.lt_succ_self _)]
   unfold repN
   rw [if_pos h,if_neg h2]
  ·by_cases e2:k < i
   ·rw [if_neg e,if_pos e2,if_pos (by omega)]
   ·rw [if_neg e,if_neg e2,if_neg (by omega)]
 ·unfold repU
  by_cases e:k = i
  ·subst e
   rw [if_pos rfl,if_pos ⟨Nat.lt_succ_self _,h,h2⟩]
  ·by_cases e2:k < i
   ·have:k < i+1:=by omega
    simp [e,e2,this]
   ·have:¬ k < i+1:=by omega
    simp [e,e2,this]
def RpI (w:World) (ob g cap m:Nat) (n:Int) (ys:Nat→L.ND) (us:Nat→Value) (V:World):Prop:=Below w.heap.size w V∧V.heap[ob]? = some (.cells #[.int .i64 n,.slice (some ⟨g,0,none⟩) m cap] 24 (0,0))∧NdRow V g m ys us∧V.heap[w.heap.size+1]? = some (.cells #[.int .i64 0,.slice none 0 0] 24 (0,0))∧(w.heap.size+2≤ob∧w.heap.size+2≤g)
section
variable {w V V':World} {ob g cap m:Nat} {n:Int} {ys:Nat→L.ND} {us:Nat→Value}
theorem RpI.next (h:RpI w ob g cap m n ys us V) (hb:Below V.heap.size V V'):RpI w ob g cap m n ys us V':=by
 obtain ⟨h1,h2,h3,h4,h5⟩:=h
 have k:∀ {j:Nat} {x:Obj},V.heap[j]? = some x→V'.heap[j]? = some x:=fun {j x} e=>(hb.block _ (Array.getElem?_eq_some_iff.1 e).1).trans e
 exact ⟨h1.trans (hb.mono h1.size),k h2,h3.same (hb.block _ h3.lt),k h4,h5⟩
theorem RpI.cells (h:RpI w ob g cap m n ys us V):V.cell? ⟨ob,0,none⟩ = some (.int .i64 n)∧V.cell? ⟨ob,1,none⟩ = some (.slice (some ⟨g,0,none⟩) m cap):=⟨by rw [World.cell?,h.2.1];rfl,by rw [World.cell?,h.2.1];rfl⟩
theorem RpI.congr {ys':Nat→L.ND} {us':Nat→Value} (h:RpI w ob g cap m n ys us V) (h1:∀ k,ys k = ys' k) (h2:∀ k,us k = us' k):RpI w ob g cap m n ys' us' V:=⟨h.1,h.2.1,h.2.2.1.congr (fun k _=>h1 k) (fun k _=>h2 k),h.2.2.2⟩
theorem RpI.set (h:RpI w ob g cap m n ys us V) (i:Nat) (y:L.ND) (u:Value):RpI w ob g cap m n (fun k=>if k = i then y else ys k) (fun k=>if k = i then u else us k) (((V.setCell ⟨g,i * 3,none⟩ (.int .i64 y.kind)).setCell ⟨g,i * 3+1,none⟩ (.int .i64 y.lit)).setCell ⟨g,i * 3+2,none⟩ u):=by
 obtain ⟨h1,h2,h3,h4,h5⟩:=h
 obtain ⟨c,hc,_⟩:=id h3
 have hg0:w.heap.size≤g:=by omega
 have k:∀ {j:Nat} {c':Array Value},V.heap[j]? = some (.cells c' 24 (0,0))→(((V.setCell ⟨g,i * 3,none⟩ (.int .i64 y.kind)).setCell ⟨g,i * 3+1,none⟩ (.int .i64 y.lit)).setCell ⟨g,i * 3+2,none⟩ u).heap[j]? = some (.cells c' 24 (0,0)):=fun {j c'} e=>by
  have hne:=ne_type e hc (by decide)
  rw [Below.heap_setCell _ _ _ _ hne,Below.heap_setCell _ _ _ _ hne,Below.heap_setCell _ _ _ _ hne];exact e
 exact ⟨((h1.setCell (p:=⟨g,i * 3,none⟩) hg0 _).setCell (p:=⟨g,i * 3+1,none⟩) hg0 _).setCell (p:=⟨g,i * 3+2,none⟩) hg0 _,k h2,h3.set i y u,k h4,h5⟩
theorem RpI.made {z0 z1:Value} (hb:Below w.heap.size w V) (ho:w.heap.size+2≤ob) (hg:w.heap.size+2≤g) (hz:V.heap[w.heap.size+1]? = some (.cells #[.int .i64 0,.slice none 0 0] 24 (0,0))) (hob:V.heap[ob]? = some (.cells #[z0,z1] 24 (0,0))) (hr:NdRow V g m ys us):RpI w ob g cap m n ys us ((V.setCell ⟨ob,0,none⟩ (.int .i64 n)).setCell ⟨ob,1,none⟩ (.slice (some ⟨g,0,none⟩) m cap)):=by
 obtain ⟨c,hc,_⟩:=id hr
 have hne:g≠ob:=ne_type hc hob (by decide)
 refine ⟨(hb.setCell (p:=⟨ob,0,none⟩) (show w.heap.size≤ob by omega) _).setCell (p:=⟨ob,1,none⟩) (show w.heap.size≤ob by omega) _,heap_set2 hob _ _,hr.same ?_,?_,ho,hg⟩
 ·rw [Below.heap_setCell _ _ _ _ hne,Below.heap_setCell _ _ _ _ hne]
 ·have h1:w.heap.size+1≠ob:=by omega
  rw [Below.heap_setCell _ _ _ _ h1,Below.heap_setCell _ _ _ _ h1];exact hz
end
theorem repN_or (κ:Int→Int) (hκ:∀ z,κ z = 0∨κ z = 1∨κ z = 2) (y:L.ND):repN κ y = y∨((repN κ y).kind = 0∨(repN κ y).kind = 1)∧(repN κ y).lit = 0∧(repN κ y).inp = []:=by
 unfold repN
 by_cases h1:y.kind = 2
 ·rw [if_pos h1]
  by_cases h2:κ y.lit = 2
  ·rw [if_pos h2];exact .inl rfl
  ·rw [if_neg h2];exact .inr ⟨by rcases hκ y.lit with h | h | h;exact .inl h;exact .inr h;exact absurd h h2,rfl,rfl⟩
 ·rw [if_neg h1];exact .inl rfl
set_option maxRecDepth 100000 in
set_option maxHeartbeats 40000000 in
theorem replaced_any {fm:Nat} {q:Value} {κ:Int→Int} {n:Int} {nl:List L.ND} {v:Value} {w:World} (hKf:∀ (c:Array Value) (w:World),(callFunc fm c).run Tryz.prog w = .ok (.enter fm c) w) (hκ:∀ z,κ z = 0∨κ z = 1∨κ z = 2)
  (hcl:∀ (z:Int) (V:World),-128≤z→z≤128→Below w.heap.size w V→Calls Tryz.prog fm #[.int .i64 z,q] V fun e V'=>e = .returned (.int .i64 (κ z))∧Below V.heap.size V V')
  (hv:SlC w v (nl.map L.ofND)) (hc:L.netChk n (nl.map L.ofND) = 0) (hl:nl.length≤2000) (h2:∀ y∈nl,y.inp.length≤100000) (hP:PowTab w) (hgP:gPow < w.heap.size) :
  Calls Tryz.prog 37 #[.agg #[.int .i64 n,v],.func (.func fm) #[] #[q]] w fun e w'=>∃ vL us,e = .returned (.tuple #[.agg #[.int .i64 n,vL],.int .i64 0])∧w'.ownsRow w.heap.size 40 3 vL (L.reduceL (nl.map (repN κ))).length (gCells ((L.reduceL (nl.map (repN κ))).map L.ofND) us)∧RowsOf w' w.heap.size us ((L.reduceL (nl.map (repN κ))).map fun y=>castL y.inp)∧Below w.heap.size w w':=by
 have hnok:L.NOK n nl:=by
  have:=(L.net_nok hc).1
  rwa [List.map_map,show (L.toND ∘ L.ofND) = id from funext L.toND_ofND,List.map_id] at this
 obtain ⟨hn,hl1,_⟩:=L.netChk_ok.1 hc
 rw [List.length_map] at hl1
 obtain ⟨ba,cp,rfl,hcs⟩:=hv.shape
 obtain ⟨b,o,-,-,rfl,-⟩:=hcs 0 (by rw [List.length_map];omega)
 have hcell:∀ k (hk:k < nl.length),∃ bb cc,w.cell? ⟨b,o+k * 3,none⟩ = some (.int .i64 nl[k].kind)∧w.cell? ⟨b,o+k * 3+1,none⟩ = some (.int .i64 nl[k].lit)∧w.cell? ⟨b,o+k * 3+2,none⟩ = some (.slice bb nl[k].inp.length cc)∧SlI w (.slice bb nl[k].inp.length cc) (castL nl[k].inp):=fun k hk=>by
  obtain ⟨b',o',bb,cc,h1,f0,f1,f2,fin⟩:=hcs k (by rw [List.length_map];exact hk)
  cases h1
  rw [List.getElem_map] at f0 f1 f2 fin
  have e:(L.ofND nl[k]).inp.length = nl[k].inp.length:=castL_len nl[k].inp
  rw [e] at f2 fin
  exact ⟨bb,cc,f0,f1,f2,fin⟩
 rw [List.length_map]
 have husl:∀ k (hk:k < nl.length),∃ bb cc,usOf w b o k = .slice bb nl[k].inp.length cc∧SlI w (.slice bb nl[k].inp.length cc) (castL nl[k].inp):=fun k hk=>by
  obtain ⟨bb,cc,_,_,f2,fin⟩:=hcell k hk
  exact ⟨bb,cc,by unfold usOf;rw [f2];rfl,fin⟩
 have hx2:Ext w ((w.alloc (.cells #[.int .i64 n,.slice (some ⟨b,o,none⟩) nl.length cp] 24)).alloc (.cells #[.int .i64 0,.slice none 0 0] 24)):=((Ext.refl w).alloc _).alloc _
 obtain ⟨e0,e1⟩:=alloc2h w (.cells #[.int .i64 n,.slice (some ⟨b,o,none⟩) nl.length cp] 24) (.cells #[.int .i64 0,.slice none 0 0] 24)
 obtain ⟨w2,hw2⟩:∃ W,W = ((w.alloc (.cells #[.int .i64 n,.slice (some ⟨b,o,none⟩) nl.length cp] 24)).alloc (.cells #[.int .i64 0,.slice none 0 0] 24)):=⟨_,rfl⟩
 have hs2:w2.heap.size = w.heap.size+2:=by rw [hw2];simp
 rw [←hw2] at hx2 e0 e1
 have hb2:∀ V,Below w2.heap.size w2 V→(V.cell? ⟨w.heap.size,0,none⟩ = some (.int .i64 n)∧V.cell? ⟨w.heap.size,1,none⟩ = some (.slice (some ⟨b,o,none⟩) nl.length cp)):=fun V hV=>by
  have f:=(hV.block _ (Array.getElem?_eq_some_iff.1 e0).1).trans e0
  exact ⟨by rw [World.cell?,f];rfl,by rw [World.cell?,f];rfl⟩
 have qc:∀ V,Below w2.heap.size w2 V→Calls Tryz.prog 61 #[.slice (some ⟨b,o,none⟩) nl.length cp] V fun e w'=>∃ g cap,e = .returned (.slice (some ⟨g,0,none⟩) nl.length cap)∧V.heap.size≤g∧NdRow w' g nl.length (repY κ nl 0) (repU κ nl (usOf w b o) 0)∧Below V.heap.size V w':=fun V hV=>by
  have hwV:Below w.heap.size w V:=hx2.below.trans (hV.mono hx2.size)
  refine (cloneNd_any (w:=V) (b:=b) (o:=o) (cp:=cp) hl1.1 (by omega) (fun k hk=>by
   obtain ⟨bb,cc,f0,f1,f2,_⟩:=hcell k hk
   exact ⟨bb,cc,(hwV.cell (World.block_lt_of_cell? w _ f0)).trans f0,(hwV.cell (World.block_lt_of_cell? w _ f1)).trans f1,(hwV.cell (World.block_lt_of_cell? w _ f2)).trans f2⟩)).mono ?_
  rintro e w' ⟨g,cap,rfl,hg,hr,hb⟩
  refine ⟨g,cap,rfl,hg,hr.congr (fun k _=>?_) (fun k hk=>?_),hb⟩
  ·unfold repY;rw [if_neg (Nat.not_lt_zero _)]
  ·obtain ⟨bb,cc,f0,f1,f2,_⟩:=hcell k hk
   unfold repU
   rw [if_neg (fun a=>absurd a.1 (Nat.not_lt_zero _))]
   unfold usOf
   rw [f2,(hwV.cell (World.block_lt_of_cell? w _ f2)).trans f2]
 have hmade:∀ (V:World) (ob g cap:Nat),Below w2.heap.size w2 V→w2.heap.size≤ob→w2.heap.size≤g→V.heap[ob]? = some (.cells #[.int .i64 0,.slice none 0 0] 24 (0,0))→NdRow V g nl.length (repY κ nl 0) (repU κ nl (usOf w b o) 0)→RpI w ob g cap nl.length n (repY κ nl 0) (repU κ nl (usOf w b o) 0) ((V.setCell ⟨ob,0,none⟩ (.int .i64 n)).setCell ⟨ob,1,none⟩ (.slice (some ⟨g,0,none⟩) nl.length cap))∧(((V.setCell ⟨ob,0,none⟩ (.int .i64 n)).setCell ⟨ob,1,none⟩ (.slice (some ⟨g,0,none⟩) nl.length cap)).cell? ⟨w.heap.size,0,none⟩ = some (.int .i64 n)∧((V.setCell ⟨ob,0,none⟩ (.int .i64 n)).setCell ⟨ob,1,none⟩ (.slice (some ⟨g,0,none⟩) nl.length cap)).cell? ⟨w.heap.size,1,none⟩ = some (.slice (some ⟨b,o,none⟩) nl.length cp)):=fun V ob g cap hV ho hg hob hr=>by
  have hM:=RpI.made (cap:=cap) (n:=n) (hx2.below.trans (hV.mono hx2.size)) (by omega) (by omega) ((hV.block _ (Array.getElem?_eq_some_iff.1 e1).1).trans e1) hob hr
  refine ⟨hM,?_⟩
  have h0:=(hV.block _ (Array.getElem?_eq_some_iff.1 e0).1).trans e0
  have hne:w.heap.size≠ob:=by omega
  have f:((V.setCell ⟨ob,0,none⟩ (.int .i64 n)).setCell ⟨ob,1,none⟩ (.slice (some ⟨g,0,none⟩) nl.length cap)).heap[w.heap.size]? = _:=(Below.heap_setCell _ _ _ _ hne).trans ((Below.heap_setCell _ _ _ _ hne).trans h0)
  exact ⟨by rw [World.cell?,f];rfl,by rw [World.cell?,f];rfl⟩
 have hfin:∀ (V:World) (ob g cap:Nat),RpI w ob g cap nl.length n (repY κ nl nl.length) (repU κ nl (usOf w b o) nl.length) V→Calls Tryz.prog 62 #[.agg #[.int .i64 n,.slice (some ⟨g,0,none⟩) nl.length cap]] V fun e w'=>∃ vL us,e = .returned (.tuple #[.agg #[.int .i64 n,vL],.int .i64 0])∧w'.ownsRow V.heap.size 40 3 vL (L.reduceL (nl.map (repN κ))).length (gCells ((L.reduceL (nl.map (repN κ))).map L.ofND) us)∧RowsOf w' V.heap.size us ((L.reduceL (nl.map (repN κ))).map fun y=>castL y.inp)∧Below V.heap.size V w':=fun V ob g cap hR=>by
  have hnok2:=L.map_nok hnok (repN κ) (repN_or κ hκ)
  have hs:SlC V (.slice (some ⟨g,0,none⟩) nl.length cap) ((nl.map (repN κ)).map L.ofND):=hR.2.2.1.slC (by simp) (fun k hk=>by
   have hk':k < nl.length:=by simpa using hk
   unfold repY
   rw [if_pos hk',L.ndAt_lt hk',List.getElem_map]) (fun k hk=>by
   have hk':k < nl.length:=by simpa using hk
   rw [List.getElem_map]
   unfold repU
   rw [L.ndAt_lt hk']
   by_cases h:nl[k].kind = 2∧κ nl[k].lit≠2
   ·rw [if_pos ⟨hk',h⟩]
    have e:repN κ nl[k] = ⟨κ nl[k].lit,0,[]⟩:=by unfold repN;rw [if_pos h.1,if_neg h.2]
    rw [e]
    exact ⟨none,0,rfl,⟨none,0,rfl,.inl ⟨rfl,rfl,rfl⟩⟩⟩
   ·rw [if_neg (fun a=>h a.2)]
    have e:repN κ nl[k] = nl[k]:=by
     unfold repN
     by_cases h1:nl[k].kind = 2
     ·rw [if_pos h1]
      by_cases h2:κ nl[k].lit = 2
      ·rw [if_pos h2]
      ·exact absurd ⟨h1,h2⟩ h
     ·rw [if_neg h1]
    rw [e]
    obtain ⟨bb,cc,e1,h1⟩:=husl k hk'
    exact ⟨bb,cc,e1,h1.ext hR.1⟩)
  exact nreduce_any hs (L.nok_net hnok2 hn (by simp;omega)) (by simp;omega) (fun y hy=>by
   obtain ⟨x,hx,rfl⟩:=List.mem_map.1 hy
   rcases repN_or κ hκ x with e | e
   ·rw [e];exact h2 x hx
   ·rw [e.2.2];exact Nat.zero_le _) (hP.below hR.1) (Nat.lt_of_lt_of_le hgP hR.1.size)
 have hlit:∀ k (hk:k < nl.length),nl[k].kind = 2→-128≤nl[k].lit∧nl[k].lit≤128:=fun k hk h=>by
  rcases hnok.form _ (List.getElem_mem hk) with e | e | e <;> omega
 obtain ⟨RL,hRL⟩:∃ RL,RL = L.reduceL (nl.map (repN κ)):=⟨_,rfl⟩
 rw [←hRL] at hfin ⊢
 have hsz2:w2.heap.size≤w2.heap.size:=Nat.le_refl _
 have hm0:1≤nl.length:=hl1.1
 replace hRL:=Lib.hid hRL
 replace hcell:=Lib.hid hcell
 replace husl:=Lib.hid husl
 replace hx2:=Lib.hid hx2
 replace e0:=Lib.hid e0
 replace e1:=Lib.hid e1
 replace hb2:=Lib.hid hb2
 replace qc:=Lib.hid qc
 replace hmade:=Lib.hid hmade
 replace hfin:=Lib.hid hfin
 replace hlit:=Lib.hid hlit
 replace hcl:=Lib.hid hcl
 replace hnok:=Lib.hid hnok
 replace hP:=Lib.hid hP
 replace h2:=Lib.hid h2
 replace hκ:=Lib.hid hκ
 replace hs2:=Lib.hid hs2
 replace hw2:=Lib.hid hw2
 clear hcs hc hv hl1 hsz2
 go_enter Tryz.func37,Tryz.ntmps37
 go_upto_region 1 with fail
 rw [←hw2.out]
 have hd2:=Lib.hid ((Below.refl w2.heap.size w2).drew)
 go_cut [6] from 10 to 15 (fun s6 wx=>∃ (ob g cap:Nat),s6 = .pointer (some ⟨ob,0,none⟩)∧Hid (RpI w ob g cap nl.length n (repY κ nl 0) (repU κ nl (usOf w b o) 0) wx))
 case first =>
  obtain ⟨b0,b1⟩:=hb2.out w2 (Below.refl _ _)
  (refine wp_region_held_drew (S:=(fun V=>V.cell? ⟨w.heap.size,0,none⟩ = some (.int .i64 n)∧V.cell? ⟨w.heap.size,1,none⟩ = some (.slice (some ⟨b,o,none⟩) nl.length cp))) (by kernel_rfl) ?_ (fun hHeld=>?_))
  ·exact hb2.out _ hd2.out
  clear b0 b1
  (refine takeL (i:=0) (v:=?_) rfl (by kernel_rfl) (by kernel_rfl) (by kernel_rfl) (fun _ _ _ h=>h) (Or.inl ⟨by rfl,?_⟩) (by assumption) ?_)
  rotate_left
  ·(intro w hSw;(try dsimp only at hSw);go_simp;first | done | with_reducible rfl)
  (try simp only [Act.put,List.setIfInBounds_toArray,List.set_cons_zero,List.set_cons_succ])
  (refine takeL (i:=1) (v:=?_) rfl (by kernel_rfl) (by kernel_rfl) (by kernel_rfl) (fun _ _ _ h=>h) (Or.inl ⟨by rfl,?_⟩) (by assumption) ?_)
  rotate_left
  ·(intro w hSw;(try dsimp only at hSw);go_simp;first | done | with_reducible rfl)
  (try simp only [Act.put,List.setIfInBounds_toArray,List.set_cons_zero,List.set_cons_succ])
  (refine takeL (i:=2) (v:=?_) rfl (by kernel_rfl) (by kernel_rfl) (by kernel_rfl) (fun _ _ _ h=>h) (Or.inl ⟨by rfl,?_⟩) (by assumption) ?_)
  rotate_left
  ·(intro w hSw;(try dsimp only at hSw);go_simp;first | done | with_reducible rfl)
  (try simp only [Act.put,List.setIfInBounds_toArray,List.set_cons_zero,List.set_cons_succ])
  (refine takeL (i:=3) (v:=?_) rfl (by kernel_rfl) (by kernel_rfl) (by kernel_rfl) (fun _ _ _ h=>h) (Or.inl ⟨by rfl,?_⟩) (by assumption) ?_)
  rotate_left
  ·(intro w hSw;(try dsimp only at hSw);go_simp;first | done | with_reducible rfl)
  (try simp only [Act.put,List.setIfInBounds_toArray,List.set_cons_zero,List.set_cons_succ])
  refine wpAnyH_ready (rs:=[4,6]) (by kernel_rfl) (by simp) ?_
  refine consL2 rfl rfl (fun K hK=>?_) (fun K hK=>?_)
  ·(rw [if_pos (by rfl)])
   go_simp
   refine (qc.out _ hd2.out).mono ?_
   rintro e w5 ⟨g,cap,rfl,hg,hrow,hb5⟩
   have hd5:=Lib.hid (hd2.out.trans (hb5.mono hd2.out.size))
   have hsz2:w2.heap.size≤w2.drew.heap.size:=Nat.le_refl _
   refine hK.out _ _ (hb2.out _ hd5.out) (fun hHeld=>?_)
   clear hK K hb5
   (try simp only [Act.put,List.setIfInBounds_toArray,List.set_cons_zero,List.set_cons_succ])
   (refine takeL (i:=5) (v:=?_) rfl (by kernel_rfl) (by kernel_rfl) (by kernel_rfl) (fun _ _ _ h=>h) (Or.inl ⟨by rfl,?_⟩) (by assumption) ?_)
   rotate_left
   ·(intro w hSw;(try dsimp only at hSw);go_simp;first | done | with_reducible rfl)
   (try simp only [Act.put,List.setIfInBounds_toArray,List.set_cons_zero,List.set_cons_succ])
   refine wpAnyH_ready (rs:=[6]) (by kernel_rfl) (by simp) ?_
   refine consL rfl (fun K hK=>?_)
   (rw [if_pos (by rfl)])
   go_simp
   have nb:=heap_alloc_new w5 (.cells #[.int .i64 0,.slice none 0 0] 24)
   have hba:=(Below.refl w5.heap.size w5).alloc (Nat.le_refl _) (.cells #[.int .i64 0,.slice none 0 0] 24)
   have hdN:=Lib.hid (hd5.out.trans (hba.mono hd5.out.size))
   have hobl:w2.heap.size≤w5.heap.size:=hd5.out.size
   replace hrow:=hrow.same (hba.block _ hrow.lt)
   obtain ⟨ob,hobe⟩:∃ ob,ob = w5.heap.size:=⟨_,rfl⟩
   rw [←hobe] at nb hobl ⊢
   replace hobe:=Lib.hid hobe
   obtain ⟨w6,hww⟩:∃ W,W = w5.alloc (.cells #[.int .i64 0,.slice none 0 0] 24):=⟨_,rfl⟩
   rw [←hww] at nb hba hdN hrow ⊢
   replace hww:=Lib.hid hww
   refine hK.out _ _ (hb2.out _ hdN.out) (fun hHeld=>?_)
   clear hK K
   (try simp only [Act.put,List.setIfInBounds_toArray,List.set_cons_zero,List.set_cons_succ])
   have x0:w6.cell? ⟨ob,0,none⟩ = some (.int .i64 0):=by rw [World.cell?,nb];rfl
   have x1:w6.cell? ⟨ob,1,none⟩ = some (.slice none 0 0):=by rw [World.cell?,nb];rfl
   have y0:w6.frozen? ⟨ob,0,none⟩ = false:=by simp [World.frozen?,nb]
   have y1:w6.frozen? ⟨ob,1,none⟩ = false:=by simp [World.frozen?,nb]
   have hM:=Lib.hid (hmade.out w6 ob g cap hdN.out hobl (Nat.le_trans hsz2 hg) nb hrow)
   replace nb:=Lib.hid nb
   clear hrow
   (refine wpAnyH_ready (rs:=[7]) (by kernel_rfl) (by simp) ?_)
   (refine consL rfl (fun K hK=>?_))
   ((rw [if_pos (by rfl)]);go_simp;refine hK.out _ _ (hM.out.2) (fun hHeld=>?_))
   (clear hK K)
   (try simp only [Act.put,List.setIfInBounds_toArray,List.set_cons_zero,List.set_cons_succ])
   (refine wpAnyH_done (by kernel_rfl) ?_ _)
   go_wp2_with fail
   go_meet
   exact ⟨ob,g,cap,rfl,Lib.hid hM.out.1⟩
  ·(rw [if_pos (by rfl)])
   go_simp
   have nb:((w2.alloc (.cells #[.int .i64 0,.slice none 0 0] 24)).drew).heap[w2.heap.size]? = some (.cells #[.int .i64 0,.slice none 0 0] 24):=heap_alloc_new w2 _
   have hba:=((Below.refl w2.heap.size w2).alloc (Nat.le_refl _) (.cells #[.int .i64 0,.slice none 0 0] 24)).drew
   have hd5a:=Lib.hid hba
   obtain ⟨ob,hobe⟩:∃ ob,ob = w2.heap.size:=⟨_,rfl⟩
   have hobl:w2.heap.size≤ob:=Nat.le_of_eq hobe.symm
   rw [←hobe] at nb ⊢
   replace hobe:=Lib.hid hobe
   obtain ⟨w5,hww⟩:∃ W,W = (w2.alloc (.cells #[.int .i64 0,.slice none 0 0] 24)).drew:=⟨_,rfl⟩
   rw [←hww] at nb hba hd5a ⊢
   replace hww:=Lib.hid hww
   refine hK.out _ _ (hb2.out _ hd5a.out) (fun hHeld=>?_)
   clear hK K
   (try simp only [Act.put,List.setIfInBounds_toArray,List.set_cons_zero,List.set_cons_succ])
   refine wpAnyH_ready (rs:=[4]) (by kernel_rfl) (by simp) ?_
   refine consL rfl (fun K hK=>?_)
   (rw [if_pos (by rfl)])
   go_simp
   refine (qc.out _ hd5a.out).mono ?_
   rintro e w6 ⟨g,cap,rfl,hg,hrow,hb6⟩
   have hdN:=Lib.hid (hd5a.out.trans (hb6.mono hd5a.out.size))
   have hsz2:w2.heap.size≤w5.heap.size:=hd5a.out.size
   refine hK.out _ _ (hb2.out _ hdN.out) (fun hHeld=>?_)
   clear hK K
   (try simp only [Act.put,List.setIfInBounds_toArray,List.set_cons_zero,List.set_cons_succ])
   replace nb:=(hb6.block _ (Array.getElem?_eq_some_iff.1 nb).1).trans nb
   (refine takeL (i:=5) (v:=?_) rfl (by kernel_rfl) (by kernel_rfl) (by kernel_rfl) (fun _ _ _ h=>h) (Or.inl ⟨by rfl,?_⟩) (by assumption) ?_)
   rotate_left
   ·(intro w hSw;(try dsimp only at hSw);go_simp;first | done | with_reducible rfl)
   (try simp only [Act.put,List.setIfInBounds_toArray,List.set_cons_zero,List.set_cons_succ])
   have x0:w6.cell? ⟨ob,0,none⟩ = some (.int .i64 0):=by rw [World.cell?,nb];rfl
   have x1:w6.cell? ⟨ob,1,none⟩ = some (.slice none 0 0):=by rw [World.cell?,nb];rfl
   have y0:w6.frozen? ⟨ob,0,none⟩ = false:=by simp [World.frozen?,nb]
   have y1:w6.frozen? ⟨ob,1,none⟩ = false:=by simp [World.frozen?,nb]
   have hM:=Lib.hid (hmade.out w6 ob g cap hdN.out hobl (Nat.le_trans hsz2 hg) nb hrow)
   replace nb:=Lib.hid nb
   clear hrow
   (refine wpAnyH_ready (rs:=[7]) (by kernel_rfl) (by simp) ?_)
   (refine consL rfl (fun K hK=>?_))
   ((rw [if_pos (by rfl)]);go_simp;refine hK.out _ _ (hM.out.2) (fun hHeld=>?_))
   (clear hK K)
   (try simp only [Act.put,List.setIfInBounds_toArray,List.set_cons_zero,List.set_cons_succ])
   (refine wpAnyH_done (by kernel_rfl) ?_ _)
   go_wp2_with fail
   go_meet
   exact ⟨ob,g,cap,rfl,Lib.hid hM.out.1⟩
 case rest =>
  obtain ⟨ob,g,cap,rfl,hI0⟩:=hcut
  have n1:=hI0.out.cells.2
  clear hd2 hmade qc
  go_wp2_with fail
  clear n1
  go_loopw [19] (fun i wr=>∃ k:Nat,k≤nl.length∧i = .int .i64 (k:Nat)∧Hid (RpI w ob g cap nl.length n (repY κ nl k) (repU κ nl (usOf w b o) k) wr)) (fun i _=>nl.length - (intOf i).toNat)
  case atStart=>exact ⟨0,Nat.zero_le _,rfl,hI0⟩
  case round =>
   clear hI0
   obtain ⟨k,hk,rfl,hI⟩:=hrel
   by_cases hlt:k < nl.length
   ·have q0:(0:Int)≤(k:Int):=by omega
    have q1:(k:Int) < (nl.length:Int):=by omega
    obtain ⟨⟨k0,k1,k2⟩,z0,z1,z2⟩:=hI.out.2.2.1.cell hlt
    have eY:repY κ nl k k = L.ndAt nl k:=by unfold repY;rw [if_neg (Nat.lt_irrefl _)]
    have eU:repU κ nl (usOf w b o) k k = usOf w b o k:=by unfold repU;rw [if_neg (fun a=>absurd a.1 (Nat.lt_irrefl _))]
    rw [eY] at k0 k1
    rw [eU] at k2
    obtain ⟨bb,cc,eu,-⟩:=husl.out k hlt
    rw [eu] at k2
    have hlk:=hlit.out k hlt
    have hkeep:=rep_keep (κ:=κ) (nl:=nl) (us:=usOf w b o) (i:=k)
    have hput:=rep_put (κ:=κ) (nl:=nl) (us:=usOf w b o) (i:=k)
    rw [L.ndAt_lt hlt] at k0 k1 hkeep hput
    generalize nl[k] = y at *
    obtain ⟨kd,lt,ip⟩:=y
    dsimp only at *
    have hxx:=(Ext.refl wr).alloc (.cells #[.int .i64 kd,.int .i64 lt,.slice bb ip.length cc] 40)
    have hxn:=heap_alloc_new wr (.cells #[.int .i64 kd,.int .i64 lt,.slice bb ip.length cc] 40)
    have u0:(wr.alloc (.cells #[.int .i64 kd,.int .i64 lt,.slice bb ip.length cc] 40)).cell? ⟨wr.heap.size,0,none⟩ = some (.int .i64 kd):=by rw [World.cell?,hxn];rfl
    have u1:(wr.alloc (.cells #[.int .i64 kd,.int .i64 lt,.slice bb ip.length cc] 40)).cell? ⟨wr.heap.size,1,none⟩ = some (.int .i64 lt):=by rw [World.cell?,hxn];rfl
    have hI6:=hI.out.next hxx.below
    clear eY eU eu hxx hxn hI z0 z1 z2
    by_cases hk2:kd = 2
    ·subst hk2
     obtain ⟨hl0,hl1⟩:=hlk rfl
     have qk:=hcl.out lt (wr.alloc (.cells #[.int .i64 2,.int .i64 lt,.slice bb ip.length cc] 40)) hl0 hl1 hI6.1
     obtain ⟨r,hr⟩:∃ r,r = κ lt:=⟨_,rfl⟩
     rw [←hr] at qk hkeep hput
     replace hr:=Lib.hid hr
     replace hkeep:=Lib.hid hkeep
     replace hput:=Lib.hid hput
     replace hI6:=Lib.hid hI6
     clear hlk
     go_wp2_with fail
     refine qk.mono ?_
     rintro e w7 ⟨rfl,hb7⟩
     have hI7:=hI6.out.next hb7
     clear qk hb7 hI6 u0 u1 k0 k1 k2
     by_cases hr2:r = 2
     ·have dr:(r == 2) = true:=beq_iff_eq.2 hr2
      obtain ⟨e1,e2⟩:=hkeep.out (.inr hr2)
      have hnx:=Lib.hid (hI7.congr e1 e2)
      subst hr2
      clear hI7 e1 e2 hput hkeep dr
      go_wp2_with fail
      go_roundw
      case rel=>exact ⟨k+1,by omega,by go_num,hnx⟩
      case measure=>simp [intOf];omega
     ·have dr:(r == 2) = false:=beq_eq_false_iff_ne.2 hr2
      obtain ⟨e1,e2⟩:=hput.out (by trivial) hr2
      have hnx:=Lib.hid ((hI7.set k ⟨r,0,[]⟩ (.slice none 0 0)).congr e1 e2)
      obtain ⟨⟨k0,k1,k2⟩,z0,z1,z2⟩:=hI7.2.2.1.cell hlt
      have n1:w7.cell? ⟨ob,1,none⟩ = some (.slice (some ⟨g,0,none⟩) nl.length cap):=by rw [World.cell?,hI7.2.1];rfl
      have husk:∃ v,repU κ nl (usOf w b o) k k = v:=⟨_,rfl⟩
      obtain ⟨uv,huv⟩:=husk
      rw [huv] at k2
      replace huv:=Lib.hid huv
      replace hr2:=Lib.hid hr2
      clear hI7 e1 e2 hput hkeep
      go_wp2_with fail
      go_roundw
      case rel=>exact ⟨k+1,by omega,by go_num,hnx⟩
      case measure=>simp [intOf];omega
    ·have d2:(kd == 2) = false:=beq_eq_false_iff_ne.2 hk2
     obtain ⟨e1,e2⟩:=hkeep (.inl hk2)
     have hnx:=Lib.hid (hI6.congr e1 e2)
     clear hI6 e1 e2 hput hkeep hlk
     go_wp2_with fail
     go_roundw
     case rel=>exact ⟨k+1,by omega,by go_num,hnx⟩
     case measure=>simp [intOf];omega
   ·obtain rfl:k = nl.length:=by omega
    have n0:wr.cell? ⟨ob,0,none⟩ = some (.int .i64 n):=by rw [World.cell?,hI.out.2.1];rfl
    have n1:wr.cell? ⟨ob,1,none⟩ = some (.slice (some ⟨g,0,none⟩) nl.length cap):=by rw [World.cell?,hI.out.2.1];rfl
    have qr:=hfin.out _ _ _ _ hI.out
    have hBw:=Lib.hid hI.out.1
    have hz0:=Lib.hid hI.out.2.2.2.1
    clear hI
    go_wp2_with fail
    refine qr.mono ?_
    rintro e w9 ⟨vL,us,rfl,ho9,hR9,hb9⟩
    have hz:=(hb9.block _ (Array.getElem?_eq_some_iff.1 hz0.out).1).trans hz0.out
    obtain ⟨bL,cL,rfl⟩:∃ b c,vL = .slice b RL.length c:=by
     obtain ⟨_,⟨rfl,e⟩ | ⟨g,cap,cur,rfl,_⟩⟩:=ho9
     ·rw [e];exact ⟨_,_,rfl⟩
     ·exact ⟨_,_,rfl⟩
    have z0:w9.cell? ⟨w.heap.size+1,0,none⟩ = some (.int .i64 0):=by rw [World.cell?,hz];rfl
    have z1:w9.cell? ⟨w.heap.size+1,1,none⟩ = some (.slice none 0 0):=by rw [World.cell?,hz];rfl
    have y0:w9.frozen? ⟨w.heap.size+1,0,none⟩ = false:=by simp [World.frozen?,hz]
    have y1:w9.frozen? ⟨w.heap.size+1,1,none⟩ = false:=by simp [World.frozen?,hz]
    obtain ⟨t0,t1⟩:=box2_set hz (.int .i64 n) (.slice bL RL.length cL)
    have hws:w.heap.size+1 < wr.heap.size:=(Array.getElem?_eq_some_iff.1 hz0.out).1
    have hwl:w.heap.size≤wr.heap.size:=hBw.out.size
    have hB9:=hBw.out.trans (hb9.mono hwl)
    have hfn:=Lib.hid (And.intro (own_weak (ownsRow_setCell_below (ownsRow_setCell_below ho9 (a:=⟨w.heap.size+1,0,none⟩) hws (.int .i64 n)) (a:=⟨w.heap.size+1,1,none⟩) hws (.slice bL RL.length cL)) hwl) (And.intro (((hR9.setLow (a:=⟨w.heap.size+1,0,none⟩) hws (.int .i64 n)).setLow (a:=⟨w.heap.size+1,1,none⟩) hws (.slice bL RL.length cL)).weak hwl) ((hB9.setCell (Nat.le_succ _) (.int .i64 n) (p:=⟨w.heap.size+1,0,none⟩)).setCell (Nat.le_succ _) (.slice bL RL.length cL) (p:=⟨w.heap.size+1,1,none⟩))))
    replace t0:=Lib.hid t0
    replace t1:=Lib.hid t1
    clear qr hz ho9 hR9 hb9 hB9 n0 n1 hfin
    go_wp2_with fail
    exact bodyPost_ret (v:=.tuple #[.agg #[.int .i64 n,.slice bL RL.length cL],.int .i64 0]) (by simp [results,Tryz.results37,go_sem,t0.out,t1.out]) rfl ⟨_,us,rfl,hfn.out.1,hfn.out.2.1,hfn.out.2.2⟩
end Go.Proofs.YtckhohpbokojdaaGreatDoor
