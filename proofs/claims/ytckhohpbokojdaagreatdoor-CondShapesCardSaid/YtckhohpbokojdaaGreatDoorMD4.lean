import Derived.Test.YtckhohpbokojdaaGreatDoorMN47
import Derived.Test.YtckhohpbokojdaaGreatDoorMD2
set_option linter.unusedSimpArgs false
set_option linter.unusedVariables false
namespace Go.Proofs.YtckhohpbokojdaaGreatDoor
open Go Go.RowKit Go.Shelf
def allS1 (s:VSet) (y:L.ND):VSet:=if y.kind = 2 then withS s (varF y.lit) else s
def allS (nl:List L.ND):VSet:=nl.foldl allS1 0
theorem allS_take {nl:List L.ND} {k:Nat} (hk:k < nl.length):allS (nl.take (k+1)) = allS1 (allS (nl.take k)) nl[k]:=by
 unfold allS
 rw [List.take_succ_eq_append_getElem hk,List.foldl_append];rfl
theorem allS_has {n:Int} (hn:n≤128) (v:Int):∀ (nl:List L.ND) (s:VSet),(∀ x∈nl,x.kind = 2→x.lit≠0∧-n≤x.lit∧x.lit≤n)→(hasS (nl.foldl allS1 s) v = true↔hasS s v = true∨∃ y∈nl,y.kind = 2∧(y.lit.natAbs:Int) = v)
 | [],s,_=>by simp
 | y :: nl,s,h=>by
   rw [List.foldl_cons,allS_has hn v nl _ fun x hx=>h x (List.mem_cons_of_mem _ hx)]
   unfold allS1
   by_cases h2:y.kind = 2
   ·rw [if_pos h2]
    have hy:=h y List.mem_cons_self h2
    rw [show varF y.lit = (y.lit.natAbs:Int) by unfold varF;(repeat split) <;> omega,L.hasS_with]
    simp only [List.mem_cons,Bool.or_eq_true,Bool.and_eq_true,decide_eq_true_eq]
    constructor
    ·rintro ((h1 | ⟨⟨h1,_⟩,_⟩) | ⟨z,hz,hz2,e⟩)
     ·exact .inl h1
     ·exact .inr ⟨y,.inl rfl,h2,h1⟩
     ·exact .inr ⟨z,.inr hz,hz2,e⟩
    ·rintro (h1 | ⟨z,rfl | hz,hz2,e⟩)
     ·exact .inl (.inl h1)
     ·exact .inl (.inr ⟨⟨e,by omega⟩,by omega⟩)
     ·exact .inr ⟨z,hz,hz2,e⟩
   ·rw [if_neg h2]
    simp only [List.mem_cons]
    constructor
    ·rintro (h1 | ⟨z,hz,hz2,e⟩)
     ·exact .inl h1
     ·exact .inr ⟨z,.inr hz,hz2,e⟩
    ·rintro (h1 | ⟨z,rfl | hz,hz2,e⟩)
     ·exact .inl h1
     ·exact absurd hz2 h2
     ·exact .inr ⟨z,hz,hz2,e⟩
theorem sorted_len:∀ (l:List Int) (m k:Nat),l.Pairwise (· < ·)→(∀ x∈l,(m:Int) < x∧x≤(k:Int))→l.length≤k - m
 | [],m,k,_,_=>by simp
 | x :: l,m,k,h,hx=>by
   have h1:=hx x List.mem_cons_self
   have hp:=List.pairwise_cons.1 h
   have:=sorted_len l x.toNat k hp.2 fun y hy=>⟨by have:=hp.1 y hy;omega,(hx y (List.mem_cons_of_mem _ hy)).2⟩
   rw [List.length_cons];omega
theorem vars_list {n:Int} {nl:List L.ND} (h:L.NOK n nl) (hn:n≤8):(∀ z∈nl,z.kind = 2→(z.lit.natAbs:Int)∈listV (allS nl))∧(listV (allS nl)).Nodup∧(∀ v∈listV (allS nl),1≤v∧v≤8)∧(listV (allS nl)).length≤8:=by
 have hf:∀ x∈nl,x.kind = 2→x.lit≠0∧-n≤x.lit∧x.lit≤n:=fun x hx h2=>by
  rcases h.form x hx with g | g | g
  ·omega
  ·exact g.2.1
  ·omega
 have hm:∀ v,v∈listV (allS nl)↔∃ y∈nl,y.kind = 2∧(y.lit.natAbs:Int) = v:=fun v=>by
  rw [L.listV_mem]
  unfold allS
  rw [allS_has (by omega) v nl 0 hf,L.hasS_zero]
  simp
 have hr:∀ v∈listV (allS nl),1≤v∧v≤8:=fun v hv=>by
  obtain ⟨y,hy,h2,rfl⟩:=(hm v).1 hv
  have:=hf y hy h2
  omega
 exact ⟨fun z hz h2=>(hm _).2 ⟨z,hz,h2,rfl⟩,listV_nodup _,hr,sorted_len _ 0 8 (L.listVK_sorted _ 128) fun x hx=>by have:=hr x hx;omega⟩
theorem WB_none {l:List Int} {blk:Nat} {z:Int} (hz:1≤z) (hn:z∉l):WB l blk z.toNat = 0:=by
 unfold WB
 have e:((z.toNat:Nat):Int) = z:=by omega
 rw [e,show l.findIdx? (fun y=>decide (y = z)) = none from by
  rw [List.findIdx?_eq_none_iff]
  intro y hy
  simp only [decide_eq_false_iff_not]
  intro ee
  exact hn (ee ▸ hy)]
theorem WB_same {l:List Int} {blk:Nat} {z:Int} (hz:1≤z) (hn:z∉l) (h0:wordOf blk l.length = 0) (k:Nat):WB l blk k = WB (l++[z]) blk k:=by
 rw [←WB_snoc hz hn k]
 by_cases e:k = z.toNat
 ·rw [if_pos e,h0,e,WB_none hz hn]
 ·rw [if_neg e]
theorem take_notin {l:List Int} (hnd:l.Nodup) {j:Nat} (hj:j < l.length):l[j]∉l.take j:=fun h=>by
 obtain ⟨i,hi,e⟩:=List.getElem_of_mem h
 rw [List.getElem_take] at e
 have hij:i < j:=by rw [List.length_take] at hi;omega
 exact absurd e (List.pairwise_iff_getElem.1 hnd i j (by omega) hj hij)
def PatTab (w:World):Prop:=∀ j,j < 6→w.cell? ⟨0,j,none⟩ = some (vU (patW j))
theorem PatTab.below {n:Nat} {w w':World} (h:PatTab w) (hn:0 < n) (hb:Below n w w'):PatTab w' :=
 fun j hj=>(hb.cell (p:=⟨0,j,none⟩) hn).trans (h j hj)
theorem PatTab.lt {w:World} (h:PatTab w):0 < w.heap.size :=
 World.block_lt_of_cell? w _ (h 0 (by decide))
def WdI (V0:World) (l:List Int) (blk j:Nat) (V:World):Prop:=Below V0.heap.size V0 V∧RowF V V0.heap.size 80 129 (valU (WB (l.take j) blk))∧V.heap.size = V0.heap.size+1
theorem WdI.next0 {V0 V:World} {l:List Int} {blk j:Nat} (h:WdI V0 l blk j V) (hnd:l.Nodup) (hpos:∀ v∈l,1≤v∧v≤8) (hj:j < l.length) (h0:wordOf blk j = 0):WdI V0 l blk (j+1) V:=by
 refine ⟨h.1,h.2.1.congr fun k _=>?_,h.2.2⟩
 unfold valU
 have hl:(l.take j).length = j:=by rw [List.length_take];omega
 rw [List.take_succ_eq_append_getElem hj,←WB_same (hpos _ (List.getElem_mem hj)).1 (take_notin hnd hj) (by rw [hl];exact h0) k]
theorem WdI.put {V0 V:World} {l:List Int} {blk j:Nat} (h:WdI V0 l blk j V) (hnd:l.Nodup) (hpos:∀ v∈l,1≤v∧v≤8) (hj:j < l.length):WdI V0 l blk (j+1) (V.setCell ⟨V0.heap.size,l[j].toNat,none⟩ (vU (wordOf blk j))):=by
 refine ⟨h.1.setCell (p:=⟨V0.heap.size,l[j].toNat,none⟩) (Nat.le_refl _) _,(h.2.1.set l[j].toNat _).congr fun k _=>?_,by simpa [World.setCell] using h.2.2⟩
 have hl:(l.take j).length = j:=by rw [List.length_take];omega
 unfold valU putF
 rw [List.take_succ_eq_append_getElem hj,←WB_snoc (hpos _ (List.getElem_mem hj)).1 (take_notin hnd hj) k,hl]
 by_cases e:k = l[j].toNat
 ·rw [if_pos e,if_pos e]
 ·rw [if_neg e,if_neg e]
end Go.Proofs.YtckhohpbokojdaaGreatDoor
