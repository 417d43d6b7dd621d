import Derived.Test.YtckhohpbokojdaaGreatDoorMN31
import Derived.Test.YtckhohpbokojdaaGreatDoorMN13
set_option linter.unusedSimpArgs false
set_option linter.unusedVariables false
namespace Go.Proofs.YtckhohpbokojdaaGreatDoor
open Go Go.RowKit Go.Shelf
def NdRow (W:World) (g m:Nat) (ys:Nat→L.ND) (us:Nat→Value):Prop:=∃ c,W.heap[g]? = some (.cells c 40 (0,0))∧m * 3≤c.size∧∀ k,k < m→c[k * 3]? = some (.int .i64 (ys k).kind)∧c[k * 3+1]? = some (.int .i64 (ys k).lit)∧c[k * 3+2]? = some (us k)
section
variable {W W':World} {g m:Nat} {ys:Nat→L.ND} {us:Nat→Value}
theorem NdRow.cell (h:NdRow W g m ys us) {k:Nat} (hk:k < m):(W.cell? ⟨g,k * 3,none⟩ = some (.int .i64 (ys k).kind)∧W.cell? ⟨g,k * 3+1,none⟩ = some (.int .i64 (ys k).lit)∧W.cell? ⟨g,k * 3+2,none⟩ = some (us k))∧W.frozen? ⟨g,k * 3,none⟩ = false∧W.frozen? ⟨g,k * 3+1,none⟩ = false∧W.frozen? ⟨g,k * 3+2,none⟩ = false:=by
 obtain ⟨c,h1,h2,h3⟩:=h
 obtain ⟨h4,h5,h6⟩:=h3 k hk
 simp [World.cell?,World.frozen?,h1,h4,h5,h6]
theorem NdRow.same (h:NdRow W g m ys us) (hs:W'.heap[g]? = W.heap[g]?):NdRow W' g m ys us:=by
 obtain ⟨c,h1,h2⟩:=h
 exact ⟨c,hs.trans h1,h2⟩
theorem NdRow.lt (h:NdRow W g m ys us):g < W.heap.size:=by
 obtain ⟨c,h1,_⟩:=h
 exact (Array.getElem?_eq_some_iff.1 h1).1
theorem NdRow.congr {ys':Nat→L.ND} {us':Nat→Value} (h:NdRow W g m ys us) (h1:∀ k,k < m→ys k = ys' k) (h2:∀ k,k < m→us k = us' k):NdRow W g m ys' us':=by
 obtain ⟨c,a,b,d⟩:=h
 exact ⟨c,a,b,fun k hk=>by rw [←h1 k hk,←h2 k hk];exact d k hk⟩
theorem NdRow.set (h:NdRow W g m ys us) (i:Nat) (y:L.ND) (u:Value):NdRow (((W.setCell ⟨g,i * 3,none⟩ (.int .i64 y.kind)).setCell ⟨g,i * 3+1,none⟩ (.int .i64 y.lit)).setCell ⟨g,i * 3+2,none⟩ u) g m (fun k=>if k = i then y else ys k) (fun k=>if k = i then u else us k):=by
 obtain ⟨c,h1,h2,h3⟩:=h
 refine ⟨_,heap_set (heap_set (heap_set h1 _ _) _ _) _ _,by simpa using h2,fun k hk=>?_⟩
 obtain ⟨h4,h5,h6⟩:=h3 k hk
 by_cases e:k = i
 ·subst e
  simp only [if_pos]
  refine ⟨?_,?_,?_⟩
  ·rw [Array.getElem?_setIfInBounds,if_neg (by omega),Array.getElem?_setIfInBounds,if_neg (by omega),Array.getElem?_setIfInBounds,if_pos rfl,if_pos (by omega)]
  ·rw [Array.getElem?_setIfInBounds,if_neg (by omega),Array.getElem?_setIfInBounds,if_pos rfl,if_pos (by simp;omega)]
  ·rw [Array.getElem?_setIfInBounds,if_pos rfl,if_pos (by simp;omega)]
 ·simp only [if_neg e]
  refine ⟨?_,?_,?_⟩
  ·rw [Array.getElem?_setIfInBounds,if_neg (by omega),Array.getElem?_setIfInBounds,if_neg (by omega),Array.getElem?_setIfInBounds,if_neg (by omega)];exact h4
  ·rw [Array.getElem?_setIfInBounds,if_neg (by omega),Array.getElem?_setIfInBounds,if_neg (by omega),Array.getElem?_setIfInBounds,if_neg (by omega)];exact h5
  ·rw [Array.getElem?_setIfInBounds,if_neg (by omega),Array.getElem?_setIfInBounds,if_neg (by omega),Array.getElem?_setIfInBounds,if_neg (by omega)];exact h6
end
def usOf (w:World) (b o:Nat) (k:Nat):Value:=(w.cell? ⟨b,o+k * 3+2,none⟩).getD (.slice none 0 0)
theorem gCells_one:∀ {C:List L.Gt} {us:List Value},(∀ u∈us,Value.oneCell' u = true)→∀ u∈gCells C us,Value.oneCell' u = true
 | g :: C,a :: us,h,u,hu=>by
   simp only [gCells,List.mem_cons] at hu
   rcases hu with rfl | rfl | rfl | hu
   ·rfl
   ·rfl
   ·exact h _ (List.mem_cons_self ..)
   ·exact gCells_one (fun v hv=>h v (List.mem_cons_of_mem _ hv)) u hu
 | [],_,_,u,hu=>by simp [gCells] at hu
 | _ :: _,[],_,u,hu=>by simp [gCells] at hu
theorem sizeOfN:∀ w:World,(Go.sizeOf 40).run Tryz.prog w = .ok 3 w:=fun w=>by
 obtain ⟨i0,hi0,hz0,hz1,hz2⟩:=info_parts nd_info
 simp [Go.sizeOf,go_sem,hi0,hz1]
 try rfl
theorem cloneNd_any {nl:List L.ND} {w:World} {b o cp:Nat} (hm:1≤nl.length) (hl:nl.length≤1048576) (hcell:∀ k (hk:k < nl.length),∃ bb cc,w.cell? ⟨b,o+k * 3,none⟩ = some (.int .i64 nl[k].kind)∧w.cell? ⟨b,o+k * 3+1,none⟩ = some (.int .i64 nl[k].lit)∧w.cell? ⟨b,o+k * 3+2,none⟩ = some (.slice bb nl[k].inp.length cc)) :
  Calls Tryz.prog 61 #[.slice (some ⟨b,o,none⟩) nl.length cp] w fun e w'=>∃ g cap,e = .returned (.slice (some ⟨g,0,none⟩) nl.length cap)∧w.heap.size≤g∧NdRow w' g nl.length (L.ndAt nl) (usOf w b o)∧Below w.heap.size w w':=by
 obtain ⟨i0,hi0,hz0,hz1,hz2⟩:=info_parts nd_info
 obtain ⟨us,hus⟩:∃ us,us = (List.range nl.length).map (usOf w b o):=⟨_,rfl⟩
 have hul:us.length = (nl.map L.ofND).length:=by rw [hus];simp
 have hnl:(nl.map L.ofND).length = nl.length:=List.length_map ..
 have hug:∀ k (hk:k < nl.length),us[k]? = some (usOf w b o k):=fun k hk=>by rw [hus];simp [hk]
 have hue:∀ k (hk:k < nl.length),∃ bb cc,usOf w b o k = .slice bb nl[k].inp.length cc∧w.cell? ⟨b,o+k * 3+2,none⟩ = some (usOf w b o k):=fun k hk=>by
  obtain ⟨bb,cc,_,_,f⟩:=hcell k hk
  exact ⟨bb,cc,by unfold usOf;rw [f];rfl,by unfold usOf;rw [f];rfl⟩
 have hlen:=gCells_len hul
 have hget:∀ k (hk:k < nl.length),(gCells (nl.map L.ofND) us)[k * 3]? = some (.int .i64 nl[k].kind)∧(gCells (nl.map L.ofND) us)[k * 3+1]? = some (.int .i64 nl[k].lit)∧(gCells (nl.map L.ofND) us)[k * 3+2]? = some (usOf w b o k):=fun k hk=>by
  obtain ⟨h1,h2,h3⟩:=gCells_get hul k (by omega) (by omega)
  rw [List.getElem_map] at h1 h2
  refine ⟨h1,h2,h3.trans ?_⟩
  rw [←hug k hk,List.getElem?_eq_getElem]
 have h1:=AnyE.slices_Clone Tryz.cloneNodeG i0 (.agg #[.int .i64 0,.int .i64 0,.slice none 0 0]) 3 40 hi0 hz0 hz1 hz2 (by rfl) (by omega) sizeOfN b o nl.length cp (gCells (nl.map L.ofND) us) w (by omega) (by unfold maxLen;omega) (by omega) (fun j u hj=>by
  have hjl:=(List.getElem?_eq_some_iff.1 hj).1
  have hk:j / 3 < nl.length:=by omega
  obtain ⟨a1,a2,a3⟩:=hget _ hk
  obtain ⟨bb,cc,c1,c2,_⟩:=hcell _ hk
  obtain ⟨_,_,_,c3⟩:=hue _ hk
  have hr:j % 3 = 0∨j % 3 = 1∨j % 3 = 2:=by omega
  rcases hr with hr | hr | hr
  ·have e:j = j / 3 * 3:=by omega
   rw [e,a1] at hj
   rw [←Option.some.inj hj,show o+j = o+j / 3 * 3 by omega];exact c1
  ·have e:j = j / 3 * 3+1:=by omega
   rw [e,a2] at hj
   rw [←Option.some.inj hj,show o+j = o+j / 3 * 3+1 by omega];exact c2
  ·have e:j = j / 3 * 3+2:=by omega
   rw [e,a3] at hj
   rw [←Option.some.inj hj,show o+j = o+j / 3 * 3+2 by omega];exact c3) (gCells_one fun u hu=>by
  rw [hus] at hu
  obtain ⟨k,hk,rfl⟩:=List.mem_map.1 hu
  obtain ⟨bb,cc,e,_⟩:=hue k (List.mem_range.1 hk)
  rw [e];rfl)
 refine h1.mono ?_
 rintro e w' ⟨v',rfl,hown,hne,hb⟩
 obtain ⟨_,⟨e0,_⟩ | ⟨g,cap,cur,rfl,hg,hh,hn,hmx,hs,ht⟩⟩:=hown
 ·exact absurd e0 hne
 ·refine ⟨g,cap,rfl,hg,⟨cur,hh,by omega,fun k hk=>?_⟩,hb⟩
  have hcur:∀ j u,(gCells (nl.map L.ofND) us)[j]? = some u→cur[j]? = some u:=fun j u hj=>by
   rw [←ht,List.getElem?_take] at hj
   split at hj
   ·simpa using hj
   ·simp at hj
  obtain ⟨a1,a2,a3⟩:=hget k hk
  rw [L.ndAt_lt hk]
  exact ⟨hcur _ _ a1,hcur _ _ a2,hcur _ _ a3⟩
theorem NdRow.slC {W:World} {g m cap:Nat} {ys:Nat→L.ND} {us:Nat→Value} {nl:List L.ND} (h:NdRow W g m ys us) (hm:nl.length = m) (hy:∀ k (hk:k < nl.length),ys k = nl[k]) (hu:∀ k (hk:k < nl.length),∃ bb cc,us k = .slice bb nl[k].inp.length cc∧SlI W (.slice bb nl[k].inp.length cc) (castL nl[k].inp)):SlC W (.slice (some ⟨g,0,none⟩) m cap) (nl.map L.ofND):=by
 have hnl:(nl.map L.ofND).length = nl.length:=List.length_map ..
 refine ⟨_,cap,by rw [hnl,hm],.inr ⟨g,0,rfl,fun j hj=>?_⟩⟩
 have hj':j < nl.length:=by omega
 obtain ⟨⟨h1,h2,h3⟩,_⟩:=h.cell (k:=j) (by omega)
 obtain ⟨bb,cc,e,hs⟩:=hu j hj'
 rw [hy j hj'] at h1 h2
 rw [List.getElem_map,Nat.zero_add]
 refine ⟨h1,h2,us j,h3,?_⟩
 rw [e];exact hs
end Go.Proofs.YtckhohpbokojdaaGreatDoor
