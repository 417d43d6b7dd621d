import Derived.Test.YteikmmfjhabijaaGreatDoorUKeep2
set_option linter.unusedSimpArgs false
set_option linter.unusedVariables false
namespace Go.Proofs.YteikmmfjhabijaaGreatDoor
open Go Go.RowKit Go.Shelf
structure KeepL (ns:List SNode) (b:List Nat) (w8:World) (pm g i:Nat) (wr:World):Prop where
 nums:∃ m,MapAt encNat encNat wr pm (asc m)∧∀ j (hj:j < b.length),j < i→asc m b[j] = some j
 row:∃ (cs:Array Value) (vs:List Value),wr.heap[g]? = some (.cells cs tNode (0,0))∧cs.size = b.length * 5∧vs.length = i∧(∀ (j:Nat) (u:Value),(flatN ((L.keepNodes ns b).take i) vs)[j]? = some u→cs[j]? = some u)∧(∀ j (hj:j < vs.length) (hk:j < (L.keepNodes ns b).length),ElAt wr vs[j] (L.keepNodes ns b)[j].el)∧∀ v∈vs,∀ x,v.ownBlock = some x→w8.heap.size≤x
 fr:Fr [pm,g] w8 wr
def ElL (el:List (Nat × Nat)) (f:Nat × Nat→Nat × Nat) (w12:World) (bc:Option Addr) (lo k:Nat) (wr:World):Prop :=
 Below lo w12 wr∧((el = []∧bc = none)∨∃ (h:Nat) (cs:Array Value),bc = some ⟨h,0,none⟩∧lo≤h∧wr.heap[h]? = some (.cells cs tPair (0,0))∧∀ (j:Nat) (u:Value),(flatP ((el.take k).map f++el.drop k))[j]? = some u→cs[j]? = some u)
theorem flatP_get_lt {l:List (Nat × Nat)} {j:Nat} {u:Value} (h:(flatP l)[j]? = some u):j < l.length * 2:=by
 have:=(List.getElem?_eq_some_iff.1 h).1
 rw [flatP_len] at this
 omega
theorem flatP_put {l m:List (Nat × Nat)} {k:Nat} {q:Nat × Nat} (hk:k < l.length) (hm:m = l.set k q) {cs:Array Value} (hc:∀ (j:Nat) (u:Value),(flatP l)[j]? = some u→cs[j]? = some u) :
  ∀ (j:Nat) (u:Value),(flatP m)[j]? = some u→((cs.setIfInBounds (k * 2) (.int .i64 (q.1:Nat))).setIfInBounds (k * 2+1) (.int .i64 (q.2:Nat)))[j]? = some u:=by
 subst hm
 intro j u hj
 have hjl:=flatP_get_lt hj
 rw [List.length_set] at hjl
 have hsz:l.length * 2≤cs.size:=by
  have h1:=(flatP_get l (l.length - 1) (by omega)).2
  have:=(Array.getElem?_eq_some_iff.1 (hc _ _ h1)).1
  omega
 rw [Array.getElem?_setIfInBounds,Array.getElem?_setIfInBounds]
 obtain ⟨t,ht⟩:∃ t,j = t * 2∨j = t * 2+1:=⟨j / 2,by omega⟩
 have htl:t < l.length:=by omega
 have htl2:t < (l.set k q).length:=by rw [List.length_set];exact htl
 obtain ⟨g1,g2⟩:=flatP_get (l.set k q) t htl2
 obtain ⟨o1,o2⟩:=flatP_get l t htl
 rw [List.getElem_set] at g1 g2
 rcases ht with rfl | rfl
 ·rw [if_neg (by omega)]
  rw [g1] at hj
  by_cases e:k = t
  ·subst e
   rw [if_pos rfl,if_pos (by omega)]
   rw [if_pos rfl] at hj
   exact hj
  ·rw [if_neg (by omega)]
   rw [if_neg e] at hj
   rw [←hj]
   exact hc _ _ o1
 ·rw [g2] at hj
  by_cases e:k = t
  ·subst e
   rw [if_pos rfl,if_pos (by simp;omega)]
   rw [if_pos rfl] at hj
   exact hj
  ·rw [if_neg (by omega),if_neg (by omega)]
   rw [if_neg e] at hj
   rw [←hj]
   exact hc _ _ o2
theorem mix_set (el:List (Nat × Nat)) (f:Nat × Nat→Nat × Nat) (k:Nat) (hk:k < el.length):(el.take (k+1)).map f++el.drop (k+1) = ((el.take k).map f++el.drop k).set k (f el[k]):=by
 apply List.ext_getElem?
 intro j
 rw [List.getElem?_set]
 have hl:((el.take k).map f).length = k:=by simp;omega
 have hl1:((el.take (k+1)).map f).length = k+1:=by simp;omega
 rcases Nat.lt_trichotomy j k with h | h | h
 ·rw [if_neg (by omega),List.getElem?_append_left (by omega),List.getElem?_append_left (by omega),List.getElem?_map,List.getElem?_map,List.getElem?_take_of_lt h,List.getElem?_take_of_lt (by omega)]
 ·subst h
  rw [if_pos rfl,List.getElem?_append_left (by omega),List.getElem?_map,List.getElem?_take_of_lt (by omega),List.getElem?_eq_getElem hk]
  rw [if_pos (by simp;omega)];rfl
 ·rw [if_neg (by omega),List.getElem?_append_right (by omega),List.getElem?_append_right (by omega),hl,hl1,List.getElem?_drop,List.getElem?_drop]
  congr 1
  omega
theorem mix_get (el:List (Nat × Nat)) (f:Nat × Nat→Nat × Nat) (k:Nat) (hk:k < el.length):∃ h:k < ((el.take k).map f++el.drop k).length,((el.take k).map f++el.drop k)[k] = el[k]:=by
 have hl:((el.take k).map f).length = k:=by simp;omega
 refine ⟨by simp;omega,?_⟩
 rw [List.getElem_append_right (by omega)]
 simp only [List.getElem_drop]
 congr 1
 omega
theorem flatN_set {ns:List SNode} {vs:List Value} {n:SNode} {v:Value} {i:Nat} (hl:vs.length = ns.length) (hin:ns.length = i) {cs:Array Value} {N:Nat} (hs:cs.size = N * 5) (hN:i < N) (hc:∀ (j:Nat) (u:Value),(flatN ns vs)[j]? = some u→cs[j]? = some u) :
  ∀ (j:Nat) (u:Value),(flatN (ns++[n]) (vs++[v]))[j]? = some u→(((((cs.setIfInBounds (i * 5) (.int .i64 n.pl)).setIfInBounds (i * 5+1) (.int .i64 n.lit)).setIfInBounds (i * 5+2) v).setIfInBounds (i * 5+3) (.int .u64 (lo n.le))).setIfInBounds (i * 5+4) (.int .u64 (hi n.le)))[j]? = some u:=by
 intro j u hj
 rw [flatN_snoc _ _ _ _ hl] at hj
 have hfl:=flatN_len ns vs hl
 by_cases hlt:j < ns.length * 5
 ·rw [List.getElem?_append_left (by omega)] at hj
  simp only [Array.getElem?_setIfInBounds]
  rw [if_neg (by omega),if_neg (by omega),if_neg (by omega),if_neg (by omega),if_neg (by omega)]
  exact hc j u hj
 ·rw [List.getElem?_append_right (by omega),hfl] at hj
  obtain ⟨t,rfl⟩:∃ t,j = i * 5+t:=⟨j - i * 5,by omega⟩
  have e:i * 5+t - ns.length * 5 = t:=by omega
  rw [e] at hj
  have ht:t < 5:=by
   have:=(List.getElem?_eq_some_iff.1 hj).1
   simpa [nodeCells] using this
  simp only [Array.getElem?_setIfInBounds,Array.size_setIfInBounds]
  match t,ht with
  | 0,_=>rw [if_neg (by omega),if_neg (by omega),if_neg (by omega),if_neg (by omega),if_pos (by omega),if_pos (by omega)];simpa [nodeCells] using hj
  | 1,_=>rw [if_neg (by omega),if_neg (by omega),if_neg (by omega),if_pos (by omega),if_pos (by omega)];simpa [nodeCells] using hj
  | 2,_=>rw [if_neg (by omega),if_neg (by omega),if_pos (by omega),if_pos (by omega)];simpa [nodeCells] using hj
  | 3,_=>rw [if_neg (by omega),if_pos (by omega),if_pos (by omega)];simpa [nodeCells] using hj
  | 4,_=>rw [if_pos (by omega),if_pos (by omega)];simpa [nodeCells] using hj
end Go.Proofs.YteikmmfjhabijaaGreatDoor
