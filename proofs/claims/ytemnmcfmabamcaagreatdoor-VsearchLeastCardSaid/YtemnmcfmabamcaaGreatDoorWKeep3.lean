import Derived.Test.YtemnmcfmabamcaaGreatDoorWKeep
import Derived.Test.YtemnmcfmabamcaaGreatDoorWTab2
import Derived.Laws.AppendOwnNone
section
set_option linter.unusedSimpArgs false
set_option linter.unusedVariables false
namespace Go.Proofs.YtemnmcfmabamcaaGreatDoor
open Go Go.RowKit Go.Shelf
theorem Fr.seq {M N:List Nat} {w0 w w':World} (h:Fr N w0 w) (k:Fr M w w') (hM:∀ x∈M,x∈N∨w0.heap.size≤x):Fr N w0 w' :=
 ⟨k.os.trans h.os,k.tape.trans h.tape,k.output.trans h.output,Nat.le_trans h.size k.size,fun i hi hn=>(k.block i (Nat.lt_of_lt_of_le hi h.size) (fun hc=>(hM i hc).elim hn (fun h=>by omega))).trans (h.block i hi hn)⟩
theorem Fr.setCell {w:World} (b o:Nat) (v:Value):Fr [b] w (w.setCell ⟨b,o,none⟩ v) :=
 ⟨rfl,rfl,rfl,by simp [World.setCell],fun k _ hk=>Below.heap_setCell _ _ _ _ (by simpa using hk)⟩
theorem Fr.get {M:List Nat} {w w':World} (h:Fr M w w') {k:Nat} {o:Obj} (hk:w.heap[k]? = some o) (hM:k∉M):w'.heap[k]? = some o:=(h.block k (Array.getElem?_eq_some_iff.1 hk).1 hM).trans hk
theorem wpList_append_slI {w:World} {ops:Array Oper} {rest:List Oper} {o:Oper} {a:Act} {Q:Exit→Act→World→Prop} (hgd:o.guard = none) (s x:Operand)
  (ho:o.op = .call { callee:=.builtin .append,args:=#[s,x],argTypes:=#[76,76] }) (base:Nat) (i:TypeInfo) (hi:Tryz.prog.info? 3 = some i) (hz:i.zero = some (.int .i64 0)) (hsize:i.size = 1) (hby:i.bytes = 8)
  (v:Value) (n:Nat) (xs:List Value) (hs:a.eval s = v) (hown:w.ownsRow base 3 1 v n xs) (ba:Option Addr) (c:Nat) (l:List Int) (hx:a.eval x = .slice ba l.length c)
  (hsl:(ba = none∧l = []∧c = 0)∨∃ b o,ba = some ⟨b,o,none⟩∧∀ j (hj:j < l.length),w.cell? ⟨b,o+j,none⟩ = some (.int .i64 l[j])) (hn:n+l.length≤1100000) (hbase:base≤w.heap.size)
  (h:∀ v' w',w'.ownsRow base 3 1 v' (n+l.length) (xs++l.map encZ)→w.grownBy w' v.ownBlock→wpList Tryz.prog ops Q rest (a.put o.dst v') w'):wpList Tryz.prog ops Q (o :: rest) a w:=by
 rcases hsl with ⟨rfl,rfl,rfl⟩ | ⟨b,of,rfl,hc⟩
 ·exact wpList_append_own_none hgd s x 76 ho base 3 i 1 Tryz.underlying76 hi v n xs hs hown hx (h v w (by simpa using hown) ⟨rfl,rfl,rfl,Nat.le_refl _,fun _ _ _=>rfl⟩)
 ·refine wpList_append_own (w:=w) hgd s x 76 ho base 3 i _ 1 8 Tryz.underlying76 hi hz hsize hby rfl (by decide) v n xs hs hown ⟨b,of,none⟩ l.length c (l.map encZ) hx (by simp) (fun j u hj=>?_) (fun u hu=>?_) (by unfold maxLen;omega) (by omega) hbase (fun v' w' h1 h2 _=>h v' w' h1 h2)
  ·obtain ⟨z,hz1,rfl⟩:=List.getElem?_map .. ▸ hj |> Option.map_eq_some_iff.1
   obtain ⟨hjl,rfl⟩:=List.getElem?_eq_some_iff.1 hz1
   rw [Addr.add_lit]
   exact hc j hjl
  ·obtain ⟨z,_,rfl⟩:=List.mem_map.1 hu
   rfl
theorem clone_el {w:World} {v:Value} {l:List (Nat × Nat)} (h:ElAt w v l) (hl:l.length≤1048576):Calls Tryz.prog 118 #[v] w fun e w'=>∃ ba cap,e = .returned (.slice ba l.length cap)∧((l = []∧ba = none∧cap = 0)∨∃ (g:Nat) (cs:Array Value),ba = some ⟨g,0,none⟩∧w.heap.size≤g∧w'.heap[g]? = some (.cells cs tPair (0,0))∧∀ (j:Nat) (u:Value),(flatP l)[j]? = some u→cs[j]? = some u)∧Below w.heap.size w w':=by
 obtain ⟨ba,c,rfl,⟨rfl,rfl,rfl⟩ | ⟨b,o,rfl,hr⟩⟩:=h
 ·refine (clone_pairs_nil w).mono ?_
  rintro e w' ⟨rfl,rfl⟩
  exact ⟨none,0,rfl,.inl ⟨rfl,rfl,rfl⟩,Below.refl _ _⟩
 ·refine (clone_pairs w b o c l hr hl).mono ?_
  rintro e w' ⟨g,cap,cs,rfl,h1,h2,h3,h4⟩
  exact ⟨_,cap,rfl,.inr ⟨g,cs,rfl,h1,h2,fun j u hj=>by have:=h3 j u hj;rwa [Nat.zero_add] at this⟩,h4⟩
theorem sort_own {w:World} {base:Nat} {v:Value} {l:List Nat} (ho:w.ownsRow base 3 1 v l.length (l.map encI)) (hne:l≠[]) (hl:l.length≤1048576) :
  Calls Tryz.prog 121 #[v] w fun e w'=>e = .returned (.tuple #[])∧∃ b:List Nat,b.Perm l∧b.Pairwise (·≤·)∧w'.ownsRow base 3 1 v b.length (b.map encI)∧w.grownBy w' v.ownBlock:=by
 rcases ho.2 with ⟨rfl,e⟩ | ⟨g,cap,cur,rfl,hbase,hb,h1,h2,h3,h4⟩
 ·exact absurd (List.length_eq_zero_iff.1 e) hne
 ·have em:l.map encI = (l.map fun n:Nat=>(n:Int)).map (Value.int .i64):=by rw [List.map_map];rfl
  rw [em,show l.length = (l.map fun n:Nat=>(n:Int)).length by simp] at h4
  have hcall:=AnyM.slices_Sort_int Tryz.sortInt g 0 cap (l.map fun n:Nat=>(n:Int)) w (holds_of_blockI hb (by simpa using h4)) (Array.getElem?_eq_some_iff.1 hb).1 (by simp;omega)
  have hperm:=List.mergeSort_perm (l.map fun n:Nat=>(n:Int)) (fun x y=>decide (x≤y))
  have hpw:=List.pairwise_mergeSort (le:=fun x y:Int=>decide (x≤y)) (by intro a b c h1 h2;simp only [decide_eq_true_eq] at *;omega) (by intro a b;simp only [Bool.or_eq_true,decide_eq_true_eq];omega) (l.map fun n:Nat=>(n:Int))
  generalize hz:(l.map fun n:Nat=>(n:Int)).mergeSort (fun x y=>decide (x≤y)) = zs at *
  obtain ⟨b,hbz⟩:∃ b:List Nat,zs = b.map fun n:Nat=>(n:Int):=by
   refine ⟨zs.map Int.toNat,?_⟩
   rw [List.map_map]
   have:∀ z∈zs,((fun n:Nat=>(n:Int)) ∘ Int.toNat) z = z:=fun z hz'=>by
    obtain ⟨n,_,rfl⟩:=List.mem_map.1 (hperm.mem_iff.1 hz')
    simp
   exact (List.map_congr_left this).trans (List.map_id zs) |>.symm
  subst hbz
  have hinj:∀ {a c:List Nat},(a.map fun n:Nat=>(n:Int)).Perm (c.map fun n:Nat=>(n:Int))→a.Perm c:=fun {a c} h=>by
   have:=h.map Int.toNat
   simpa [List.map_map,Function.comp_def] using this
  rw [List.length_map] at hcall
  refine hcall.mono ?_
  rintro e w' ⟨rfl,n,os,rfl⟩
  have hbl:b.length = l.length:=(hinj hperm).length_eq
  refine ⟨rfl,b,hinj hperm,?_,?_,grownBy_sortedI _⟩
  ·rw [List.pairwise_map] at hpw
   exact hpw.imp fun h=>by simpa using h
  ·have:=ownsRow_sortedI (n:=n) (os:=os) (ss:=l.map fun n:Nat=>(n:Int)) (ts:=b.map fun n:Nat=>(n:Int)) (by simp [hbl]) hbase hb (by simpa using h1) h2 h3
   have e2:b.map encI = (b.map fun n:Nat=>(n:Int)).map (Value.int .i64):=by rw [List.map_map];rfl
   rw [e2,hbl]
   simpa using this
end Go.Proofs.YtemnmcfmabamcaaGreatDoor
end
section
set_option linter.unusedSimpArgs false
set_option linter.unusedVariables false
namespace Go.Proofs.YtemnmcfmabamcaaGreatDoor
open Go Go.RowKit Go.Shelf
structure KeepL (ns:List SNode) (b:List Nat) (w8:World) (pm g i:Nat) (wr:World):Prop where
 nums:∃ m,MapAt encNat encNat wr pm (asc m)∧∀ j (hj:j < b.length),j < i→asc m b[j] = some j
 row:∃ (cs:Array Value) (vs:List Value),wr.heap[g]? = some (.cells cs tNode (0,0))∧cs.size = b.length * 5∧vs.length = i∧(∀ (j:Nat) (u:Value),(flatN ((L.keepNodes ns b).take i) vs)[j]? = some u→cs[j]? = some u)∧(∀ j (hj:j < vs.length) (hk:j < (L.keepNodes ns b).length),ElAt wr vs[j] (L.keepNodes ns b)[j].el)∧∀ v∈vs,∀ x,v.ownBlock = some x→w8.heap.size≤x
 fr:Fr [pm,g] w8 wr
def ElL (el:List (Nat × Nat)) (f:Nat × Nat→Nat × Nat) (w12:World) (bc:Option Addr) (lo k:Nat) (wr:World):Prop :=
 Below lo w12 wr∧((el = []∧bc = none)∨∃ (h:Nat) (cs:Array Value),bc = some ⟨h,0,none⟩∧lo≤h∧wr.heap[h]? = some (.cells cs tPair (0,0))∧∀ (j:Nat) (u:Value),(flatP ((el.take k).map f++el.drop k))[j]? = some u→cs[j]? = some u)
theorem flatP_get_lt {l:List (Nat × Nat)} {j:Nat} {u:Value} (h:(flatP l)[j]? = some u):j < l.length * 2:=by
 have:=(List.getElem?_eq_some_iff.1 h).1
 rw [flatP_len] at this
 omega
theorem flatP_put {l m:List (Nat × Nat)} {k:Nat} {q:Nat × Nat} (hk:k < l.length) (hm:m = l.set k q) {cs:Array Value} (hc:∀ (j:Nat) (u:Value),(flatP l)[j]? = some u→cs[j]? = some u) :
  ∀ (j:Nat) (u:Value),(flatP m)[j]? = some u→((cs.setIfInBounds (k * 2) (.int .i64 (q.1:Nat))).setIfInBounds (k * 2+1) (.int .i64 (q.2:Nat)))[j]? = some u:=by
 subst hm
 intro j u hj
 have hjl:=flatP_get_lt hj
 rw [List.length_set] at hjl
 have hsz:l.length * 2≤cs.size:=by
  have h1:=(flatP_get l (l.length - 1) (by omega)).2
  have:=(Array.getElem?_eq_some_iff.1 (hc _ _ h1)).1
  omega
 rw [Array.getElem?_setIfInBounds,Array.getElem?_setIfInBounds]
 obtain ⟨t,ht⟩:∃ t,j = t * 2∨j = t * 2+1:=⟨j / 2,by omega⟩
 have htl:t < l.length:=by omega
 have htl2:t < (l.set k q).length:=by rw [List.length_set];exact htl
 obtain ⟨g1,g2⟩:=flatP_get (l.set k q) t htl2
 obtain ⟨o1,o2⟩:=flatP_get l t htl
 rw [List.getElem_set] at g1 g2
 rcases ht with rfl | rfl
 ·rw [if_neg (by omega)]
  rw [g1] at hj
  by_cases e:k = t
  ·subst e
   rw [if_pos rfl,if_pos (by omega)]
   rw [if_pos rfl] at hj
   exact hj
  ·rw [if_neg (by omega)]
   rw [if_neg e] at hj
   rw [←hj]
   exact hc _ _ o1
 ·rw [g2] at hj
  by_cases e:k = t
  ·subst e
   rw [if_pos rfl,if_pos (by simp;omega)]
   rw [if_pos rfl] at hj
   exact hj
  ·rw [if_neg (by omega),if_neg (by omega)]
   rw [if_neg e] at hj
   rw [←hj]
   exact hc _ _ o2
theorem mix_set (el:List (Nat × Nat)) (f:Nat × Nat→Nat × Nat) (k:Nat) (hk:k < el.length):(el.take (k+1)).map f++el.drop (k+1) = ((el.take k).map f++el.drop k).set k (f el[k]):=by
 apply List.ext_getElem?
 intro j
 rw [List.getElem?_set]
 have hl:((el.take k).map f).length = k:=by simp;omega
 have hl1:((el.take (k+1)).map f).length = k+1:=by simp;omega
 rcases Nat.lt_trichotomy j k with h | h | h
 ·rw [if_neg (by omega),List.getElem?_append_left (by omega),List.getElem?_append_left (by omega),List.getElem?_map,List.getElem?_map,List.getElem?_take_of_lt h,List.getElem?_take_of_lt (by omega)]
 ·subst h
  rw [if_pos rfl,List.getElem?_append_left (by omega),List.getElem?_map,List.getElem?_take_of_lt (by omega),List.getElem?_eq_getElem hk]
  rw [if_pos (by simp;omega)];rfl
 ·rw [if_neg (by omega),List.getElem?_append_right (by omega),List.getElem?_append_right (by omega),hl,hl1,List.getElem?_drop,List.getElem?_drop]
  congr 1
  omega
theorem mix_get (el:List (Nat × Nat)) (f:Nat × Nat→Nat × Nat) (k:Nat) (hk:k < el.length):∃ h:k < ((el.take k).map f++el.drop k).length,((el.take k).map f++el.drop k)[k] = el[k]:=by
 have hl:((el.take k).map f).length = k:=by simp;omega
 refine ⟨by simp;omega,?_⟩
 rw [List.getElem_append_right (by omega)]
 simp only [List.getElem_drop]
 congr 1
 omega
theorem flatN_set {ns:List SNode} {vs:List Value} {n:SNode} {v:Value} {i:Nat} (hl:vs.length = ns.length) (hin:ns.length = i) {cs:Array Value} {N:Nat} (hs:cs.size = N * 5) (hN:i < N) (hc:∀ (j:Nat) (u:Value),(flatN ns vs)[j]? = some u→cs[j]? = some u) :
  ∀ (j:Nat) (u:Value),(flatN (ns++[n]) (vs++[v]))[j]? = some u→(((((cs.setIfInBounds (i * 5) (.int .i64 n.pl)).setIfInBounds (i * 5+1) (.int .i64 n.lit)).setIfInBounds (i * 5+2) v).setIfInBounds (i * 5+3) (.int .u64 (lo n.le))).setIfInBounds (i * 5+4) (.int .u64 (hi n.le)))[j]? = some u:=by
 intro j u hj
 rw [flatN_snoc _ _ _ _ hl] at hj
 have hfl:=flatN_len ns vs hl
 by_cases hlt:j < ns.length * 5
 ·rw [List.getElem?_append_left (by omega)] at hj
  simp only [Array.getElem?_setIfInBounds]
  rw [if_neg (by omega),if_neg (by omega),if_neg (by omega),if_neg (by omega),if_neg (by omega)]
  exact hc j u hj
 ·rw [List.getElem?_append_right (by omega),hfl] at hj
  obtain ⟨t,rfl⟩:∃ t,j = i * 5+t:=⟨j - i * 5,by omega⟩
  have e:i * 5+t - ns.length * 5 = t:=by omega
  rw [e] at hj
  have ht:t < 5:=by
   have:=(List.getElem?_eq_some_iff.1 hj).1
   simpa [nodeCells] using this
  simp only [Array.getElem?_setIfInBounds,Array.size_setIfInBounds]
  match t,ht with
  | 0,_=>rw [if_neg (by omega),if_neg (by omega),if_neg (by omega),if_neg (by omega),if_pos (by omega),if_pos (by omega)];simpa [nodeCells] using hj
  | 1,_=>rw [if_neg (by omega),if_neg (by omega),if_neg (by omega),if_pos (by omega),if_pos (by omega)];simpa [nodeCells] using hj
  | 2,_=>rw [if_neg (by omega),if_neg (by omega),if_pos (by omega),if_pos (by omega)];simpa [nodeCells] using hj
  | 3,_=>rw [if_neg (by omega),if_pos (by omega),if_pos (by omega)];simpa [nodeCells] using hj
  | 4,_=>rw [if_pos (by omega),if_pos (by omega)];simpa [nodeCells] using hj
end Go.Proofs.YtemnmcfmabamcaaGreatDoor
end
