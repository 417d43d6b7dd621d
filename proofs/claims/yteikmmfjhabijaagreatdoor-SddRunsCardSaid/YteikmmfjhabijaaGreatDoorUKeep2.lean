import Derived.Test.YteikmmfjhabijaaGreatDoorUKeep
import Derived.Test.YteikmmfjhabijaaGreatDoorUSem
import Derived.Laws.AppendOwnNone
set_option linter.unusedSimpArgs false
set_option linter.unusedVariables false
namespace Go.Proofs.YteikmmfjhabijaaGreatDoor
open Go Go.RowKit Go.Shelf
theorem Fr.seq {M N:List Nat} {w0 w w':World} (h:Fr N w0 w) (k:Fr M w w') (hM:∀ x∈M,x∈N∨w0.heap.size≤x):Fr N w0 w' :=
 ⟨k.os.trans h.os,k.tape.trans h.tape,k.output.trans h.output,Nat.le_trans h.size k.size,fun i hi hn=>(k.block i (Nat.lt_of_lt_of_le hi h.size) (fun hc=>(hM i hc).elim hn (fun h=>by omega))).trans (h.block i hi hn)⟩
theorem Fr.setCell {w:World} (b o:Nat) (v:Value):Fr [b] w (w.setCell ⟨b,o,none⟩ v) :=
 ⟨rfl,rfl,rfl,by simp [World.setCell],fun k _ hk=>Below.heap_setCell _ _ _ _ (by simpa using hk)⟩
theorem Fr.get {M:List Nat} {w w':World} (h:Fr M w w') {k:Nat} {o:Obj} (hk:w.heap[k]? = some o) (hM:k∉M):w'.heap[k]? = some o:=(h.block k (Array.getElem?_eq_some_iff.1 hk).1 hM).trans hk
theorem wpList_append_slI {w:World} {ops:Array Oper} {rest:List Oper} {o:Oper} {a:Act} {Q:Exit→Act→World→Prop} (hgd:o.guard = none) (s x:Operand)
  (ho:o.op = .call { callee:=.builtin .append,args:=#[s,x],argTypes:=#[32,32] }) (base:Nat) (i:TypeInfo) (hi:Tryz.prog.info? 3 = some i) (hz:i.zero = some (.int .i64 0)) (hsize:i.size = 1) (hby:i.bytes = 8)
  (v:Value) (n:Nat) (xs:List Value) (hs:a.eval s = v) (hown:w.ownsRow base 3 1 v n xs) (ba:Option Addr) (c:Nat) (l:List Int) (hx:a.eval x = .slice ba l.length c)
  (hsl:(ba = none∧l = []∧c = 0)∨∃ b o,ba = some ⟨b,o,none⟩∧∀ j (hj:j < l.length),w.cell? ⟨b,o+j,none⟩ = some (.int .i64 l[j])) (hn:n+l.length≤1100000) (hbase:base≤w.heap.size)
  (h:∀ v' w',w'.ownsRow base 3 1 v' (n+l.length) (xs++l.map encZ)→w.grownBy w' v.ownBlock→wpList Tryz.prog ops Q rest (a.put o.dst v') w'):wpList Tryz.prog ops Q (o :: rest) a w:=by
 rcases hsl with ⟨rfl,rfl,rfl⟩ | ⟨b,of,rfl,hc⟩
 ·exact wpList_append_own_none hgd s x 32 ho base 3 i 1 Tryz.underlying32 hi v n xs hs hown hx (h v w (by simpa using hown) ⟨rfl,rfl,rfl,Nat.le_refl _,fun _ _ _=>rfl⟩)
 ·refine wpList_append_own (w:=w) hgd s x 32 ho base 3 i _ 1 8 Tryz.underlying32 hi hz hsize hby rfl (by decide) v n xs hs hown ⟨b,of,none⟩ l.length c (l.map encZ) hx (by simp) (fun j u hj=>?_) (fun u hu=>?_) (by unfold maxLen;omega) (by omega) hbase (fun v' w' h1 h2 _=>h v' w' h1 h2)
  ·obtain ⟨z,hz1,rfl⟩:=List.getElem?_map .. ▸ hj |> Option.map_eq_some_iff.1
   obtain ⟨hjl,rfl⟩:=List.getElem?_eq_some_iff.1 hz1
   rw [Addr.add_lit]
   exact hc j hjl
  ·obtain ⟨z,_,rfl⟩:=List.mem_map.1 hu
   rfl
theorem clone_el {w:World} {v:Value} {l:List (Nat × Nat)} (h:ElAt w v l) (hl:l.length≤1048576):Calls Tryz.prog 72 #[v] w fun e w'=>∃ ba cap,e = .returned (.slice ba l.length cap)∧((l = []∧ba = none∧cap = 0)∨∃ (g:Nat) (cs:Array Value),ba = some ⟨g,0,none⟩∧w.heap.size≤g∧w'.heap[g]? = some (.cells cs tPair (0,0))∧∀ (j:Nat) (u:Value),(flatP l)[j]? = some u→cs[j]? = some u)∧Below w.heap.size w w':=by
 obtain ⟨ba,c,rfl,⟨rfl,rfl,rfl⟩ | ⟨b,o,rfl,hr⟩⟩:=h
 ·refine (clone_pairs_nil w).mono ?_
  rintro e w' ⟨rfl,rfl⟩
  exact ⟨none,0,rfl,.inl ⟨rfl,rfl,rfl⟩,Below.refl _ _⟩
 ·refine (clone_pairs w b o c l hr hl).mono ?_
  rintro e w' ⟨g,cap,cs,rfl,h1,h2,h3,h4⟩
  exact ⟨_,cap,rfl,.inr ⟨g,cs,rfl,h1,h2,fun j u hj=>by have:=h3 j u hj;rwa [Nat.zero_add] at this⟩,h4⟩
theorem sort_own {w:World} {base:Nat} {v:Value} {l:List Nat} (ho:w.ownsRow base 3 1 v l.length (l.map encI)) (hne:l≠[]) (hl:l.length≤1048576) :
  Calls Tryz.prog 71 #[v] w fun e w'=>e = .returned (.tuple #[])∧∃ b:List Nat,b.Perm l∧b.Pairwise (·≤·)∧w'.ownsRow base 3 1 v b.length (b.map encI)∧w.grownBy w' v.ownBlock:=by
 rcases ho.2 with ⟨rfl,e⟩ | ⟨g,cap,cur,rfl,hbase,hb,h1,h2,h3,h4⟩
 ·exact absurd (List.length_eq_zero_iff.1 e) hne
 ·have em:l.map encI = (l.map fun n:Nat=>(n:Int)).map (Value.int .i64):=by rw [List.map_map];rfl
  rw [em,show l.length = (l.map fun n:Nat=>(n:Int)).length by simp] at h4
  have hcall:=AnyM.slices_Sort_int Tryz.sortInt g 0 cap (l.map fun n:Nat=>(n:Int)) w (holds_of_blockI hb (by simpa using h4)) (Array.getElem?_eq_some_iff.1 hb).1 (by simp;omega)
  have hperm:=List.mergeSort_perm (l.map fun n:Nat=>(n:Int)) (fun x y=>decide (x≤y))
  have hpw:=List.pairwise_mergeSort (le:=fun x y:Int=>decide (x≤y)) (by intro a b c h1 h2;simp only [decide_eq_true_eq] at *;omega) (by intro a b;simp only [Bool.or_eq_true,decide_eq_true_eq];omega) (l.map fun n:Nat=>(n:Int))
  generalize hz:(l.map fun n:Nat=>(n:Int)).mergeSort (fun x y=>decide (x≤y)) = zs at *
  obtain ⟨b,hbz⟩:∃ b:List Nat,zs = b.map fun n:Nat=>(n:Int):=by
   refine ⟨zs.map Int.toNat,?_⟩
   rw [List.map_map]
   have:∀ z∈zs,((fun n:Nat=>(n:Int)) ∘ Int.toNat) z = z:=fun z hz'=>by
    obtain ⟨n,_,rfl⟩:=List.mem_map.1 (hperm.mem_iff.1 hz')
    simp
   exact (List.map_congr_left this).trans (List.map_id zs) |>.symm
  subst hbz
  have hinj:∀ {a c:List Nat},(a.map fun n:Nat=>(n:Int)).Perm (c.map fun n:Nat=>(n:Int))→a.Perm c:=fun {a c} h=>by
   have:=h.map Int.toNat
   simpa [List.map_map,Function.comp_def] using this
  rw [List.length_map] at hcall
  refine hcall.mono ?_
  rintro e w' ⟨rfl,n,os,rfl⟩
  have hbl:b.length = l.length:=(hinj hperm).length_eq
  refine ⟨rfl,b,hinj hperm,?_,?_,grownBy_sortedI _⟩
  ·rw [List.pairwise_map] at hpw
   exact hpw.imp fun h=>by simpa using h
  ·have:=ownsRow_sortedI (n:=n) (os:=os) (ss:=l.map fun n:Nat=>(n:Int)) (ts:=b.map fun n:Nat=>(n:Int)) (by simp [hbl]) hbase hb (by simpa using h1) h2 h3
   have e2:b.map encI = (b.map fun n:Nat=>(n:Int)).map (Value.int .i64):=by rw [List.map_map];rfl
   rw [e2,hbl]
   simpa using this
end Go.Proofs.YteikmmfjhabijaaGreatDoor
