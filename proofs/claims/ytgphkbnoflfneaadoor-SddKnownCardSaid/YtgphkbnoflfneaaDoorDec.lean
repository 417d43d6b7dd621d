import Derived.Test.YtgphkbnoflfneaaDoorCmp
import Derived.Test.YtgphkbnoflfneaaDoorShelf3
import Derived.Test.YtgphkbnoflfneaaDoorSortL
namespace Go.Proofs.YtgphkbnoflfneaaDoor
open Go Go.RowKit Go.Shelf Go.Sort

/-- pairs whose primes are nodes -/
abbrev PrN (n : Nat) := { p : Nat × Nat // p.1 < n }
def encPN {n : Nat} (p : PrN n) : List Value := [.int .i64 (p.1.1 : Nat), .int .i64 (p.1.2 : Nat)]
instance {n : Nat} [h : NeZero n] : Inhabited (PrN n) := ⟨⟨(0, 0), Nat.pos_of_ne_zero h.out⟩⟩
def cmpN (ns : List SNode) (p q : PrN ns.length) : Int := cmpF ns p.1 q.1

theorem lessP_irr (ns : List SNode) (x : Nat × Nat) : lessP ns x x = false := lessS_irr _
theorem lessP_tr (ns : List SNode) (x y z : Nat × Nat) (h1 : lessP ns x y = true) (h2 : lessP ns y z = true) : lessP ns x z = true := lessS_tr _ _ _ h1 h2
theorem ltOf_cmpN (ns : List SNode) (p q : PrN ns.length) : ltOf (cmpN ns) p q = lessP ns p.1 q.1 := by
  unfold ltOf cmpN cmpF lessP
  cases h : lessS (leOf ns p.1.1) (leOf ns q.1.1) <;> simp
theorem swoN (ns : List SNode) : SWO (ltOf (cmpN ns)) where
  irrefl x := by rw [ltOf_cmpN]; exact lessS_irr _
  trans x y z h1 h2 := by rw [ltOf_cmpN] at *; exact lessS_tr _ _ _ h1 h2
  ntrans x y z h1 h2 := by rw [ltOf_cmpN] at *; exact lessS_ntr _ _ _ h1 h2

theorem isAggP (w : World) : (isAgg 76).run Tryd.prog w = .ok true w := by kernel_rfl
theorem sizeOfP (w : World) : (Go.sizeOf 76).run Tryd.prog w = .ok 2 w := by kernel_rfl

theorem grow_of_ext {w w' : World} (h : Ext w w') : ∃ q os, w' = grow (w.drewN q) os := by
  refine ⟨w'.drawn - w.drawn, w'.heap.extract w.heap.size w'.heap.size, ?_⟩
  have h1 := h.below
  have hd := h.drawn
  have hh : w'.heap = w.heap ++ w'.heap.extract w.heap.size w'.heap.size := by
    apply Array.ext_getElem?
    intro k
    rw [Array.getElem?_append]
    split
    · rename_i hk; exact h1.block k hk
    · rename_i hk
      rw [Array.getElem?_extract]
      have := h1.size
      by_cases hk2 : k < w'.heap.size
      · rw [if_pos (by omega)]; congr 1; omega
      · rw [if_neg (by omega), Array.getElem?_eq_none (by omega)]
  cases w'
  cases w
  simp only [grow, World.drewN] at *
  have := h1.os; have := h1.tape; have := h1.output
  simp only at *
  subst_vars
  congr 1
  omega

section
variable {α : Type} [Inhabited α] (enc : α → List Value) (k : Nat) (w : World) (blk off m : Nat) (dk : Array α) (os : Array Obj)
theorem sw_other {j : Nat} (hj : j < w.heap.size) (hne : j ≠ blk) : (sortWorldK enc k w blk off m dk os).heap[j]? = w.heap[j]? := by
  unfold sortWorldK putRowK putRow
  rw [heap_grow_old _ _ (by simpa [mapBlock, Sort.ahead] using hj)]
  simp only [mapBlock, Array.getElem?_modify, if_neg (Ne.symm hne), Sort.ahead]
theorem sw_blk {c : Array Value} {e : TypeId} {fr : Nat × Nat} (hb : w.heap[blk]? = some (.cells c e fr)) : (sortWorldK enc k w blk off m dk os).heap[blk]? = some (.cells (putCells id off (flatK enc k dk) c) e fr) := by
  have hlt := (Array.getElem?_eq_some_iff.1 hb).1
  unfold sortWorldK putRowK putRow
  rw [heap_grow_old _ _ (by simpa [mapBlock, Sort.ahead] using hlt)]
  simp only [mapBlock, Array.getElem?_modify, if_true, Sort.ahead, hb]
  rfl
theorem sw_size : w.heap.size ≤ (sortWorldK enc k w blk off m dk os).heap.size := by
  unfold sortWorldK putRowK
  simp [Sort.ahead]
theorem sw_rest : (sortWorldK enc k w blk off m dk os).os = w.os ∧ (sortWorldK enc k w blk off m dk os).tape = w.tape ∧ (sortWorldK enc k w blk off m dk os).output = w.output := ⟨rfl, rfl, rfl⟩
end

theorem flatK_flatP {n : Nat} [NeZero n] (d : Array (PrN n)) (j : Nat) (hj : j < d.size * 2) : (flatK encPN 2 d)[j]? = (flatP (d.toList.map (·.1)))[j]? := by
  have e1 : (flatK encPN 2 d)[j]? = some ((encPN d[j / 2]!)[j % 2]!) := by
    rw [Array.getElem?_eq_getElem (by simpa using hj)]
    congr 1
    rw [← get_flatK encPN 2 d j hj, getElem!_pos]
  rw [e1]
  obtain ⟨q, r, hr, rfl⟩ : ∃ q r, r < 2 ∧ j = q * 2 + r := ⟨j / 2, j % 2, by omega, by omega⟩
  have h1 : q < d.size := by omega
  have hl : q < (d.toList.map (·.1)).length := by simpa using h1
  obtain ⟨g1, g2⟩ := flatP_get (d.toList.map (·.1)) q hl
  rw [show (q * 2 + r) / 2 = q from by omega, show (q * 2 + r) % 2 = r from by omega, getElem!_pos d q h1]
  obtain rfl | rfl : r = 0 ∨ r = 1 := by omega
  · rw [Nat.add_zero, g1]
    simp [encPN]
  · rw [g2]
    simp [encPN]

theorem perm_sorted {α β : Type} [Inhabited α] (f : α → β) (lt : β → β → Bool) (lt' : α → α → Bool) (hlt : ∀ x y, lt' x y = lt (f x) (f y)) (d d' : Array α) (n : Nat) (hds : d.size = n) (hp : PermIn 0 n d d') (hsr : SortedIn lt' 0 n d') :
    (d'.toList.map f).Perm (d.toList.map f) ∧ (d'.toList.map f).Pairwise (fun a b => lt b a = false) := by
  subst hds
  obtain ⟨h1, _, h3⟩ := hp
  constructor
  · have e1 : d.extract 0 d.size = d := by simp
    have e2 : d'.extract 0 d.size = d' := by rw [← h1]; simp
    rw [e1, e2] at h3
    exact h3.map f
  · rw [List.pairwise_map, List.pairwise_iff_getElem]
    intro i j hi hj hij
    have hi' : i < d'.size := by simpa using hi
    have hj' : j < d'.size := by simpa using hj
    have := hsr i j (Nat.zero_le _) hij (by omega)
    rw [hlt, getElem!_pos d' j hj', getElem!_pos d' i hi'] at this
    simpa using this

set_option maxHeartbeats 400000 in
/-- what the call of the sort leaves -/
theorem sort_pairs {B : Blks} {ns : List SNode} {bx : Nat} {w : World} (h : LeRep B ns bx w) (l : List (Nat × Nat)) (blk off cap : Nat) {c : Array Value} (hb : w.heap[blk]? = some (.cells c tPair (0, 0)))
    (hc : ∀ j u, (flatP l)[j]? = some u → c[off + j]? = some u) (hn : ns.length ≤ 1048576) (hall : ∀ p ∈ l, p.1 < ns.length) (hap : aparts (lessP ns) l = true) (hne : l ≠ []) (hlen : l.length ≤ 1048576)
    (hoff : blk ≠ gTz ∧ blk ≠ bx ∧ blk ≠ B.sb ∧ blk ≠ B.nb) :
    Calls Tryd.prog 62 #[.slice (some ⟨blk, off, none⟩) l.length cap, .func (.func 63) #[] #[.pointer (some ⟨bx, 0, none⟩)]] w fun e w' =>
      e = .returned (.tuple #[]) ∧ ((∀ j, j < w.heap.size → j ≠ blk → w'.heap[j]? = w.heap[j]?) ∧ w.heap.size ≤ w'.heap.size ∧ (w'.os = w.os ∧ w'.tape = w.tape ∧ w'.output = w.output) ∧ RowAt w' blk off tPair (flatP (sortF (lessP ns) l))) := by
  have hpos : 0 < ns.length := by
    cases l with
    | nil => exact absurd rfl hne
    | cons p r => have := hall p (List.mem_cons_self ..); omega
  haveI : NeZero ns.length := ⟨by omega⟩
  obtain ⟨d, hd⟩ : ∃ d : Array (PrN ns.length), d.toList.map (·.1) = l := ⟨(l.attach.map fun p => ⟨p.1, hall p.1 p.2⟩).toArray, by simp [List.map_map, Function.comp_def, List.attach_map_subtype_val]⟩
  have hds : d.size = l.length := by rw [← hd]; simp
  have hlt := (Array.getElem?_eq_some_iff.1 hb).1
  have hgz := h.tz.lt'
  have hbl := World.block_lt_of_cell? w _ h.box
  obtain ⟨cpn, hnod⟩ := h.nod
  have hsl := World.block_lt_of_cell? w _ hnod
  have hnl := World.block_lt_of_cell? w _ (h.le 0 hpos).1
  have hcmp : CmpLays Tryd.prog 63 #[.pointer (some ⟨bx, 0, none⟩)] encPN 2 (cmpN ns) blk off d.size w := by
    intro m os dk _ x y
    have hL : LeRep B ns bx (sortWorldK encPN 2 w blk off m dk os) := h.same fun k hk => by
      rcases hk with rfl | rfl | rfl | rfl
      · exact sw_other _ _ _ _ _ _ _ _ hgz (Ne.symm hoff.1)
      · exact sw_other _ _ _ _ _ _ _ _ hbl (Ne.symm hoff.2.1)
      · exact sw_other _ _ _ _ _ _ _ _ hsl (Ne.symm hoff.2.2.1)
      · exact sw_other _ _ _ _ _ _ _ _ hnl (Ne.symm hoff.2.2.2)
    refine (decide1_any hL x.1.1 x.1.2 y.1.1 y.1.2 x.2 y.2 hn).mono ?_
    rintro e w' ⟨rfl, hx⟩
    exact ⟨rfl, grow_of_ext hx⟩
  have hH : HoldsK encPN 2 w blk off d := by
    intro j hj
    simp at hj
    have e2 := flatK_flatP d j hj
    rw [hd] at e2
    have e3 : (flatP l)[j]? = some ((flatK encPN 2 d)[j]!) := by
      rw [← e2, Array.getElem?_eq_getElem (by simpa using hj), getElem!_pos]
    have := hc j _ e3
    constructor
    · simp [World.cell?, hb, this]
    · simp [World.frozen?, hb]
  have h0 := AnyQ.slices_SortFunc (α := PrN ns.length) Tryd.sortPair 2 isAggP sizeOfP
  have h1 := h0 encPN (fun _ => rfl) (fun x v hv => by simp [encPN] at hv; rcases hv with rfl | rfl <;> rfl)
  have h2 := h1 (cmpN ns) (swoN ns)
  have h3 := h2 63 #[.pointer (some ⟨bx, 0, none⟩)] blk off cap d w
  have h4 := h3 (enters_of Tryd.func63 (by kernel_rfl) rfl)
  have h5 := h4 hcmp hH hlt (by omega)
  clear h0 h1 h2 h3 h4
  rw [hds] at h5
  change Calls Tryd.prog 62 _ _ _ at h5
  refine h5.mono ?_
  rintro e w' ⟨rfl, d', n, os, hp, hsr, rfl⟩
  refine ⟨rfl, fun j hj hne => sw_other _ _ _ _ _ _ _ _ hj hne, sw_size _ _ _ _ _ _ _ _, sw_rest _ _ _ _ _ _ _ _, ?_⟩
  have hsz : d'.size = d.size := hp.1
  have k1 := perm_sorted (α := PrN ns.length) (β := Nat × Nat) (fun x => x.1) (lessP ns) (ltOf (cmpN ns)) (ltOf_cmpN ns) d d' l.length hds
  obtain ⟨hperm, hsr2⟩ := k1 hp hsr
  rw [hd] at hperm
  have hsorted := sorted_of (lessP ns) _ (aparts_perm (lessP ns) hperm.symm hap) hsr2
  have heq : d'.toList.map (·.1) = sortF (lessP ns) l := sorted_unique (lessP ns) (lessP_irr ns) (lessP_tr ns) _ _ (hperm.trans (sortF_perm _ l).symm) hsorted (sortF_sorted (lessP ns) (lessP_tr ns) l hap)
  refine ⟨_, _, sw_blk _ _ _ _ _ _ _ _ hb, fun j u hj => ?_⟩
  rw [← heq] at hj
  have hjl : j < d'.size * 2 := by
    have := (List.getElem?_eq_some_iff.1 hj).1
    rw [flatP_len] at this
    simp at this; omega
  rw [← flatK_flatP d' j hjl] at hj
  have hoj : off + j < c.size := by
    have hj2 : j < (flatP l).length := by rw [flatP_len, ← hds, ← hsz]; omega
    exact (Array.getElem?_eq_some_iff.1 (hc j _ (List.getElem?_eq_getElem hj2))).1
  simp only [putCells, Array.getElem?_mapIdx, Array.getElem?_eq_getElem hoj, Option.map_some]
  rw [if_pos ⟨by omega, by simp; omega⟩, show off + j - off = j from by omega]
  rw [Array.getElem?_eq_getElem (by simpa using hjl)] at hj
  rw [getElem!_pos _ j (by simpa using hjl)]
  simpa using hj
end Go.Proofs.YtgphkbnoflfneaaDoor
