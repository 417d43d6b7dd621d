import Derived.Test.YtgphkbnoflfneaaDoorBase
import Derived.RangeFuncRecord
import Derived.Laws.StructEq
namespace Go.Proofs.YtgphkbnoflfneaaDoor
open Go Go.RowKit

set_option linter.unusedSectionVars false
section
variable {P : Program} {α β : Type} [DecidableEq α]

/-- the entries of a map -/
def mkE (enc : α → Value) (e : α × Value × Nat) : MapEntry := { key := enc e.1, val := e.2.1, born := e.2.2 }
/-- the first entry with a key: its index and value -/
def findL (a : α) : List (α × Value × Nat) → Nat → Option (Nat × Value)
  | [], _ => none
  | e :: r, i => if a = e.1 then some (i, e.2.1) else findL a r (i + 1)

/-- what the laws ask of a type of keys -/
structure KeyLaw (P : Program) (K : TypeId) (enc : α → Value) : Prop where
  check : ∀ e a w, (Instr.checkKey e 10000 K (enc a)).run P w = .ok () w
  find : ∀ a L w, (Instr.findKey K (enc a) (L.map (mkE enc))).run P w = .ok (findL a L 0) w
  same : ∀ a, Instr.sameBits 10000 (enc a) (enc a) = true

/-- the stamps of a map's entries differ -/
def Good (L : List (α × Value × Nat)) (clock : Nat) : Prop := (∀ e ∈ L, e.2.2 < clock) ∧ (L.map (fun e => e.2.2)).Nodup
theorem Good.push {L : List (α × Value × Nat)} {clock : Nat} (h : Good L clock) (a : α) (v : Value) : Good (L ++ [(a, v, clock)]) (clock + 1) := by
  refine ⟨fun e he => ?_, ?_⟩
  · rcases List.mem_append.1 he with he | he
    · have := h.1 e he; omega
    · simp only [List.mem_singleton] at he; subst he; exact Nat.lt_succ_self _
  · rw [List.map_append]
    refine List.nodup_append.2 ⟨h.2, by simp, fun a ha c hc e => ?_⟩
    simp only [List.map_cons, List.map_nil, List.mem_singleton] at hc
    obtain ⟨x, hx, rfl⟩ := List.mem_map.1 ha
    have := h.1 x hx
    omega
theorem stamps_modify (f : α × Value × Nat → α × Value × Nat) (hf : ∀ e, (f e).2.2 = e.2.2) : ∀ (L : List (α × Value × Nat)) (i : Nat), (L.modify i f).map (fun e => e.2.2) = L.map (fun e => e.2.2)
  | [], i => by cases i <;> rfl
  | e :: r, 0 => by simp [hf]
  | e :: r, i + 1 => by simp [List.modify_succ_cons, stamps_modify f hf r i]
theorem mem_of_stamp {L M : List (α × Value × Nat)} (h : L.map (fun e => e.2.2) = M.map (fun e => e.2.2)) {clock : Nat} (hg : Good M clock) : Good L clock := by
  refine ⟨fun e he => ?_, h ▸ hg.2⟩
  have : e.2.2 ∈ M.map (fun e => e.2.2) := h ▸ List.mem_map_of_mem he
  obtain ⟨x, hx, e1⟩ := List.mem_map.1 this
  have := hg.1 x hx
  omega
theorem Good.mod {L : List (α × Value × Nat)} {clock : Nat} (h : Good L clock) (f : α × Value × Nat → α × Value × Nat) (hf : ∀ e, (f e).2.2 = e.2.2) (i : Nat) : Good (L.modify i f) clock :=
  mem_of_stamp (stamps_modify f hf L i) h

/-- block b is a map that holds m -/
def MapAt (enc : α → Value) (encV : β → Value) (w : World) (b : Nat) (m : α → Option β) : Prop :=
  ∃ L clock, w.heap[b]? = some (.map (L.map (mkE enc)).toArray clock) ∧ (∀ a, (findL a L 0).map (·.2) = (m a).map encV) ∧ Good L clock

theorem findL_shift (a : α) (L : List (α × Value × Nat)) : ∀ i, findL a L i = (findL a L 0).map (fun p => (p.1 + i, p.2)) := by
  induction L with
  | nil => intro i; rfl
  | cons e r ih =>
    intro i
    unfold findL
    split
    · simp
    · rw [ih (i + 1), ih (0 + 1), Option.map_map]
      congr 1
      funext p
      simp; omega
theorem findL_append (a b : α) (v : Value) (n : Nat) (L : List (α × Value × Nat)) : (findL a (L ++ [(b, v, n)]) 0).map (·.2) = match (findL a L 0).map (·.2) with
    | some x => some x
    | none => if a = b then some v else none := by
  induction L with
  | nil => by_cases h : a = b <;> simp [findL, h]
  | cons e r ih =>
    simp only [List.cons_append, findL]
    by_cases h : a = e.1
    · simp [h]
    · simp only [h, if_false]
      rw [findL_shift a _ 1, findL_shift a r 1, Option.map_map, Option.map_map]
      exact ih
theorem findL_get (a : α) (L : List (α × Value × Nat)) : ∀ i v, findL a L 0 = some (i, v) → ∃ n, L[i]? = some (a, v, n) := by
  induction L with
  | nil => intro i v h; simp [findL] at h
  | cons e r ih =>
    intro i v h
    unfold findL at h
    split at h
    · rename_i he
      simp at h
      obtain ⟨rfl, rfl⟩ := h
      exact ⟨e.2.2, by subst he; rfl⟩
    · rw [findL_shift] at h
      simp at h
      obtain ⟨j, hj, rfl⟩ := h
      obtain ⟨n, hn⟩ := ih j v hj
      exact ⟨n, by simpa using hn⟩
theorem findL_modify (a b : α) (v : Value) (L : List (α × Value × Nat)) : ∀ i u, findL b L 0 = some (i, u) →
    (findL a (L.modify i fun e => (b, v, e.2.2)) 0).map (·.2) = if a = b then some v else (findL a L 0).map (·.2) := by
  induction L with
  | nil => intro i u h; simp [findL] at h
  | cons e r ih =>
    intro i u h
    unfold findL at h
    split at h
    · rename_i he
      simp at h
      obtain ⟨rfl, rfl⟩ := h
      simp only [List.modify_zero_cons, findL]
      by_cases hab : a = b
      · simp [hab]
      · simp [hab, show a ≠ e.1 from he ▸ hab]
    · rename_i he
      rw [findL_shift] at h
      simp at h
      obtain ⟨j, hj, rfl⟩ := h
      simp only [List.modify_succ_cons, findL]
      by_cases hae : a = e.1
      · have : a ≠ b := fun h => he (h ▸ hae)
        simp [hae, show e.1 ≠ b from fun h => he h.symm]
      · simp only [hae, if_false]
        rw [findL_shift a _ 1, findL_shift a r 1, Option.map_map, Option.map_map]
        exact ih j u hj

theorem MapAt.look {K E T : TypeId} {enc : α → Value} {encV : β → Value} {w : World} {b : Nat} {m : α → Option β} (h : MapAt enc encV w b m) (law : KeyLaw P K enc)
    (hT : P.underlying T = some (.map K E)) (z : Value) (hz : ∀ w, (zeroValue E).run P w = .ok z w) (a : α) :
    (Instr.lookup T (.map (some b)) (enc a) true).run P w = .ok (.tuple #[((m a).map encV).getD z, .bool (m a).isSome]) w := by
  obtain ⟨L, clock, hb, hm, _⟩ := h
  have hf := hm a
  have h2 := law.find a L w
  cases hl : findL a L 0 with
  | none =>
    rw [hl] at hf h2
    have hma : m a = none := by simpa using hf.symm
    simp [Instr.lookup, run_underlying hT, Sem.run_bind, getObj, Sem.run, hb, Result.andThen, law.check, h2, hz, hma]
  | some p =>
    rw [hl] at hf h2
    obtain ⟨v, hv, hpv⟩ : ∃ v, m a = some v ∧ encV v = p.2 := by
      cases hma : m a with
      | none => rw [hma] at hf; simp at hf
      | some v => rw [hma] at hf; exact ⟨v, rfl, by simpa using hf.symm⟩
    simp [Instr.lookup, run_underlying hT, Sem.run_bind, getObj, Sem.run, hb, Result.andThen, law.check, h2, hv, hpv]
/-- a map with one more association -/
def upd (m : α → Option β) (a : α) (v : β) : α → Option β := fun x => if x = a then some v else m x

/-- the new object behind m[k] = v -/
def putMap (K : TypeId) (P : Program) (w : World) (b : Nat) (k v : Value) : World :=
  match w.heap[b]? with
  | some (.map es clock) =>
    match (Instr.findKey K k es.toList).run P w with
    | .ok (some (i, _)) _ => w.putObj b (.map (es.modify i fun e => { e with key := k, val := v }) clock)
    | _ => w.putObj b (.map (es.push { key := k, val := v, born := clock }) (clock + 1))
  | _ => w

theorem putMap_other (K : TypeId) (w : World) (b : Nat) (k v : Value) (j : Nat) (h : j ≠ b) : (putMap K P w b k v).heap[j]? = w.heap[j]? := by
  unfold putMap
  split
  · split <;> exact World.putObj_heap_other h
  · rfl
theorem putMap_size (K : TypeId) (w : World) (b : Nat) (k v : Value) : (putMap K P w b k v).heap.size = w.heap.size := by
  unfold putMap
  split
  · split <;> simp
  · rfl
theorem putMap_rest (K : TypeId) (w : World) (b : Nat) (k v : Value) : (putMap K P w b k v).os = w.os ∧ (putMap K P w b k v).tape = w.tape ∧ (putMap K P w b k v).output = w.output ∧ (putMap K P w b k v).drawn = w.drawn := by
  unfold putMap
  split
  · split <;> exact ⟨rfl, rfl, rfl, rfl⟩
  · exact ⟨rfl, rfl, rfl, rfl⟩

theorem MapAt.put {K E T : TypeId} {enc : α → Value} {encV : β → Value} {w : World} {b : Nat} {m : α → Option β} (h : MapAt enc encV w b m) (law : KeyLaw P K enc)
    (hT : P.underlying T = some (.map K E)) (a : α) (v : β) :
    (Instr.mapUpdate T (.map (some b)) (enc a) (encV v)).run P w = .ok () (putMap K P w b (enc a) (encV v)) ∧ MapAt enc encV (putMap K P w b (enc a) (encV v)) b (upd m a v) := by
  obtain ⟨L, clock, hb, hm, hg⟩ := h
  have h2 := law.find a L w
  have hlt := (Array.getElem?_eq_some_iff.1 hb).1
  cases hl : findL a L 0 with
  | none =>
    rw [hl] at h2
    have hp : putMap K P w b (enc a) (encV v) = w.putObj b (.map ((L ++ [(a, encV v, clock)]).map (mkE enc)).toArray (clock + 1)) := by
      simp [putMap, hb, h2, mkE]
    refine ⟨?_, L ++ [(a, encV v, clock)], clock + 1, by rw [hp]; exact World.putObj_heap_same hlt, fun x => ?_, hg.push a (encV v)⟩
    · rw [hp]
      simp [Instr.mapUpdate, run_underlying hT, Sem.run_bind, getObj, setObj, Sem.run, hb, Result.andThen, law.check, h2, World.putObj, mkE]
    · rw [findL_append]
      have := hm x
      by_cases hx : x = a
      · subst hx
        simp [hl, upd]
      · rw [this]
        cases hmx : m x <;> simp [upd, hx, hmx]
  | some p =>
    obtain ⟨i, u⟩ := p
    rw [hl] at h2
    obtain ⟨n, hn⟩ := findL_get a L i u hl
    have hmod : ((L.map (mkE enc)).toArray.modify i fun e => { e with key := enc a, val := encV v }) = ((L.modify i fun e => (a, encV v, e.2.2)).map (mkE enc)).toArray := by
      apply Array.ext_getElem?
      intro j
      simp only [Array.getElem?_modify, List.getElem?_toArray, List.getElem?_map, List.getElem?_modify]
      by_cases hj : i = j
      · subst hj; simp [hn, mkE]
      · simp [hj]
    have hp : putMap K P w b (enc a) (encV v) = w.putObj b (.map ((L.modify i fun e => (a, encV v, e.2.2)).map (mkE enc)).toArray clock) := by
      simp [putMap, hb, h2, hmod]
    refine ⟨?_, _, clock, by rw [hp]; exact World.putObj_heap_same hlt, fun x => ?_, hg.mod (fun e => (a, encV v, e.2.2)) (fun _ => rfl) i⟩
    · rw [hp, ← hmod]
      simp [Instr.mapUpdate, run_underlying hT, Sem.run_bind, getObj, setObj, Sem.run, hb, Result.andThen, law.check, h2, World.putObj, hn, Instr.keyThatStays, law.same, mkE]
    · rw [findL_modify x a (encV v) L i u hl]
      by_cases hx : x = a
      · simp [upd, hx]
      · simp [upd, hx, hm x]
/-- an entry of key a with a stamp -/
def Ent (L : List (α × Value × Nat)) (a : α) (st : Nat) : Prop := ∃ i u, findL a L 0 = some (i, u) ∧ L[i]? = some (a, u, st)
def lookL (L : List (α × Value × Nat)) (a : α) : Option Value := (findL a L 0).map (·.2)
/-- block b is a map's, with entries L -/
def MapL (enc : α → Value) (w : World) (b : Nat) (L : List (α × Value × Nat)) : Prop := ∃ clock, w.heap[b]? = some (.map (L.map (mkE enc)).toArray clock) ∧ Good L clock
/-- all but a block is as it was -/
def But (b : Nat) (w w' : World) : Prop := (∀ k, k ≠ b → w'.heap[k]? = w.heap[k]?) ∧ w'.heap.size = w.heap.size ∧ w'.os = w.os ∧ w'.tape = w.tape ∧ w'.output = w.output ∧ w'.drawn = w.drawn
theorem But.trans {b : Nat} {w w1 w2 : World} (h : But b w w1) (k : But b w1 w2) : But b w w2 :=
  ⟨fun j hj => (k.1 j hj).trans (h.1 j hj), k.2.1.trans h.2.1, k.2.2.1.trans h.2.2.1, k.2.2.2.1.trans h.2.2.2.1, k.2.2.2.2.1.trans h.2.2.2.2.1, k.2.2.2.2.2.trans h.2.2.2.2.2⟩
theorem But.put (b : Nat) (w : World) (o : Obj) : But b w (w.putObj b o) := ⟨fun _ hj => World.putObj_heap_other hj, by simp, rfl, rfl, rfl, rfl⟩

theorem findL_none_append (a c : α) (v : Value) (n : Nat) (L : List (α × Value × Nat)) (i : Nat) (u : Value) (h : findL c L 0 = some (i, u)) : findL c (L ++ [(a, v, n)]) 0 = some (i, u) := by
  induction L generalizing i with
  | nil => simp [findL] at h
  | cons e r ih =>
    unfold findL at h
    simp only [List.cons_append]
    unfold findL
    split at h
    · rename_i he
      rw [if_pos he]; exact h
    · rename_i he
      rw [if_neg he]
      rw [findL_shift] at h ⊢
      simp at h
      obtain ⟨j, hj, rfl⟩ := h
      rw [ih j hj]
      rfl
theorem findL_new (a : α) (v : Value) (n : Nat) (L : List (α × Value × Nat)) (h : findL a L 0 = none) : findL a (L ++ [(a, v, n)]) 0 = some (L.length, v) := by
  induction L with
  | nil => simp [findL]
  | cons e r ih =>
    unfold findL at h
    split at h
    · cases h
    · rename_i he
      simp only [List.cons_append]
      unfold findL
      rw [if_neg he, findL_shift, ih (by rw [findL_shift] at h; simpa using h)]
      simp
theorem findIdx_stamp (enc : α → Value) (L : List (α × Value × Nat)) (hn : (L.map (fun e => e.2.2)).Nodup) (i : Nat) (a : α) (u : Value) (st : Nat) (h : L[i]? = some (a, u, st)) :
    (L.map (mkE enc)).findIdx? (fun e => (e.born : Int) == (st : Int)) = some i := by
  induction L generalizing i with
  | nil => simp at h
  | cons e r ih =>
    rw [List.map_cons, List.nodup_cons] at hn
    rw [List.map_cons, List.findIdx?_cons]
    cases i with
    | zero =>
      simp only [List.getElem?_cons_zero, Option.some.injEq] at h
      subst h
      simp [mkE]
    | succ i =>
      simp only [List.getElem?_cons_succ] at h
      have hm := List.mem_of_getElem? h
      have hne : e.2.2 ≠ st := fun he => hn.1 (List.mem_map.2 ⟨_, hm, he.symm⟩)
      rw [if_neg (by simp [mkE]; omega), ih hn.2 i h]
      rfl
theorem modify_same {β : Type} (f : β → β) : ∀ (L : List β) (i : Nat) (x : β), L[i]? = some x → f x = x → L.modify i f = L
  | [], i, _, h, _ => by simp at h
  | b :: r, 0, x, h, hf => by simp at h; subst h; simp [hf]
  | b :: r, i + 1, x, h, hf => by simp at h; simp [List.modify_succ_cons, modify_same f r i x h hf]
theorem findL_modify_some (c : α) (f : α × Value × Nat → α × Value × Nat) (hf : ∀ e, (f e).1 = e.1) : ∀ (L : List (α × Value × Nat)) (i j : Nat) (u : Value) , findL c L 0 = some (j, u) → ∃ u', findL c (L.modify i f) 0 = some (j, u') := by
  intro L
  induction L with
  | nil => intro i j u h; simp [findL] at h
  | cons e r ih =>
    intro i j u h
    unfold findL at h
    split at h
    · rename_i he
      simp at h
      obtain ⟨rfl, rfl⟩ := h
      cases i with
      | zero => exact ⟨(f e).2.1, by simp [findL, hf, he]⟩
      | succ i => exact ⟨e.2.1, by simp [findL, he]⟩
    · rename_i he
      rw [findL_shift] at h
      simp at h
      obtain ⟨j', hj', rfl⟩ := h
      cases i with
      | zero => exact ⟨u, by simp only [List.modify_zero_cons, findL, hf, if_neg he]; rw [findL_shift, hj']; rfl⟩
      | succ i =>
        obtain ⟨u', hu'⟩ := ih i j' u hj'
        exact ⟨u', by simp only [List.modify_succ_cons, findL, if_neg he]; rw [findL_shift, hu']; rfl⟩

theorem ent_run {K E T : TypeId} {enc : α → Value} {w : World} {b : Nat} {L : List (α × Value × Nat)} (h : MapL enc w b L) (law : KeyLaw P K enc)
    (hT : P.underlying T = some (.map K E)) (z : Value) (hz : ∀ w, (zeroValue E).run P w = .ok z w) (a : α) :
    ∃ p st w' L', (Instr.mapEntry T (.map (some b)) (enc a)).run P w = .ok (.tuple #[p, goInt (st : Nat)]) w' ∧ MapL enc w' b L' ∧ But b w w' ∧ Ent L' a st ∧
      (∀ x, x ≠ a → lookL L' x = lookL L x) ∧ (∀ c sc, Ent L c sc → Ent L' c sc) := by
  obtain ⟨clock, hb, hg⟩ := h
  have h2 := law.find a L w
  have hlt := (Array.getElem?_eq_some_iff.1 hb).1
  cases hl : findL a L 0 with
  | none =>
    rw [hl] at h2
    refine ⟨z, clock, w.putObj b (.map ((L ++ [(a, z, clock)]).map (mkE enc)).toArray (clock + 1)), L ++ [(a, z, clock)], ?_, ⟨clock + 1, World.putObj_heap_same hlt, hg.push _ _⟩, But.put _ _ _, ⟨L.length, z, findL_new a z clock L hl, by simp⟩, fun x hx => ?_, fun c sc hc => ?_⟩
    · simp [Instr.mapEntry, run_underlying hT, Sem.run_bind, getObj, setObj, Sem.run, hb, Result.andThen, law.check, h2, hz, World.putObj, mkE]
    · unfold lookL
      rw [findL_append]
      cases hx2 : findL x L 0 <;> simp [hx]
    · obtain ⟨i, u, h3, h4⟩ := hc
      exact ⟨i, u, findL_none_append _ _ _ _ _ _ _ h3, by rw [List.getElem?_append_left (List.getElem?_eq_some_iff.1 h4).1]; exact h4⟩
  | some p =>
    obtain ⟨i, u⟩ := p
    rw [hl] at h2
    obtain ⟨n, hn⟩ := findL_get a L i u hl
    have hself : ((L.map (mkE enc)).toArray.modify i fun e => { e with key := enc a }) = (L.map (mkE enc)).toArray := by
      apply Array.ext_getElem?
      intro j
      simp only [Array.getElem?_modify, List.getElem?_toArray, List.getElem?_map]
      by_cases hj : i = j
      · subst hj; simp [hn, mkE]
      · simp [hj]
    refine ⟨u, n, w.putObj b (.map (L.map (mkE enc)).toArray clock), L, ?_, ⟨clock, World.putObj_heap_same hlt, hg⟩, But.put _ _ _, ⟨i, u, hl, hn⟩, fun _ _ => rfl, fun _ _ h => h⟩
    have hself' : ∀ x, ((L.map (mkE enc)).toArray.modify i fun e => ({ key := enc a, val := e.val, born := e.born } : MapEntry)) = x → x = (L.map (mkE enc)).toArray := fun x hx => hx.symm.trans hself
    simp [Instr.mapEntry, run_underlying hT, Sem.run_bind, getObj, setObj, Sem.run, hb, Result.andThen, law.check, h2, World.putObj, hn, Instr.keyThatStays, law.same, mkE]
    first | done | (try simp [mkE] at hself; simp [hself])
theorem store_run {T : TypeId} {enc : α → Value} {w : World} {b : Nat} {L : List (α × Value × Nat)} (h : MapL enc w b L) {a : α} {st : Nat} (he : Ent L a st) (v : Value) :
    ∃ w' L', (Instr.entryStore T (.map (some b)) (goInt (st : Nat)) v).run P w = .ok () w' ∧ MapL enc w' b L' ∧ But b w w' ∧
      (∀ x, lookL L' x = if x = a then some v else lookL L x) ∧ (∀ c sc, Ent L c sc → Ent L' c sc) := by
  obtain ⟨clock, hb, hg⟩ := h
  obtain ⟨i, u, h1, h2⟩ := he
  have hlt := (Array.getElem?_eq_some_iff.1 hb).1
  have hidx := findIdx_stamp enc L hg.2 i a u st h2
  have hmod : ((L.map (mkE enc)).toArray.modify i fun e => { e with val := v }) = ((L.modify i fun e => (e.1, v, e.2.2)).map (mkE enc)).toArray := by
    apply Array.ext_getElem?
    intro j
    simp only [Array.getElem?_modify, List.getElem?_toArray, List.getElem?_map, List.getElem?_modify]
    by_cases hj : i = j
    · subst hj; simp [h2, mkE]
    · simp [hj]
  have hmm : (L.modify i fun e => (e.1, v, e.2.2)) = (L.modify i fun e => (a, v, e.2.2)) := by
    apply List.ext_getElem?
    intro j
    simp only [List.getElem?_modify]
    by_cases hj : i = j
    · subst hj; simp [h2]
    · simp [hj]
  refine ⟨w.putObj b (.map ((L.modify i fun e => (e.1, v, e.2.2)).map (mkE enc)).toArray clock), _, ?_, ⟨clock, World.putObj_heap_same hlt, hg.mod (fun e => (e.1, v, e.2.2)) (fun _ => rfl) i⟩, But.put _ _ _, fun x => ?_, fun c sc hc => ?_⟩
  · have hidx' : (L.map (mkE enc)).toArray.findIdx? (fun e => (e.born : Int) == (st : Int)) = some i := by
      rw [List.findIdx?_toArray]; exact hidx
    rw [← hmod]
    simp only [Instr.entryStore, Sem.run_bind, getObj, setObj, Sem.run, hb, Result.andThen, asInt, asIntOf, goInt, hidx', World.putObj]
    simp [Sem.run, hb, Result.andThen, hidx', World.putObj]
  · unfold lookL
    rw [hmm]
    exact findL_modify x a v L i u h1
  · obtain ⟨j, y, h3, h4⟩ := hc
    obtain ⟨y', h5⟩ := findL_modify_some c (fun e => (e.1, v, e.2.2)) (fun _ => rfl) L i j y h3
    obtain ⟨n, hn⟩ := findL_get c _ j y' h5
    refine ⟨j, y', h5, ?_⟩
    rw [hn]
    rw [List.getElem?_modify] at hn
    simp [h4] at hn
    by_cases hij : i = j
    · simp [hij] at hn; simp [hn]
    · simp [hij] at hn; simp [hn]
end

/-- keys that are ints -/
theorem intLaw {P : Program} {α : Type} [DecidableEq α] {K : TypeId} (hK : P.underlying K = some (.int .i64)) (f : α → Int) (hf : ∀ a b, f a = f b → a = b) : KeyLaw P K (fun n : α => Value.int .i64 (f n)) where
  check e a w := by rw [Instr.checkKey]; simp [run_underlying hK]
  same a := by rw [Instr.sameBits]; simp
  find a L w := by
    have : ∀ L i, Instr.findNow (.int .i64) (.int .i64 (f a)) (L.map (mkE fun n : α => Value.int .i64 (f n))) i = some (findL a L i) := by
      intro L
      induction L with
      | nil => intro i; rfl
      | cons x r ih =>
        intro i
        simp only [List.map_cons, Instr.findNow, mkE, Instr.sameNow, findL, if_true]
        by_cases h : a = x.1
        · simp [h]
        · have : (f a == f x.1) = false := by simp; exact fun e => h (hf _ _ e)
          simp only [this, h, if_false]
          exact ih (i + 1)
    simp [Instr.findKey, run_underlying hK, this]

/-- keys that are strings -/
theorem strLaw {P : Program} {α : Type} [DecidableEq α] {K : TypeId} (hK : P.underlying K = some .string) (f : α → List UInt8) (hf : ∀ a b, f a = f b → a = b) : KeyLaw P K (fun n : α => Value.string ⟨(f n).toArray⟩) where
  check e a w := by rw [Instr.checkKey]; simp [run_underlying hK]
  same a := by
    rw [Instr.sameBits]
    show ((f a).toArray == (f a).toArray) = true
    simp
  find a L w := by
    have : ∀ L i, Instr.findNow .string (.string ⟨(f a).toArray⟩) (L.map (mkE fun n : α => Value.string ⟨(f n).toArray⟩)) i = some (findL a L i) := by
      intro L
      induction L with
      | nil => intro i; rfl
      | cons x r ih =>
        intro i
        simp only [List.map_cons, Instr.findNow, mkE, Instr.sameNow, findL]
        by_cases h : a = x.1
        · have : ((⟨(f a).toArray⟩ : ByteArray) == ⟨(f x.1).toArray⟩) = true := by
            rw [h]
            show ((f x.1).toArray == (f x.1).toArray) = true
            simp
          rw [if_pos h, this]
        · have : ((⟨(f a).toArray⟩ : ByteArray) == ⟨(f x.1).toArray⟩) = false := by
            show ((f a).toArray == (f x.1).toArray) = false
            rw [beq_eq_false_iff_ne]
            intro e
            exact h (hf _ _ (by simpa using e))
          simp only [this, h, if_false]
          exact ih (i + 1)
    simp [Instr.findKey, run_underlying hK, this]

theorem pairCheck (e : Bool) (a : Nat × Nat) (w : World) : (Instr.checkKey e 10000 76 (.agg #[.int .i64 (a.1 : Int), .int .i64 (a.2 : Int)])).run Tryd.prog w = .ok () w := by kernel_rfl
theorem pairEq (a b : Nat × Nat) (w : World) : (Op.equal 76 (.agg #[.int .i64 (a.1 : Int), .int .i64 (a.2 : Int)]) (.agg #[.int .i64 (b.1 : Int), .int .i64 (b.2 : Int)])).run Tryd.prog w = .ok (decide (a = b)) w := by
  unfold Op.equal Op.maxDepth
  rw [run_equalIn_agg w _ _ _ _ (by kernel_rfl) (by kernel_rfl)]
  simp only [Program.fieldsOf, Tryd.underlying76, List.toArray, Op.eqFields]
  simp [go_sem, Op.eqFields, Tryd.underlying3]
  by_cases h1 : (a.1 : Int) = b.1 <;> by_cases h2 : (a.2 : Int) = b.2 <;> simp [h1, h2, Prod.ext_iff] <;> omega

theorem askFind {P : Program} {α : Type} [DecidableEq α] {K : TypeId} {enc : α → Value} (heq : ∀ a b w, (Op.equal K (enc a) (enc b)).run P w = .ok (decide (a = b)) w) (a : α) (w : World) :
    ∀ L i, (Instr.findAsking K (enc a) (L.map (mkE enc)) i).run P w = .ok (findL a L i) w := by
  intro L
  induction L with
  | nil => intro i; simp [Instr.findAsking, findL]
  | cons x r ih =>
    intro i
    simp only [List.map_cons, Instr.findAsking, mkE, Sem.run_bind, heq, Result.andThen, findL]
    by_cases h : a = x.1
    · simp [h]
    · simp only [h, decide_false, Bool.false_eq_true, if_false]
      exact ih (i + 1)

theorem askLaw {P : Program} {α : Type} [DecidableEq α] {K : TypeId} {kind : TypeDesc} {enc : α → Value} (hK : P.underlying K = some kind)
    (hc : ∀ e a w, (Instr.checkKey e 10000 K (enc a)).run P w = .ok () w) (hs : ∀ a, Instr.sameBits 10000 (enc a) (enc a) = true)
    (hn : ∀ a b, Instr.sameNow kind (enc a) (enc b) = none) (heq : ∀ a b w, (Op.equal K (enc a) (enc b)).run P w = .ok (decide (a = b)) w) : KeyLaw P K enc where
  check := hc
  same := hs
  find a L w := by
    cases L with
    | nil => simp [Instr.findKey, run_underlying hK, Instr.findNow, findL]
    | cons x r =>
      have h1 : Instr.findNow kind (enc a) ((x :: r).map (mkE enc)) 0 = none := by
        simp [Instr.findNow, mkE, hn]
      simp only [Instr.findKey, Sem.run_bind, run_underlying hK, Result.andThen, h1]
      exact askFind heq a w (x :: r) 0

def encPr (a : Nat × Nat) : Value := .agg #[.int .i64 (a.1 : Int), .int .i64 (a.2 : Int)]
theorem pairLaw : KeyLaw Tryd.prog 76 encPr :=
  askLaw (kind := .struct (Tryd.prog.fieldsOf 76)) (by kernel_rfl) pairCheck (fun a => by
    unfold encPr; rw [Instr.sameBits]; simp; exact ⟨by rw [Instr.sameBits]; simp, by rw [Instr.sameBits]; simp⟩) (fun _ _ => rfl) pairEq
end Go.Proofs.YtgphkbnoflfneaaDoor
