import Derived.Test.YtgphkbnoflfneaaDoorSddL
namespace Go.Proofs.YtgphkbnoflfneaaDoor
open Go Go.RowKit

def decVal (l : List UInt8) : Nat := l.foldl (fun a d => 10 * a + (d.toNat - 48)) 0
theorem decVal_digits (n : Nat) : decVal (Lib.decDigits n) = n := by
  induction n using Nat.strongRecOn with
  | _ n ih =>
    rw [Lib.decDigits]
    split
    · rename_i h
      simp [decVal]
      omega
    · rename_i h
      have := ih (n / 10) (by omega)
      unfold decVal at *
      rw [List.foldl_append, this]
      simp
      omega
theorem dec_range (n : Nat) : ∀ d ∈ Lib.decDigits n, 48 ≤ d.toNat ∧ d.toNat ≤ 57 := by
  induction n using Nat.strongRecOn with
  | _ n ih =>
    rw [Lib.decDigits]
    split
    · rename_i h
      intro d hd
      simp at hd
      subst hd
      simp
      omega
    · rename_i h
      intro d hd
      rw [List.mem_append] at hd
      rcases hd with hd | hd
      · exact ih (n / 10) (by omega) d hd
      · simp at hd
        subst hd
        simp
        omega
theorem itoa_no32 (i : Int) : (32 : UInt8) ∉ Lib.itoa i := by
  intro h
  unfold Lib.itoa at h
  split at h
  · rw [List.mem_cons] at h
    rcases h with h | h
    · simp at h
    · have := (dec_range _ _ h).1; simp at this
  · have := (dec_range _ _ h).1; simp at this
theorem itoa_inj (i j : Int) (h : Lib.itoa i = Lib.itoa j) : i = j := by
  unfold Lib.itoa at h
  have key : ∀ a b : Nat, Lib.decDigits a = Lib.decDigits b → a = b := fun a b e => by
    have := congrArg decVal e; rwa [decVal_digits, decVal_digits] at this
  have nodash : ∀ (a : Nat) (l : List UInt8), Lib.decDigits a = 45 :: l → False := fun a l e => by
    have := (dec_range a 45 (by rw [e]; simp)).1
    simp at this
  split at h <;> split at h
  · have := key _ _ (List.cons.inj h).2; omega
  · exact (nodash _ _ h.symm).elim
  · exact (nodash _ _ h).elim
  · have := key _ _ h; omega
theorem split32 (x y x' y' : List UInt8) (hx : (32 : UInt8) ∉ x) (hx' : (32 : UInt8) ∉ x') (h : x ++ 32 :: y = x' ++ 32 :: y') : x = x' ∧ y = y' := by
  induction x generalizing x' with
  | nil =>
    cases x' with
    | nil => simpa using h
    | cons a r =>
      simp at h
      exact absurd (by simp [h.1]) hx'
  | cons a r ih =>
    cases x' with
    | nil =>
      simp at h
      exact absurd (by simp [h.1]) hx
    | cons b r' =>
      simp at h
      obtain ⟨rfl, h⟩ := h
      obtain ⟨h1, h2⟩ := ih r' (fun e => hx (List.mem_cons_of_mem _ e)) (fun e => hx' (List.mem_cons_of_mem _ e)) h
      exact ⟨by rw [h1], h2⟩
def keyT (el : List (Nat × Nat)) : List UInt8 := el.flatMap fun p => [32] ++ Lib.itoa p.1 ++ [32] ++ Lib.itoa p.2
theorem split32' (x y x' y' : List UInt8) (hx : (32 : UInt8) ∉ x) (hx' : (32 : UInt8) ∉ x') (hy : y = [] ∨ ∃ t, y = 32 :: t) (hy' : y' = [] ∨ ∃ t, y' = 32 :: t) (h : x ++ y = x' ++ y') : x = x' ∧ y = y' := by
  rcases hy with rfl | ⟨t, rfl⟩ <;> rcases hy' with rfl | ⟨t', rfl⟩
  · simpa using h
  · exact absurd (by rw [show x = x' ++ 32 :: t' by simpa using h]; simp) hx
  · exact absurd (by rw [show x' = x ++ 32 :: t by simpa using h.symm]; simp) hx'
  · obtain ⟨h1, h2⟩ := split32 _ _ _ _ hx hx' h
    exact ⟨h1, by rw [h2]⟩
theorem keyT_head (el : List (Nat × Nat)) : keyT el = [] ∨ ∃ t, keyT el = 32 :: t := by
  cases el with
  | nil => exact .inl rfl
  | cons p r => exact .inr ⟨Lib.itoa p.1 ++ 32 :: (Lib.itoa p.2 ++ keyT r), by simp [keyT]⟩
theorem keyT_inj : ∀ el el' : List (Nat × Nat), keyT el = keyT el' → el = el' := by
  intro el
  induction el with
  | nil =>
    intro el' h
    cases el' with
    | nil => rfl
    | cons p r => simp [keyT] at h
  | cons p r ih =>
    intro el' h
    cases el' with
    | nil => simp [keyT] at h
    | cons p' r' =>
      have e : ∀ (p : Nat × Nat) (r : List (Nat × Nat)), keyT (p :: r) = 32 :: (Lib.itoa p.1 ++ 32 :: (Lib.itoa p.2 ++ keyT r)) := fun p r => by simp [keyT]
      rw [e, e] at h
      obtain ⟨h1, h2⟩ := split32 _ _ _ _ (itoa_no32 _) (itoa_no32 _) (List.cons.inj h).2
      obtain ⟨h3, h4⟩ := split32' _ _ _ _ (itoa_no32 _) (itoa_no32 _) (keyT_head r) (keyT_head r') h2
      have a := itoa_inj _ _ h1
      have b := itoa_inj _ _ h3
      rw [ih r' h4]
      congr 1
      exact Prod.ext (by omega) (by omega)
/-- a key as bytes -/
def keyOf (k : Key) : List UInt8 := keyB k.1 k.2.1 k.2.2
theorem keyOf_inj (a b : Key) (h : keyOf a = keyOf b) : a = b := by
  obtain ⟨a1, a2, a3⟩ := a
  obtain ⟨b1, b2, b3⟩ := b
  have e : ∀ x y z, keyOf (x, y, z) = Lib.itoa x ++ 32 :: (Lib.itoa y ++ keyT z) := fun x y z => by simp [keyOf, keyB, keyT]
  rw [e, e] at h
  obtain ⟨h1, h2⟩ := split32 _ _ _ _ (itoa_no32 _) (itoa_no32 _) h
  obtain ⟨h3, h4⟩ := split32' _ _ _ _ (itoa_no32 _) (itoa_no32 _) (keyT_head a3) (keyT_head b3) h2
  rw [itoa_inj _ _ h1, itoa_inj _ _ h3, keyT_inj _ _ h4]
end Go.Proofs.YtgphkbnoflfneaaDoor
