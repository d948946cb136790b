/-
  span: how many bits two ids have in common; the plain laws of what is drawn.
-/
import Derived.Test.YtcgfednoolkhkaaSpP
import Derived.Test.YtcgfednoolkhkaaSpD
namespace Go.Proofs.Ytcgfednoolkhkaa
open Go.RowKit
set_option linter.unusedVariables false
def pref (far : List Nat) : Nat := (List.range 160).findIdx fun j => decide (bit far j = 1)
theorem pref_le (far : List Nat) : pref far ≤ 160 := by
  have := List.findIdx_le_length (xs := List.range 160) (p := fun j => decide (bit far j = 1))
  simpa [pref] using this
theorem pref_below (far : List Nat) (j : Nat) (h : j < pref far) : bit far j = 0 := by
  have h1 := List.not_of_lt_findIdx (p := fun j => decide (bit far j = 1)) (xs := List.range 160) h
  have h2 := bit_le far j
  simp at h1
  omega
theorem pref_at (far : List Nat) (h : pref far < 160) : bit far (pref far) = 1 := by
  have h1 := List.findIdx_getElem (p := fun j => decide (bit far j = 1)) (xs := List.range 160) (w := by simpa [pref] using h)
  simp at h1
  exact h1
theorem pref_eq (far : List Nat) (i : Nat) (hi : i < 160) (h1 : bit far i = 1) (h0 : ∀ j, j < i → bit far j = 0) : pref far = i := by
  rcases Nat.lt_trichotomy (pref far) i with h | h | h
  · have a := pref_at far (by omega)
    have b := h0 _ h
    omega
  · exact h
  · have := pref_below far i h
    omega
theorem pref_all (far : List Nat) (h : ∀ j, j < 160 → bit far j = 0) : pref far = 160 := by
  have := pref_le far
  rcases Nat.lt_or_ge (pref far) 160 with h1 | h1
  · have a := pref_at far h1
    have b := h _ h1
    omega
  · omega
/-- Leading noughts of a byte. -/
def lz8 (x : Nat) : Nat := if x = 0 then 8 else 7 - Nat.log2 x
theorem lz8_spec : ∀ x, x < 256 → x ≠ 0 → lz8 x < 8 ∧ x.testBit (7 - lz8 x) = true ∧ ∀ j, j < lz8 x → x.testBit (7 - j) = false := by decide +kernel
theorem bit_at (l : List Nat) (p j : Nat) (hj : j < 8) : bit l (8 * p + j) = if (l.getD p 0).testBit (7 - j) = true then 1 else 0 := by
  unfold bit sh
  rw [show (8 * p + j) / 8 = p by omega, show (8 * p + j) % 8 = j by omega]
theorem bit_zero (l : List Nat) (p j : Nat) (hj : j < 8) (h : l.getD p 0 = 0) : bit l (8 * p + j) = 0 := by
  rw [bit_at l p j hj, h]; simp
theorem pref_byte (far : List Nat) (p x : Nat) (hp : p < 20) (hx : x < 256) (hx0 : x ≠ 0) (he : far.getD p 0 = x) (h0 : ∀ q, q < p → far.getD q 0 = 0) : pref far = 8 * p + lz8 x := by
  obtain ⟨h1, h2, h3⟩ := lz8_spec x hx hx0
  refine pref_eq far _ (by omega) ?_ ?_
  · rw [bit_at far p _ h1, he, if_pos h2]
  · intro j hj
    rcases Nat.lt_or_ge j (8 * p) with h | h
    · have := bit_zero far (j / 8) (j % 8) (by omega) (h0 _ (by omega))
      rwa [show 8 * (j / 8) + j % 8 = j by omega] at this
    · have := bit_at far p (j - 8 * p) (by omega)
      rw [show 8 * p + (j - 8 * p) = j by omega, he, h3 _ (by omega)] at this
      simpa using this
theorem pref_none (far : List Nat) (h : ∀ q, q < 20 → far.getD q 0 = 0) : pref far = 160 :=
  pref_all far fun j hj => by
    have := bit_zero far (j / 8) (j % 8) (by omega) (h _ (by omega))
    rwa [show 8 * (j / 8) + j % 8 = j by omega] at this
theorem pref_same {o t : List Nat} (ho : Id o) (ht : Id t) : pref (xorL o t) = 160 ↔ o = t := by
  constructor
  · intro h
    refine id_ext o t ho ht fun j hj => ?_
    have := pref_below (xorL o t) j (by omega)
    rw [bit_xor o t ho.1 ht.1 j hj] at this
    split at this
    · assumption
    · omega
  · rintro rfl
    refine pref_all _ fun j hj => ?_
    rw [bit_xor o o ho.1 ho.1 j hj, if_pos rfl]
theorem pref_bits {o t : List Nat} (ho : Id o) (ht : Id t) (h : pref (xorL o t) < 160) : bit o (pref (xorL o t)) ≠ bit t (pref (xorL o t)) ∧ ∀ j, j < pref (xorL o t) → bit o j = bit t j := by
  constructor
  · have := pref_at _ h
    rw [bit_xor o t ho.1 ht.1 _ h] at this
    intro e
    rw [if_pos e] at this
    omega
  · intro j hj
    have := pref_below _ _ hj
    rw [bit_xor o t ho.1 ht.1 j (by omega)] at this
    split at this
    · assumption
    · omega
/-- What is drawn of a bucket is for that bucket. -/
theorem pref_laid {o : List Nat} (ho : Id o) (i : Nat) (hi : i < 160) (f : Nat → Int) : pref (xorL o (laidL o i f)) = i := by
  have hx := id_laid ho i f
  refine pref_eq _ i hi ?_ ?_
  · rw [bit_xor o _ ho.1 hx.1 i hi, bit_laid ho i hi f i hi, if_pos rfl, if_neg]
    have := bit_le o i
    omega
  · intro j hj
    rw [bit_xor o _ ho.1 hx.1 j (by omega), bit_laid ho i hi f j (by omega), if_neg (show ¬ j = i by omega), if_neg (show ¬ i < j by omega), if_pos rfl]
theorem laid_le {o : List Nat} (ho : Id o) (i : Nat) (hi : i < 160) (f g : Nat → Int) (h : ∀ j, j < 160 → b01 (f j) ≤ b01 (g j)) : cmpN (laidL o i f) (laidL o i g) ≤ 0 := by
  refine cmp_le _ _ (id_laid ho i f) (id_laid ho i g) fun j hj => ?_
  rw [bit_laid ho i hi f j hj, bit_laid ho i hi g j hj]
  split
  · omega
  · split
    · exact h j hj
    · omega
theorem b01_bit (l : List Nat) (j : Nat) : b01 ((bit l j : Nat) : Int) = bit l j := by
  have := bit_le l j
  unfold b01
  split <;> omega
theorem b01_le (x : Int) : b01 x ≤ 1 := by unfold b01; split <;> omega
theorem from_self {l : List Nat} (h : l.length = 20) : fromL l = l := by
  unfold fromL
  rw [List.take_of_length_le (by omega), List.drop_eq_nil_of_le (by simp [zero20]; omega), List.append_nil]
/-- An id that a bucket is for is drawn of itself. -/
theorem laid_own {o t : List Nat} (ho : Id o) (ht : Id t) (h : pref (xorL o t) < 160) : laidL o (pref (xorL o t) : Nat) (fun k => (bit (fromL t) k : Nat)) = t := by
  obtain ⟨h1, h2⟩ := pref_bits ho ht h
  refine id_ext _ _ (id_laid ho _ _) ht fun j hj => ?_
  rw [bit_laid ho _ h _ j hj, from_self ht.1, b01_bit]
  split
  · rename_i e
    subst e
    have := bit_le o (pref (xorL o t))
    have := bit_le t (pref (xorL o t))
    omega
  · split
    · rfl
    · exact h2 j (by omega)
theorem laid_low {o t : List Nat} (ho : Id o) (ht : Id t) (h : pref (xorL o t) < 160) : cmpN (laidL o (pref (xorL o t) : Nat) (fun _ => 0)) t ≤ 0 := by
  have e := laid_own ho ht h
  have := laid_le ho (pref (xorL o t)) h (fun _ => 0) (fun k => (bit (fromL t) k : Nat)) (fun j _ => by simp [b01])
  rwa [e] at this
theorem laid_high {o t : List Nat} (ho : Id o) (ht : Id t) (h : pref (xorL o t) < 160) : cmpN t (laidL o (pref (xorL o t) : Nat) (fun _ => 1)) ≤ 0 := by
  have e := laid_own ho ht h
  have := laid_le ho (pref (xorL o t)) h (fun k => (bit (fromL t) k : Nat)) (fun _ => 1) (fun j _ => by rw [show b01 1 = 1 from rfl]; exact b01_le _)
  rwa [e] at this
end Go.Proofs.Ytcgfednoolkhkaa
