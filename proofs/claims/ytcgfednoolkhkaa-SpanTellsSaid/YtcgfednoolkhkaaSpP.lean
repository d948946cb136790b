/-
  span: plain laws on ids, bits and their order.
-/
import Derived.Test.YtcgfednoolkhkaaSpN
namespace Go.Proofs.Ytcgfednoolkhkaa
open Go.RowKit
set_option linter.unusedVariables false
set_option linter.unusedSimpArgs false
theorem cmp_cons (a b : Nat) (us vs : List Nat) (ha : a < 256) (hb : b < 256) : cmpN (a :: us) (b :: vs) = if a < b then -1 else if b < a then 1 else cmpN us vs := by
  have h : ∀ x : Nat, x < 256 → (UInt8.ofNat ((x : Int).toNat)).toNat = x := fun x hx => by simp; omega
  have h1 : (UInt8.ofNat ((a : Int).toNat) < UInt8.ofNat ((b : Int).toNat)) = (a < b) := by rw [UInt8.lt_iff_toNat_lt, h a ha, h b hb]
  have h2 : (UInt8.ofNat ((b : Int).toNat) < UInt8.ofNat ((a : Int).toNat)) = (b < a) := by rw [UInt8.lt_iff_toNat_lt, h a ha, h b hb]
  simp only [cmpN, nums, Lib.bytesOf, List.map_cons, Lib.compareBytes]
  simp only [h1, h2]
theorem cmp_nil : cmpN [] [] = 0 := rfl
theorem cmp_self : ∀ (l : List Nat), (∀ x ∈ l, x < 256) → cmpN l l = 0
  | [], _ => rfl
  | a :: us, h => by
    have ha := h a (List.mem_cons_self ..)
    rw [cmp_cons a a us us ha ha, if_neg (Nat.lt_irrefl a), if_neg (Nat.lt_irrefl a)]
    exact cmp_self us (fun x hx => h x (List.mem_cons_of_mem _ hx))
theorem cmp_first : ∀ (q : Nat) (A B : List Nat), (∀ x ∈ A, x < 256) → (∀ x ∈ B, x < 256) → q < A.length → q < B.length → (∀ p, p < q → A.getD p 0 = B.getD p 0) → A.getD q 0 < B.getD q 0 → cmpN A B = -1
  | 0, a :: us, b :: vs, hA, hB, _, _, _, h => by
    rw [cmp_cons a b us vs (hA a (List.mem_cons_self ..)) (hB b (List.mem_cons_self ..)), if_pos (by simpa using h)]
  | q + 1, a :: us, b :: vs, hA, hB, h1, h2, h3, h => by
    have h0 : a = b := by simpa using h3 0 (by omega)
    subst h0
    rw [cmp_cons a a us vs (hA a (List.mem_cons_self ..)) (hB a (List.mem_cons_self ..)), if_neg (Nat.lt_irrefl a), if_neg (Nat.lt_irrefl a)]
    refine cmp_first q us vs (fun x hx => hA x (List.mem_cons_of_mem _ hx)) (fun x hx => hB x (List.mem_cons_of_mem _ hx)) (by simpa using h1) (by simpa using h2) (fun p hp => ?_) (by simpa using h)
    simpa using h3 (p + 1) (by omega)
  | _, [], _, _, _, h1, _, _, _ => by simp at h1
  | _, _ :: _, [], _, _, _, h2, _, _ => by simp at h2
theorem bit_test (l : List Nat) (p s : Nat) (hs : s < 8) : (l.getD p 0).testBit s = decide (bit l (8 * p + (7 - s)) = 1) := by
  have h1 : (8 * p + (7 - s)) / 8 = p := by omega
  have h2 : sh (8 * p + (7 - s)) = s := by unfold sh; omega
  unfold bit
  rw [h1, h2]
  cases (l.getD p 0).testBit s <;> simp
theorem byte_eq (A B : List Nat) (hA : Id A) (hB : Id B) (p : Nat) (h : ∀ s, s < 8 → bit A (8 * p + (7 - s)) = bit B (8 * p + (7 - s))) : A.getD p 0 = B.getD p 0 := by
  apply Nat.eq_of_testBit_eq
  intro s
  by_cases hs : s < 8
  · rw [bit_test A p s hs, bit_test B p s hs, h s hs]
  · rw [Nat.testBit_lt_two_pow (Nat.lt_of_lt_of_le (id_lt hA p) (Nat.pow_le_pow_right (n := 2) (by decide) (show 8 ≤ s by omega))), Nat.testBit_lt_two_pow (Nat.lt_of_lt_of_le (id_lt hB p) (Nat.pow_le_pow_right (n := 2) (by decide) (show 8 ≤ s by omega)))]
theorem id_ext (A B : List Nat) (hA : Id A) (hB : Id B) (h : ∀ j, j < 160 → bit A j = bit B j) : A = B := by
  have hl := hA.1
  have hl' := hB.1
  apply List.ext_getElem (by omega)
  intro p h1 h2
  have := byte_eq A B hA hB p (fun s hs => h _ (by omega))
  simpa [List.getD, h1, h2] using this
theorem lt_of_bits (x y s : Nat) (h0 : x.testBit s = false) (h1 : y.testBit s = true) (h : ∀ j, s < j → x.testBit j = y.testBit j) : x < y := by
  have e : x / 2 ^ (s + 1) = y / 2 ^ (s + 1) := by
    apply Nat.eq_of_testBit_eq
    intro j
    rw [Nat.testBit_div_two_pow, Nat.testBit_div_two_pow]
    exact h _ (by omega)
  rw [Nat.testBit_eq_decide_div_mod_eq] at h0 h1
  have h0' : x / 2 ^ s % 2 ≠ 1 := by simpa using h0
  have h1' : y / 2 ^ s % 2 = 1 := by simpa using h1
  rw [Nat.pow_succ, ← Nat.div_div_eq_div_mul, ← Nat.div_div_eq_div_mul] at e
  have hlt : x / 2 ^ s < y / 2 ^ s := by omega
  exact Nat.lt_of_not_le fun hle => by have := Nat.div_le_div_right (c := 2 ^ s) hle; omega
theorem cmp_lt (A B : List Nat) (hA : Id A) (hB : Id B) (i : Nat) (hi : i < 160) (h : ∀ j, j < i → bit A j = bit B j) (h0 : bit A i = 0) (h1 : bit B i = 1) : cmpN A B = -1 := by
  have hl := hA.1
  have hl' := hB.1
  refine cmp_first (i / 8) A B hA.2 hB.2 (by omega) (by omega) (fun p hp => byte_eq A B hA hB p (fun s hs => h _ (by omega))) ?_
  have e1 : 8 * (i / 8) + (7 - sh i) = i := by unfold sh; omega
  refine lt_of_bits _ _ (sh i) ?_ ?_ ?_
  · rw [bit_test A _ _ (sh_lt i), e1, h0]; decide
  · rw [bit_test B _ _ (sh_lt i), e1, h1]; decide
  · intro s hs
    by_cases h8 : s < 8
    · rw [bit_test A _ _ h8, bit_test B _ _ h8, h (8 * (i / 8) + (7 - s)) (by unfold sh at hs; omega)]
    · rw [Nat.testBit_lt_two_pow (Nat.lt_of_lt_of_le (id_lt hA _) (Nat.pow_le_pow_right (n := 2) (by decide) (show 8 ≤ s by omega))), Nat.testBit_lt_two_pow (Nat.lt_of_lt_of_le (id_lt hB _) (Nat.pow_le_pow_right (n := 2) (by decide) (show 8 ≤ s by omega)))]
theorem cmp_le (A B : List Nat) (hA : Id A) (hB : Id B) (h : ∀ j, j < 160 → bit A j ≤ bit B j) : cmpN A B ≤ 0 := by
  by_cases he : ∀ j, j < 160 → bit A j = bit B j
  · rw [id_ext A B hA hB he, cmp_self B hB.2]; exact Int.le_refl _
  · have hex : ∃ j, j < 160 ∧ bit A j ≠ bit B j := by
      apply Classical.byContradiction
      intro hn
      exact he (fun j hj => Classical.byContradiction fun hne => hn ⟨j, hj, hne⟩)
    have key : ∀ n, (∀ j, j < n → bit A j = bit B j) ∨ ∃ j, j < n ∧ bit A j ≠ bit B j ∧ ∀ k, k < j → bit A k = bit B k := by
      intro n
      induction n with
      | zero => exact .inl (fun j hj => absurd hj (Nat.not_lt_zero j))
      | succ n ih =>
        rcases ih with h1 | ⟨j, hj, hne, hk⟩
        · by_cases hn : bit A n = bit B n
          · exact .inl (fun j hj => by rcases Nat.lt_or_eq_of_le (Nat.le_of_lt_succ hj) with h2 | rfl; exact h1 j h2; exact hn)
          · exact .inr ⟨n, Nat.lt_succ_self n, hn, h1⟩
        · exact .inr ⟨j, Nat.lt_succ_of_lt hj, hne, hk⟩
    rcases key 160 with h1 | ⟨j, hj, hne, hk⟩
    · exact absurd h1 he
    · have a1 := bit_le A j
      have b1 := bit_le B j
      have := h j hj
      rw [cmp_lt A B hA hB j hj hk (by omega) (by omega)]
      decide
theorem bit_xor (A B : List Nat) (hA : A.length = 20) (hB : B.length = 20) (j : Nat) (hj : j < 160) : bit (xorL A B) j = if bit A j = bit B j then 0 else 1 := by
  unfold bit
  rw [xor_getD hA hB _ (by omega), Nat.testBit_xor]
  cases (A.getD (j / 8) 0).testBit (sh j) <;> cases (B.getD (j / 8) 0).testBit (sh j) <;> simp
def b01 (x : Int) : Nat := if x = 0 then 0 else 1
theorem bit_lay {o : List Nat} (ho : Id o) (i : Nat) (hi : i < 160) (f : Nat → Int) (j : Nat) (hj : j < 160) : ∀ k, k ≤ 160 → bit (layK o i f k) j = if j = i then 1 - bit o i else if i < j ∧ j < k then b01 (f j) else bit o j
  | 0, _ => by
    rw [layK, bit_with ho i j _ hi hj]
    have := bit_le o i
    by_cases e : j = i
    · rw [if_pos e, if_pos e]
      by_cases h : bit o i = 0
      · simp [h]
      · have : bit o i = 1 := by omega
        simp [this]
    · rw [if_neg e, if_neg e, if_neg (by omega)]
  | k + 1, hk => by
    have ih := bit_lay ho i hi f j hj k (by omega)
    rw [layK]
    by_cases hik : i < k
    · rw [if_pos hik, bit_with (id_lay ho i f k) k j _ (by omega) hj, ih]
      by_cases e : j = k
      · subst e
        rw [if_pos rfl, if_neg (show ¬ j = i by omega), if_pos (show i < j ∧ j < j + 1 by omega)]
        rfl
      · rw [if_neg e]
        by_cases e2 : j = i
        · rw [if_pos e2, if_pos e2]
        · rw [if_neg e2, if_neg e2]
          by_cases e3 : i < j ∧ j < k
          · rw [if_pos e3, if_pos ⟨e3.1, by omega⟩]
          · rw [if_neg e3, if_neg (by omega)]
    · rw [if_neg hik, ih]
      by_cases e2 : j = i
      · rw [if_pos e2, if_pos e2]
      · rw [if_neg e2, if_neg e2, if_neg (by omega), if_neg (by omega)]
theorem bit_laid {o : List Nat} (ho : Id o) (i : Nat) (hi : i < 160) (f : Nat → Int) (j : Nat) (hj : j < 160) : bit (laidL o i f) j = if j = i then 1 - bit o i else if i < j then b01 (f j) else bit o j := by
  rw [laidL, if_pos (by omega), show ((i : Int).toNat) = i from rfl, bit_lay ho i hi f j hj 160 (Nat.le_refl _)]
  by_cases e : j = i
  · rw [if_pos e, if_pos e]
  · rw [if_neg e, if_neg e]
    by_cases h : i < j
    · rw [if_pos ⟨h, hj⟩, if_pos h]
    · rw [if_neg (fun c => h c.1), if_neg h]
/-- What a bucket that is nearer is for, is nearer than whatever has the owner's bits up to there. -/
theorem near_lt {o t y : List Nat} (ho : Id o) (ht : Id t) (hy : Id y) (i : Nat) (hi : i < 160) (f : Nat → Int) (hd : bit o i ≠ bit t i) (h : ∀ j, j ≤ i → bit y j = bit o j) : cmpN (xorL t (laidL o i f)) (xorL t y) = -1 := by
  have hx := id_laid ho i f
  refine cmp_lt _ _ (id_xor ht hx) (id_xor ht hy) i hi (fun j hj => ?_) ?_ ?_
  · rw [bit_xor t _ ht.1 hx.1 j (by omega), bit_xor t _ ht.1 hy.1 j (by omega), bit_laid ho i hi f j (by omega), if_neg (show ¬ j = i by omega), if_neg (show ¬ i < j by omega), h j (by omega)]
  · rw [bit_xor t _ ht.1 hx.1 i hi, bit_laid ho i hi f i hi, if_pos rfl, if_pos]
    have := bit_le o i
    have := bit_le t i
    omega
  · rw [bit_xor t _ ht.1 hy.1 i hi, h i (Nat.le_refl _), if_neg (fun e => hd e.symm)]
theorem near_owner {o t : List Nat} (ho : Id o) (ht : Id t) (i : Nat) (hi : i < 160) (f : Nat → Int) (hd : bit o i ≠ bit t i) : cmpN (xorL t (laidL o i f)) (xorL t o) = -1 :=
  near_lt ho ht ho i hi f hd (fun j hj => rfl)
theorem near_later {o t : List Nat} (ho : Id o) (ht : Id t) (i k : Nat) (hik : i < k) (hk : k < 160) (f g : Nat → Int) (hd : bit o i ≠ bit t i) : cmpN (xorL t (laidL o i f)) (xorL t (laidL o k g)) = -1 :=
  near_lt ho ht (id_laid ho k g) i (by omega) f hd (fun j hj => by rw [bit_laid ho k hk g j (by omega), if_neg (show ¬ j = k by omega), if_neg (show ¬ k < j by omega)])
end Go.Proofs.Ytcgfednoolkhkaa
