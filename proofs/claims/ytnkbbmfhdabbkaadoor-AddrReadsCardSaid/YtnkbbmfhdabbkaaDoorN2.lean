/-
  Plain law: what addr.number tells.
-/
import Derived.Test.YtnkbbmfhdabbkaaDoorN
namespace Go.Proofs.YtnkbbmfhdabbkaaDoor
open Go.RowKit Go.Proofs.YtnkbbmfhdabbkaaDoorW.PrintWords
set_option linter.unusedVariables false
set_option linter.unusedSimpArgs false
theorem bt_str (L : List UInt8) (i : Nat) (h : i < L.length) : bt (str L) (i : Int) = ((L[i].toNat : Nat) : Int) := by
  have hs : (str L).size = L.length := str_size L
  unfold bt
  rw [dif_pos (by rw [Int.toNat_natCast, hs]; exact h)]
  simp [str, ByteArray.getElem_eq_getElem_data]
theorem ext_str (L : List UInt8) (j : Nat) : (str L).extract j (str L).size = str (L.drop j) := by
  apply ByteArray.ext
  rw [ByteArray.data_extract, str_size]
  simp [str]
  exact List.take_of_length_le (by simp)
theorem wrap_small (x : Int) (h0 : 0 ≤ x) (h1 : x ≤ 1000000000) : wrap64 x = x := by unfold wrap64; omega
theorem acc_eq (n c : Nat) (hn : n ≤ 1000000) (h1 : 48 ≤ c) (h2 : c ≤ 57) : wrap64 (wrap64 (10 * (n : Int)) + ((c : Int) - 48) % 256) = ((10 * n + (c - 48) : Nat) : Int) := by
  have e : ((c : Int) - 48) % 256 = (c : Int) - 48 := by omega
  rw [e, wrap_small (10 * (n : Int)) (by omega) (by omega), wrap_small _ (by omega) (by omega)]
  omega
/-- Behind the loop: where it stopped, R is left. -/
def fin (sign : Nat) (L : List UInt8) (m : Nat) (R : List UInt8) : Int × ByteArray × Bool :=
  if R.length = L.length then (0, str [], false) else if L.head? = some 48 ∧ 1 < L.length - R.length then (0, str [], false) else ((m : Int), str (R.drop 1), (sign == 0) == R.isEmpty)
theorem num_stop (k most sign n i : Nat) (L : List UInt8) (hi : i ≤ L.length) (hL : L.length ≤ 1000000) :
    PA.addr_number.j1 (k + 1) (str L) (most : Int) (sign : Int) (n : Int) (i : Int) false = some (fin sign L n (L.drop i)) := by
  have hs : ((str L).size : Int) = (L.length : Int) := by rw [str_size]
  have hlen : (L.drop i).length = L.length - i := List.length_drop
  have hw : wrap64 ((i : Int) + 1) = ((i + 1 : Nat) : Int) := by rw [wrap_small _ (by omega) (by omega)]; omega
  rw [PA.addr_number.j1, if_neg (by decide)]
  by_cases h0 : i = 0
  · subst h0
    rw [if_pos (show ((0 : Nat) : Int) = 0 from rfl), fin, if_pos (by rw [hlen]; rfl)]
    rfl
  · have hf : fin sign L n (L.drop i) = if L.head? = some 48 ∧ 1 < L.length - (L.drop i).length then (0, str [], false) else ((n : Int), str ((L.drop i).drop 1), (sign == 0) == (L.drop i).isEmpty) := if_neg (by rw [hlen]; omega)
    rw [if_neg (by omega), if_pos (by rw [hs]; omega), hf]
    have hpos : 0 < L.length := by omega
    have hb0 : bt (str L) 0 = ((L[0].toNat : Nat) : Int) := bt_str L 0 hpos
    have hhead : L.head? = some L[0] := by
      cases L with
      | nil => simp at hpos
      | cons x xs => rfl
    have hmn : mn (wrap64 ((i : Int) + 1)) ((str L).size : Int) = ((min (i + 1) L.length : Nat) : Int) := by
      rw [hw, hs]; unfold mn; split <;> omega
    have hext : (str L).extract (((min (i + 1) L.length : Nat) : Int)).toNat (str L).size = str ((L.drop i).drop 1) := by
      rw [Int.toNat_natCast, ext_str, List.drop_drop]
      congr 1
      rcases Nat.lt_or_ge i L.length with h | h
      · rw [Nat.min_eq_left (by omega)]
      · rw [Nat.min_eq_right (by omega), List.drop_eq_nil_of_le (Nat.le_refl _), List.drop_eq_nil_of_le (by omega)]
    have hemp : ((i : Int) == ((str L).size : Int)) = (L.drop i).isEmpty := by
      rw [hs]
      rcases Nat.lt_or_ge i L.length with h | h
      · have e1 : ((i : Int) == (L.length : Int)) = false := beq_eq_false_iff_ne.2 (by omega)
        rw [e1]
        cases hd : L.drop i with
        | nil => rw [hd] at hlen; simp at hlen; omega
        | cons x xs => rfl
      · rw [List.drop_eq_nil_of_le h, show i = L.length by omega]; simp
    have hsg : ((sign : Int) == 0) = (sign == 0) := by
      by_cases h : sign = 0
      · subst h; rfl
      · have e1 : ((sign : Int) == 0) = false := beq_eq_false_iff_ne.2 (by omega)
        have e2 : (sign == 0) = false := beq_eq_false_iff_ne.2 h
        rw [e1, e2]
    rw [hmn, hext, hemp, hsg, hb0]
    by_cases h48 : L[0].toNat = 48
    · have e48 : L[0] = 48 := UInt8.toNat_inj.1 h48
      rw [if_pos (by omega)]
      by_cases h1 : i > 1
      · rw [if_pos (by omega), if_pos ⟨by rw [hhead, e48], by rw [hlen]; omega⟩]
        rfl
      · rw [if_neg (by omega), if_pos (by omega), if_pos (by rw [hs]; omega), if_neg (fun h => by rw [hlen] at h; omega)]
    · rw [if_neg (by omega), if_pos (by omega), if_pos (by rw [hs]; omega), if_neg (fun h => h48 (by
        have h1 := h.1
        rw [hhead] at h1
        rw [Option.some.inj h1]
        rfl))]
set_option maxHeartbeats 100000 in
theorem num_loop (most sign : Nat) (hm : most ≤ 1000000) (L : List UInt8) (hL : L.length ≤ 1000000) : ∀ (d i n k : Nat), L.length - i = d → i ≤ L.length → n ≤ most → 2 * d + 2 ≤ k →
    PA.addr_number.l0 k (str L) (most : Int) (sign : Int) (n : Int) (i : Int) = some (match scan most sign n (L.drop i) with | none => (0, str [], false) | some (m, R) => fin sign L m R)
  | 0, i, n, k, hd, hi, hn, hk => by
    obtain ⟨j, rfl⟩ : ∃ j, k = j + 2 := ⟨k - 2, by omega⟩
    have hdr : L.drop i = [] := List.drop_eq_nil_of_le (by omega)
    rw [PA.addr_number.l0, if_neg (by rw [str_size]; omega), num_stop j most sign n i L hi hL, hdr]
    rfl
  | d + 1, i, n, k, hd, hi, hn, hk => by
    obtain ⟨j, rfl⟩ : ∃ j, k = j + 2 := ⟨k - 2, by omega⟩
    have hlt : i < L.length := by omega
    have hdr : L.drop i = L[i] :: L.drop (i + 1) := List.drop_eq_getElem_cons hlt
    have hbt := bt_str L i hlt
    rw [PA.addr_number.l0, if_pos (by rw [str_size]; omega), if_pos (by omega), hbt]
    by_cases h1 : L[i].toNat = sign
    · have e1 : (((L[i].toNat : Nat) : Int) != (sign : Int)) = false := by rw [h1]; simp
      rw [e1, num_stop j most sign n i L hi hL]
      rw [hdr, scan, if_pos h1]
    · have e1 : (((L[i].toNat : Nat) : Int) != (sign : Int)) = true := bne_iff_ne.2 (by omega)
      rw [e1, PA.addr_number.j1, if_pos rfl, if_pos (by omega), if_pos (by rw [str_size]; omega), hbt, hdr, scan, if_neg h1]
      by_cases h2 : L[i].toNat < 48
      · rw [if_pos (by omega), if_pos h2]; rfl
      · rw [if_neg (by omega), if_neg h2]
        by_cases h3 : 57 < L[i].toNat
        · rw [if_pos (by omega), if_pos h3]; rfl
        · rw [if_neg (by omega), if_neg h3]
          have hv := acc_eq n L[i].toNat (by omega) (by omega) (by omega)
          have hw : wrap64 ((i : Int) + 1) = ((i + 1 : Nat) : Int) := by rw [wrap_small _ (by omega) (by omega)]; omega
          rw [hv, hw]
          by_cases h4 : most < 10 * n + (L[i].toNat - 48)
          · rw [if_pos (by omega), if_pos h4]; rfl
          · rw [if_neg (by omega), if_neg h4]
            have hle : 10 * n + (L[i].toNat - 48) ≤ most := Nat.le_of_not_lt h4
            have e1 : L.length - (i + 1) = d := by rw [Nat.sub_add_eq, hd, Nat.add_sub_cancel]
            have e2 : 2 * d + 2 ≤ j := Nat.le_of_add_le_add_right (show 2 * d + 2 + 2 ≤ j + 2 from hk)
            exact num_loop most sign hm L hL d (i + 1) (10 * n + (L[i].toNat - 48)) j e1 hlt hle e2
/-- What number tells. -/
def numR (most sign : Nat) (L : List UInt8) : Int × ByteArray × Bool := match scan most sign 0 L with | none => (0, str [], false) | some (m, R) => fin sign L m R
theorem num_f (most sign : Nat) (hm : most ≤ 1000000) (L : List UInt8) (hL : L.length ≤ 1000000) (k : Nat) (hk : 2 * L.length + 2 ≤ k) : PA.addr_number.f k (str L) (most : Int) (sign : Int) = some (numR most sign L) := by
  have h := num_loop most sign hm L hL L.length 0 0 k (Nat.sub_zero _) (Nat.zero_le _) (Nat.zero_le _) hk
  rw [List.drop_zero] at h
  unfold PA.addr_number.f numR
  exact h
end Go.Proofs.YtnkbbmfhdabbkaaDoor
