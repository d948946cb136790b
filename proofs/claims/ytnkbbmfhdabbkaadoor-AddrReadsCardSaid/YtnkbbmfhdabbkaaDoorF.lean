/-
  The reference's text of an address.
-/
import Derived.Test.YtnkbbmfhdabbkaaDoorE
import Derived.Test.YtnkbbmfhdabbkaaDoorQTxt
namespace Go.Proofs.YtnkbbmfhdabbkaaDoor
open Go.RowKit Go.Proofs.YtnkbbmfhdabbkaaDoorW.PrintWords
set_option linter.unusedVariables false
set_option linter.unusedSimpArgs false
theorem str_one (x : Int) : strOfNums [x] = str [UInt8.ofNat x.toNat] := by
  apply ByteArray.ext
  simp [strOfNums, str]
theorem decimal_f : ∀ (k n : Nat), n < 10 ^ (k + 1) → n < 1000000 → PA.signpostref06_Decimal.f (k + 1) (n : Int) = some (str (Lib.decDigits n))
  | k, n, hk, hn => by
    by_cases h : n < 10
    · rw [PA.signpostref06_Decimal.f, if_pos (by omega), Lib.decDigits_one h, str_one]
      congr 4
      unfold wrap64
      omega
    · obtain ⟨j, rfl⟩ : ∃ j, k = j + 1 := ⟨k - 1, by
        have : k ≠ 0 := by rintro rfl; omega
        omega⟩
      have ih := decimal_f j (n / 10) (by rw [Nat.pow_succ] at hk; omega) (by omega)
      have e1 : wrap64 (Int.tdiv (n : Int) 10) = ((n / 10 : Nat) : Int) := by
        rw [show (10 : Int) = ((10 : Nat) : Int) from rfl, ← Int.ofNat_tdiv]
        unfold wrap64
        omega
      have e2 : (wrap64 (48 + Int.tmod (n : Int) 10) % 256).toNat = 48 + n % 10 := by
        rw [show (10 : Int) = ((10 : Nat) : Int) from rfl, ← Int.ofNat_tmod]
        unfold wrap64
        omega
      have hl := dig_len (n / 10) (by omega)
      rw [PA.signpostref06_Decimal.f, if_neg (by omega), e1, ih, Option.bind_some, Option.bind_some, str_one, e2, if_pos (by simp only [str_size]; simp; omega), str_append]
      conv => rhs; rw [Lib.decDigits, dif_neg h]
theorem text_first (k : Nat) (t : List Int) (s d : List UInt8) (a b : Int) (n : Nat) (ht : 4 ≤ t.length) (hr : wrap64 (rd t 0) = n) (hd : PA.signpostref06_Decimal.f k (n : Int) = some (str d)) (hs : s.length + d.length ≤ 1000) :
    PA.signpostref06_Text.l0 (k + 1) t (str s) 0 a b = PA.signpostref06_Text.l0 k t (str (s ++ d)) 1 a b := by
  rw [PA.signpostref06_Text.l0, if_pos (by decide), if_neg (by decide), if_pos (by decide), if_pos (by omega), hr, hd, Option.bind_some, if_pos (by simp only [str_size]; omega), str_append, show wrap64 (0 + 1) = 1 by unfold wrap64; omega]
theorem text_step (k : Nat) (t : List Int) (s d : List UInt8) (i a b : Int) (n : Nat) (ht : 4 ≤ t.length) (h0 : 0 < i) (h4 : i < 4) (hr : wrap64 (rd t i) = n) (hd : PA.signpostref06_Decimal.f k (n : Int) = some (str d)) (hs : s.length + d.length ≤ 1000) :
    PA.signpostref06_Text.l0 (k + 1) t (str s) i a b = PA.signpostref06_Text.l0 k t (str (s ++ [46] ++ d)) (i + 1) a b := by
  rw [PA.signpostref06_Text.l0, if_pos h4, if_pos h0, if_pos (by simp only [str_size]; omega), if_pos (by omega), if_pos (by omega), hr, hd, Option.bind_some, show (⟨#[46]⟩ : ByteArray) = str [46] from rfl, str_append, if_pos (by simp only [str_size]; simp; omega), str_append,
    show wrap64 (i + 1) = i + 1 by unfold wrap64; omega]
theorem text_last (k : Nat) (t : List Int) (s d : List UInt8) (a b : Int) (n : Nat) (hr : wrap64 b = n) (hd : PA.signpostref06_Decimal.f k (n : Int) = some (str d)) (hs : s.length + d.length ≤ 1000) :
    PA.signpostref06_Text.l0 (k + 1) t (str s) 4 a b = some (str (s ++ [58] ++ d)) := by
  rw [PA.signpostref06_Text.l0, if_neg (by decide), if_pos (by simp only [str_size]; omega), hr, hd, Option.bind_some, show (⟨#[58]⟩ : ByteArray) = str [58] from rfl, str_append, if_pos (by simp only [str_size]; simp; omega), str_append]
theorem rbytes_f12 (h p : Nat) (hh : h < 4294967296) (hp : p < 65536) : PA.signpostref06_Bytes.f 12 (h : Int) (p : Int) = some (bL h p) :=
  PA.signpostref06_Bytes.mono _ _ 11 _ (PA.signpostref06_Bytes.mono _ _ 10 _ (PA.signpostref06_Bytes.mono _ _ 9 _ (rbytes_f h p hh hp)))
theorem rtext_f (h p : Nat) (hh : h < 4294967296) (hp : p < 65536) : PA.signpostref06_Text.f 12 (h : Int) (p : Int) = some (str (aText h p)) := by
  have b0 := hb_lt h 0
  have b1 := hb_lt h 1
  have b2 := hb_lt h 2
  have b3 := hb_lt h 3
  have l0 := dig_len (hb h 0) (by omega)
  have l1 := dig_len (hb h 1) (by omega)
  have l2 := dig_len (hb h 2) (by omega)
  have l3 := dig_len (hb h 3) (by omega)
  have lp := dig_len p (by omega)
  have hb4 : 4 ≤ (bL h p).length := by simp [bL]
  have w : ∀ n : Nat, n < 65536 → wrap64 (n : Int) = n := fun n hn => by unfold wrap64; omega
  unfold PA.signpostref06_Text.f
  rw [rbytes_f12 h p hh hp, Option.bind_some, show (⟨#[]⟩ : ByteArray) = str [] from rfl,
    text_first 11 (bL h p) [] (Lib.decDigits (hb h 0)) _ _ (hb h 0) hb4 (w _ (by omega)) (decimal_f 10 _ (by omega) (by omega)) (by simp; omega),
    text_step 10 (bL h p) _ (Lib.decDigits (hb h 1)) 1 _ _ (hb h 1) hb4 (by decide) (by decide) (w _ (by omega)) (decimal_f 9 _ (by omega) (by omega)) (by simp; omega),
    text_step 9 (bL h p) _ (Lib.decDigits (hb h 2)) _ _ _ (hb h 2) hb4 (by decide) (by decide) (w _ (by omega)) (decimal_f 8 _ (by omega) (by omega)) (by simp; omega),
    text_step 8 (bL h p) _ (Lib.decDigits (hb h 3)) _ _ _ (hb h 3) hb4 (by decide) (by decide) (w _ (by omega)) (decimal_f 7 _ (by omega) (by omega)) (by simp; omega),
    show ((1 : Int) + 1 + 1 + 1) = 4 from rfl,
    text_last 7 (bL h p) _ (Lib.decDigits p) _ _ p (w _ hp) (decimal_f 6 _ (by omega) (by omega)) (by simp; omega)]
  simp [aText, preT, sep]
theorem rtext (h p : Nat) (w : World) (hh : h < 4294967296) (hp : p < 65536) :
    Calls Tryd.prog 9 #[.agg #[.int .u32 (h : Int), .int .u16 (p : Int)]] w fun e w' => e = .returned (.string (str (aText h p))) ∧ Below w.heap.size w w' :=
  PA.signpostref06_Text.calls 12 _ _ _ w (rtext_f h p hh hp)
/-- Good. -/
def gd (h p : Nat) : Bool := (h : Int) != 0 && (p : Int) != 0
theorem agood (h p : Nat) (w : World) : Calls Tryd.prog 6 #[.agg #[.int .u32 (h : Int), .int .u16 (p : Int)]] w fun e w' => e = .returned (.bool (gd h p)) ∧ Below w.heap.size w w' :=
  PA.addr_Good.calls _ _ _ w (by
    unfold PA.addr_Good.f gd
    by_cases h1 : (h : Int) = 0
    · simp [h1]
    · by_cases h2 : (p : Int) = 0
      · simp [h1, h2]
      · have e1 : ((h : Int) == 0) = false := beq_eq_false_iff_ne.2 h1
        have e2 : ((p : Int) == 0) = false := beq_eq_false_iff_ne.2 h2
        rw [if_neg h1, if_neg h2, bne, bne, e1, e2]; rfl)
theorem rgood (h p : Nat) (w : World) : Calls Tryd.prog 7 #[.agg #[.int .u32 (h : Int), .int .u16 (p : Int)]] w fun e w' => e = .returned (.bool (gd h p)) ∧ Below w.heap.size w w' :=
  PA.signpostref06_Good.calls _ _ _ w (by
    unfold PA.signpostref06_Good.f gd
    by_cases h1 : (h : Int) = 0
    · simp [h1]
    · have e1 : ((h : Int) == 0) = false := beq_eq_false_iff_ne.2 h1
      rw [if_neg h1]
      simp only [bne, e1, Bool.not_false, Bool.true_and])
end Go.Proofs.YtnkbbmfhdabbkaaDoor
