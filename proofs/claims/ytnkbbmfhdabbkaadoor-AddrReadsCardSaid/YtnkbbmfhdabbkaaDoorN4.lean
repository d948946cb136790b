/-
  Plain law: addr.Parse takes the texts of good addresses, and no others.
-/
import Derived.Test.YtnkbbmfhdabbkaaDoorN3
namespace Go.Proofs.YtnkbbmfhdabbkaaDoor
open Go.RowKit Go.Proofs.YtnkbbmfhdabbkaaDoorW.PrintWords
set_option linter.unusedVariables false
set_option linter.unusedSimpArgs false
def sgn (i : Nat) : Nat := if i < 3 then 46 else 58
theorem sgn_bt (i : Nat) (h : i < 4) : bt (⟨#[46, 58]⟩ : ByteArray) (wrap64 (Int.tdiv (i : Int) 3)) = ((sgn i : Nat) : Int) := by
  rcases (by omega : i = 0 ∨ i = 1 ∨ i = 2 ∨ i = 3) with rfl | rfl | rfl | rfl <;> kernel_rfl
theorem sgn_ix (i : Nat) (h : i < 4) : 0 ≤ wrap64 (Int.tdiv (i : Int) 3) ∧ wrap64 (Int.tdiv (i : Int) 3) < 2 := by
  rcases (by omega : i = 0 ∨ i = 1 ∨ i = 2 ∨ i = 3) with rfl | rfl | rfl | rfl <;> (unfold wrap64; decide)
theorem or_add (a n : Nat) (ha : a < 16777216) (hn : n < 256) : Go.bits .or .u32 (((a : Int) * 256) % 4294967296) ((n : Int) % 4294967296) = ((a * 256 + n : Nat) : Int) := by
  rw [show ((a : Int) * 256) % 4294967296 = ((a * 256 : Nat) : Int) by omega, show (n : Int) % 4294967296 = (n : Int) by omega, u32_or_nat (a * 256) n (by omega) (by omega)]
  congr 1
  have := Nat.two_pow_add_eq_or_of_lt (i := 8) (show n < 2 ^ 8 from hn) a
  rw [Nat.mul_comm a 256]
  exact this.symm
theorem parse_step (k i a : Nat) (L : List UInt8) (hi : i < 4) (hL : L.length ≤ 1000000) (hk : 2 * L.length + 2 ≤ k) :
    PA.addr_Parse.l0 (k + 1) (str L) (i : Int) (a : Int) 0 = if (numR 255 (sgn i) L).2.2 = true then PA.addr_Parse.l0 k (numR 255 (sgn i) L).2.1 ((i + 1 : Nat) : Int) (Go.bits .or .u32 (((a : Int) * 256) % 4294967296) ((numR 255 (sgn i) L).1 % 4294967296)) 0 else some (0, 0, 10) := by
  have hf := num_f 255 (sgn i) (by omega) L hL k hk
  have hx := sgn_ix i hi
  rw [PA.addr_Parse.l0, if_pos (by omega), if_pos hx.1, if_pos hx.2, sgn_bt i hi]
  rw [show ((255 : Nat) : Int) = 255 from rfl] at hf
  rw [hf, Option.bind_some, wrap_small ((i : Int) + 1) (by omega) (by omega)]
  rfl
theorem parse_last (k a : Nat) (L : List UInt8) (hL : L.length ≤ 1000000) (hk : 2 * L.length + 2 ≤ k) :
    PA.addr_Parse.l0 (k + 1) (str L) 4 (a : Int) 0 = if (numR 65535 0 L).2.2 = true then (if (!((a : Int) == 0)) && (!(IntKind.u16.wrap (numR 65535 0 L).1 == 0)) then some ((a : Int), IntKind.u16.wrap (numR 65535 0 L).1, 0) else some (0, 0, 10)) else some (0, 0, 10) := by
  have hf := num_f 65535 0 (by omega) L hL k hk
  rw [show ((65535 : Nat) : Int) = 65535 from rfl, show ((0 : Nat) : Int) = 0 from rfl] at hf
  rw [PA.addr_Parse.l0, if_neg (by decide), hf, Option.bind_some]
  generalize numR 65535 0 L = r
  by_cases h1 : r.2.2 = true
  · rw [if_pos h1, if_pos h1]
    unfold PA.addr_Good.f
    generalize IntKind.u16.wrap r.1 = q
    by_cases h2 : (a : Int) = 0
    · simp [h2]
    · by_cases h3 : q = 0
      · simp [h2, h3]
      · have e1 : ((a : Int) == 0) = false := beq_eq_false_iff_ne.2 h2
        have e2 : (q == 0) = false := beq_eq_false_iff_ne.2 h3
        rw [if_neg h2, if_neg h3, e1, e2]
        rfl
  · rw [if_neg h1, if_neg h1]
end Go.Proofs.YtnkbbmfhdabbkaaDoor
