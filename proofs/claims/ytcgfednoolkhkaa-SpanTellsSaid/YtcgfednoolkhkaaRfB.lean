/-
  The document's Bit.
-/
import Derived.Test.YtcgfednoolkhkaaRf
namespace Go.Proofs.Ytcgfednoolkhkaa
open Go.RowKit
set_option linter.unusedVariables false
set_option linter.unusedSimpArgs false
set_option maxRecDepth 20000
theorem i64_and1 (x : Int) : Go.bits .and .i64 x 1 = x % 2 := by
  show IntKind.i64.wrap ((BitVec.ofInt 64 x &&& BitVec.ofInt 64 1).toNat : Int) = _
  have e : (BitVec.ofInt 64 1).toNat = 2 ^ 1 - 1 := by decide
  rw [BitVec.toNat_and, e, Nat.and_two_pow_sub_one_eq_mod, BitVec.toNat_ofInt]
  have h : ((2 ^ 64 : Nat) : Int) = 18446744073709551616 := by decide
  rw [h, IntWalk.i64_in _ (by omega)]
  omega
theorem shr_bit (x s : Nat) : Go.bits .and .i64 ((x : Int) / 2 ^ s) 1 = ((if x.testBit s = true then 1 else 0 : Nat) : Int) := by
  rw [i64_and1, Nat.testBit_eq_decide_div_mod_eq]
  have e : (x : Int) / 2 ^ s = ((x / 2 ^ s : Nat) : Int) := by
    rw [Int.natCast_ediv]; congr 1
  rw [e]
  have h : x / 2 ^ s % 2 < 2 := Nat.mod_lt _ (by decide)
  by_cases h1 : x / 2 ^ s % 2 = 1
  · simp [h1]; omega
  · have h0 : x / 2 ^ s % 2 = 0 := by omega
    simp [h0]; omega
theorem fbit (l : List Nat) (i : Nat) (w : World) (h : Id l) (hi : i < 160) :
    Calls Try.prog 52 #[idv l, .int .i64 i] w fun e w' => e = .returned (.int .i64 (bit l i : Nat)) ∧ Below w.heap.size w w' := by
  have hl := h.1
  have hx := id_lt h (i / 8)
  have hcell := idR_cell (idR_new w l) (i / 8) (by omega)
  have h0 : (0 : Int) ≤ (i : Int) := by omega
  have h1 : (i : Int) < 160 := by omega
  have hq : (i : Int) / 8 = ((i / 8 : Nat) : Int) := by omega
  have hqd : Int.tdiv (i : Int) 8 = ((i / 8 : Nat) : Int) := by rw [Int.tdiv_eq_ediv_of_nonneg (by omega)]; simp
  have hnew : Below w.heap.size w (w.alloc (.cells (idc l).toArray 56)) := (Below.refl _ w).alloc (Nat.le_refl _) _
  have HNEW := Lib.hid hnew
  have hcell1 := hcell.1
  unfold idv
  generalize hC : (idc l).toArray = C at *
  generalize hxx : l.getD (i / 8) 0 = x at *
  have HXX := Lib.hid hxx
  generalize hqq : i / 8 = q at *
  have hb0 : bit l i = if x.testBit (7 - i % 8) = true then 1 else 0 := by unfold bit sh; rw [hqq, hxx]
  have HB := Lib.hid hb0
  clear hb0
  have hq2 : (q : Int) < 20 := by omega
  have hq0 : (0 : Int) ≤ (q : Int) := by omega
  clear hxx hqq hcell hnew
  go_enter Try.func52, Try.ntmps52
  go_wp2
  go_ret
  exact ⟨ret_int (by rw [HB.out]; exact shr_bit x _), HNEW.out⟩
end Go.Proofs.Ytcgfednoolkhkaa
