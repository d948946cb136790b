/-
  span: the buckets of what is nearer, in their order.
-/
import Derived.Test.YtcgfednoolkhkaaSpF
import Derived.Test.YtcgfednoolkhkaaSpE
namespace Go.Proofs.Ytcgfednoolkhkaa
open Go.RowKit
set_option linter.unusedVariables false
theorem nearK_len (far : List Nat) : (nearK far 160).length = (nearN far 160).length := by simp [nearK]
theorem near_get (far : List Nat) (a : Nat) (h : a < (nearN far 160).length) : (nearK far 160).getD a 0 = ((nearN far 160)[a] : Int) := by
  simp [nearK, List.getD, h]
theorem near_mem (far : List Nat) (a : Nat) (h : a < (nearK far 160).length) : ∃ j : Nat, j < 160 ∧ bit far j = 1 ∧ (nearK far 160).getD a 0 = (j : Int) := by
  rw [nearK_len] at h
  refine ⟨(nearN far 160)[a], ?_, ?_, near_get far a h⟩
  · have := List.getElem_mem h
    unfold nearN at this
    have := (List.mem_filter.1 this).1
    exact List.mem_range.1 this
  · have := List.getElem_mem h
    unfold nearN at this
    exact of_decide_eq_true (List.mem_filter.1 this).2
theorem near_rise (far : List Nat) (a b : Nat) (hab : a < b) (h : b < (nearK far 160).length) : (nearK far 160).getD a 0 < (nearK far 160).getD b 0 := by
  rw [nearK_len] at h
  rw [near_get far a (by omega), near_get far b h]
  have hp : (nearN far 160).Pairwise (· < ·) := List.Pairwise.filter _ List.pairwise_lt_range
  have := List.pairwise_iff_getElem.1 hp a b (by omega) h hab
  omega
theorem near_empty {o t : List Nat} (ho : Id o) (ht : Id t) (h : (nearK (xorL o t) 160).length = 0) : o = t := by
  rw [nearK_len] at h
  have he : nearN (xorL o t) 160 = [] := List.eq_nil_of_length_eq_zero h
  unfold nearN at he
  rw [List.filter_eq_nil_iff] at he
  refine id_ext o t ho ht fun j hj => ?_
  have := he j (List.mem_range.2 hj)
  rw [bit_xor o t ho.1 ht.1 j hj] at this
  by_cases e : bit o j = bit t j
  · exact e
  · simp [e] at this
theorem near_diff {o t : List Nat} (ho : Id o) (ht : Id t) (j : Nat) (hj : j < 160) (h : bit (xorL o t) j = 1) : bit o j ≠ bit t j := by
  rw [bit_xor o t ho.1 ht.1 j hj] at h
  intro e
  rw [if_pos e] at h
  omega
end Go.Proofs.Ytcgfednoolkhkaa
