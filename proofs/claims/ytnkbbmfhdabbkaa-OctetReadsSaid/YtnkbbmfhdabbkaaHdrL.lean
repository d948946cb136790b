/-
  Plain facts: a header is read back from its bytes, and the other way round.
-/
import Derived.Test.YtnkbbmfhdabbkaaHdrR
namespace Go.Proofs.Ytnkbbmfhdabbkaa
open Go.RowKit Go.Proofs.YtnkbbmfhdabbkaaW.PrintWords
set_option linter.unusedVariables false
set_option linter.unusedSimpArgs false

theorem be2 (x : Int) : be x 2 = [x / 256 % 256, x % 256] := by
  have h0 : byteAt x 2 0 = x / 256 % 256 := by
    unfold byteAt
    rw [show (2 : Int) ^ (8 * (2 - 1 - 0)) = 256 from by decide]
  have h1 : byteAt x 2 1 = x % 256 := by
    unfold byteAt
    rw [show (2 : Int) ^ (8 * (2 - 1 - 1)) = 1 from by decide, Int.ediv_one]
  show [byteAt x 2 0, byteAt x 2 1] = _
  rw [h0, h1]
theorem num2 (x y : Int) : num [x, y] = x * 256 + y := by simp [num]
theorem hdrL_eq (a f q n u d : Int) : hdrL a f q n u d = [a / 256 % 256, a % 256, f / 256 % 256, f % 256, q / 256 % 256, q % 256, n / 256 % 256, n % 256, u / 256 % 256, u % 256, d / 256 % 256, d % 256] := by
  unfold hdrL
  simp only [be2, List.cons_append, List.nil_append]
theorem bytes_hdrL (a f q n u d : Int) : Bytes (hdrL a f q n u d) := by
  rw [hdrL_eq]
  intro x hx
  simp only [List.mem_cons, List.not_mem_nil, or_false] at hx
  omega
theorem bytes_append {l m : List Int} (h : Bytes l) (k : Bytes m) : Bytes (l ++ m) := fun x hx => by
  rcases List.mem_append.1 hx with hx | hx
  · exact h x hx
  · exact k x hx
theorem two_hdr (a f q n u d : Int) (l : List Int) (a0 : 0 ≤ a) (a1 : a ≤ 65535) (f0 : 0 ≤ f) (f1 : f ≤ 65535) (q0 : 0 ≤ q) (q1 : q ≤ 65535) (n0 : 0 ≤ n) (n1 : n ≤ 65535) (u0 : 0 ≤ u) (u1 : u ≤ 65535) (d0 : 0 ≤ d) (d1 : d ≤ 65535) :
    two (hdrL a f q n u d ++ l) 0 = a ∧ two (hdrL a f q n u d ++ l) 1 = f ∧ two (hdrL a f q n u d ++ l) 2 = q ∧ two (hdrL a f q n u d ++ l) 3 = n ∧ two (hdrL a f q n u d ++ l) 4 = u ∧ two (hdrL a f q n u d ++ l) 5 = d := by
  rw [hdrL_eq]
  unfold two
  refine ⟨?_, ?_, ?_, ?_, ?_, ?_⟩ <;> simp [num2] <;> omega
theorem be_two {x y : Int} (hx : 0 ≤ x ∧ x ≤ 255) (hy : 0 ≤ y ∧ y ≤ 255) : be (x * 256 + y) 2 = [x, y] := by
  rw [be2]
  congr 1
  · omega
  · congr 1; omega
theorem be_two_at (l : List Int) (i : Nat) (hB : Bytes l) (hl : 2 * i + 2 ≤ l.length) : be (two l i) 2 = (l.drop (2 * i)).take 2 := by
  have hb : Bytes ((l.drop (2 * i)).take 2) := bytes_take (bytes_drop hB _) _
  have hlen : ((l.drop (2 * i)).take 2).length = 2 := by simp; omega
  unfold two
  generalize (l.drop (2 * i)).take 2 = m at *
  match m, hlen with
  | [x, y], _ => rw [num2, be_two (hb x (by simp)) (hb y (by simp))]
theorem hdr_two (l : List Int) (hB : Bytes l) (hl : 12 ≤ l.length) : hdrL (two l 0) (two l 1) (two l 2) (two l 3) (two l 4) (two l 5) = l.take 12 := by
  unfold hdrL
  rw [be_two_at l 0 hB (by omega), be_two_at l 1 hB (by omega), be_two_at l 2 hB (by omega), be_two_at l 3 hB (by omega), be_two_at l 4 hB (by omega), be_two_at l 5 hB (by omega)]
  rw [show (12 : Nat) = 10 + 2 from rfl, List.take_add, show (10 : Nat) = 8 + 2 from rfl, List.take_add, show (8 : Nat) = 6 + 2 from rfl, List.take_add, show (6 : Nat) = 4 + 2 from rfl, List.take_add, show (4 : Nat) = 2 + 2 from rfl, List.take_add]
  rfl
end Go.Proofs.Ytnkbbmfhdabbkaa
