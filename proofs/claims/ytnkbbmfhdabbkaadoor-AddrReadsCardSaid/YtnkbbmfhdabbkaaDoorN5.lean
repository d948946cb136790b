/-
  Plain law: addr.Parse takes the texts of good addresses, and no others; the whole.
-/
import Derived.Test.YtnkbbmfhdabbkaaDoorN4
namespace Go.Proofs.YtnkbbmfhdabbkaaDoor
open Go.RowKit Go.Proofs.YtnkbbmfhdabbkaaDoorW.PrintWords
set_option linter.unusedVariables false
set_option linter.unusedSimpArgs false
set_option maxRecDepth 10000
theorem sgn_cases (i : Nat) : sgn i ≠ 0 ∧ (sgn i < 48 ∨ 57 < sgn i) := by unfold sgn; split <;> omega
theorem step_ok (k i a n : Nat) (c : UInt8) (R : List UInt8) (hi : i < 4) (ha : a < 16777216) (hn : n < 256) (hc : c.toNat = sgn i) (hL : (Lib.decDigits n ++ c :: R).length ≤ 1000000) (hk : 2 * (Lib.decDigits n ++ c :: R).length + 2 ≤ k) :
    PA.addr_Parse.l0 (k + 1) (str (Lib.decDigits n ++ c :: R)) (i : Int) (a : Int) 0 = PA.addr_Parse.l0 k (str R) ((i + 1 : Nat) : Int) ((a * 256 + n : Nat) : Int) 0 := by
  have hR := numR_ok 255 (sgn i) n (c :: R) (sgn_cases i).2 (by omega) ⟨fun _ => ⟨c, R, rfl, hc⟩, fun h => absurd h (sgn_cases i).1⟩
  rw [parse_step k i a _ hi hL hk, hR, if_pos rfl, or_add a n ha hn]
  rfl
theorem step_sound (k i a : Nat) (L : List UInt8) (hi : i < 4) (ha : a < 16777216) (hL : L.length ≤ 1000000) (hk : 2 * L.length + 2 ≤ k) :
    PA.addr_Parse.l0 (k + 1) (str L) (i : Int) (a : Int) 0 = some (0, 0, 10) ∨ ∃ (n : Nat) (c : UInt8) (R : List UInt8), n < 256 ∧ c.toNat = sgn i ∧ L = Lib.decDigits n ++ c :: R ∧ PA.addr_Parse.l0 (k + 1) (str L) (i : Int) (a : Int) 0 = PA.addr_Parse.l0 k (str R) ((i + 1 : Nat) : Int) ((a * 256 + n : Nat) : Int) 0 := by
  rcases hq : numR 255 (sgn i) L with ⟨v, x, ok⟩
  cases ok with
  | false => left; rw [parse_step k i a L hi hL hk, hq, if_neg (by simp)]
  | true =>
    right
    obtain ⟨n, R, rfl, hn, rfl, rfl, hT⟩ := numR_sound 255 (sgn i) L v x hq
    obtain ⟨c, cs, rfl, hc⟩ := hT.1 (sgn_cases i).1
    exact ⟨n, c, cs, by omega, hc, rfl, step_ok k i a n c cs hi ha (by omega) hc hL hk⟩
theorem last_ok (k a p : Nat) (hp : p < 65536) (hL : (Lib.decDigits p).length ≤ 1000000) (hk : 2 * (Lib.decDigits p).length + 2 ≤ k) :
    PA.addr_Parse.l0 (k + 1) (str (Lib.decDigits p)) 4 (a : Int) 0 = if gd a p = true then some ((a : Int), (p : Int), 0) else some (0, 0, 10) := by
  have hR := numR_ok 65535 0 p [] (by omega) (by omega) ⟨fun h => absurd rfl h, fun _ => rfl⟩
  rw [List.append_nil] at hR
  have hw : IntKind.u16.wrap (p : Int) = (p : Int) := by rw [IntKind.wrap_u16]; omega
  rw [parse_last k a _ hL hk, hR, if_pos rfl, hw]
  rfl
theorem last_sound (k a : Nat) (L : List UInt8) (hL : L.length ≤ 1000000) (hk : 2 * L.length + 2 ≤ k) :
    PA.addr_Parse.l0 (k + 1) (str L) 4 (a : Int) 0 = some (0, 0, 10) ∨ ∃ p : Nat, p < 65536 ∧ L = Lib.decDigits p := by
  rcases hq : numR 65535 0 L with ⟨v, x, ok⟩
  cases ok with
  | false => left; rw [parse_last k a L hL hk, hq, if_neg (by simp)]
  | true =>
    right
    obtain ⟨n, R, rfl, hn, rfl, rfl, hT⟩ := numR_sound 65535 0 L v x hq
    exact ⟨n, by omega, by rw [hT.2 rfl, List.append_nil]⟩
theorem aText_eq (h p : Nat) : aText h p = Lib.decDigits (hb h 0) ++ 46 :: (Lib.decDigits (hb h 1) ++ 46 :: (Lib.decDigits (hb h 2) ++ 46 :: (Lib.decDigits (hb h 3) ++ 58 :: Lib.decDigits p))) := by
  simp [aText, preT, sep]
theorem hb_sum (h : Nat) (hh : h < 4294967296) : ((hb h 0 * 256 + hb h 1) * 256 + hb h 2) * 256 + hb h 3 = h := by
  unfold hb
  simp only [Nat.reduceMul, Nat.reduceSub, Nat.reducePow]
  omega
theorem hb_of (a b c d : Nat) (ha : a < 256) (hb' : b < 256) (hc : c < 256) (hd : d < 256) : hb (((a * 256 + b) * 256 + c) * 256 + d) 0 = a ∧ hb (((a * 256 + b) * 256 + c) * 256 + d) 1 = b ∧ hb (((a * 256 + b) * 256 + c) * 256 + d) 2 = c ∧ hb (((a * 256 + b) * 256 + c) * 256 + d) 3 = d := by
  unfold hb
  simp only [Nat.reduceMul, Nat.reduceSub, Nat.reducePow]
  refine ⟨?_, ?_, ?_, ?_⟩ <;> omega
theorem parse_ok (h p k : Nat) (hh : h < 4294967296) (hp : p < 65536) (hL : (aText h p).length ≤ 100000) (hk : 2 * (aText h p).length + 10 ≤ k) :
    PA.addr_Parse.f k (str (aText h p)) = if gd h p = true then some ((h : Int), (p : Int), 0) else some (0, 0, 10) := by
  obtain ⟨j, rfl⟩ : ∃ j, k = j + 1 + 1 + 1 + 1 + 1 := ⟨k - 5, by omega⟩
  have b0 := hb_lt h 0
  have b1 := hb_lt h 1
  have b2 := hb_lt h 2
  have b3 := hb_lt h 3
  have hs := hb_sum h hh
  rw [aText_eq] at hL hk ⊢
  generalize hb h 0 = n0 at *
  generalize hb h 1 = n1 at *
  generalize hb h 2 = n2 at *
  generalize hb h 3 = n3 at *
  simp only [List.length_append, List.length_cons] at hL hk
  unfold PA.addr_Parse.f
  have s0 := step_ok (j + 1 + 1 + 1 + 1) 0 0 n0 46 (Lib.decDigits n1 ++ 46 :: (Lib.decDigits n2 ++ 46 :: (Lib.decDigits n3 ++ 58 :: Lib.decDigits p))) (by omega) (by omega) b0 rfl (by simp only [List.length_append, List.length_cons]; omega) (by simp only [List.length_append, List.length_cons]; omega)
  have s1 := step_ok (j + 1 + 1 + 1) 1 (0 * 256 + n0) n1 46 (Lib.decDigits n2 ++ 46 :: (Lib.decDigits n3 ++ 58 :: Lib.decDigits p)) (by omega) (by omega) b1 rfl (by simp only [List.length_append, List.length_cons]; omega) (by simp only [List.length_append, List.length_cons]; omega)
  have s2 := step_ok (j + 1 + 1) 2 ((0 * 256 + n0) * 256 + n1) n2 46 (Lib.decDigits n3 ++ 58 :: Lib.decDigits p) (by omega) (by omega) b2 rfl (by simp only [List.length_append, List.length_cons]; omega) (by simp only [List.length_append, List.length_cons]; omega)
  have s3 := step_ok (j + 1) 3 (((0 * 256 + n0) * 256 + n1) * 256 + n2) n3 58 (Lib.decDigits p) (by omega) (by omega) b3 rfl (by simp only [List.length_append, List.length_cons]; omega) (by simp only [List.length_append, List.length_cons]; omega)
  have s4 := last_ok j ((((0 * 256 + n0) * 256 + n1) * 256 + n2) * 256 + n3) p hp (by omega) (by omega)
  have e : (((0 * 256 + n0) * 256 + n1) * 256 + n2) * 256 + n3 = h := by omega
  rw [e] at s3 s4
  exact s0.trans (s1.trans (s2.trans (s3.trans s4)))
theorem parse_sound (k : Nat) (L : List UInt8) (hL : L.length ≤ 100000) (hk : 2 * L.length + 10 ≤ k) :
    PA.addr_Parse.f k (str L) = some (0, 0, 10) ∨ ∃ h p : Nat, h < 4294967296 ∧ p < 65536 ∧ gd h p = true ∧ L = aText h p ∧ PA.addr_Parse.f k (str L) = some ((h : Int), (p : Int), 0) := by
  obtain ⟨j, rfl⟩ : ∃ j, k = j + 1 + 1 + 1 + 1 + 1 := ⟨k - 5, by omega⟩
  have hL0 := hL
  have hk0 := hk
  rcases step_sound (j + 1 + 1 + 1 + 1) 0 0 L (by omega) (by omega) (by omega) (by omega) with h | ⟨n0, c0, R0, b0, q0, rfl, h0⟩
  · exact .inl h
  simp only [List.length_append, List.length_cons] at hL hk
  rcases step_sound (j + 1 + 1 + 1) 1 (0 * 256 + n0) R0 (by omega) (by omega) (by omega) (by omega) with h | ⟨n1, c1, R1, b1, q1, rfl, h1⟩
  · exact .inl (h0.trans h)
  simp only [List.length_append, List.length_cons] at hL hk
  rcases step_sound (j + 1 + 1) 2 ((0 * 256 + n0) * 256 + n1) R1 (by omega) (by omega) (by omega) (by omega) with h | ⟨n2, c2, R2, b2, q2, rfl, h2⟩
  · exact .inl (h0.trans (h1.trans h))
  simp only [List.length_append, List.length_cons] at hL hk
  rcases step_sound (j + 1) 3 (((0 * 256 + n0) * 256 + n1) * 256 + n2) R2 (by omega) (by omega) (by omega) (by omega) with h | ⟨n3, c3, R3, b3, q3, rfl, h3⟩
  · exact .inl (h0.trans (h1.trans (h2.trans h)))
  simp only [List.length_append, List.length_cons] at hL hk
  rcases last_sound j ((((0 * 256 + n0) * 256 + n1) * 256 + n2) * 256 + n3) R3 (by omega) (by omega) with h | ⟨p, hp, rfl⟩
  · exact .inl (h0.trans (h1.trans (h2.trans (h3.trans h))))
  have e0 : c0 = 46 := UInt8.toNat_inj.1 (q0.trans rfl)
  have e1 : c1 = 46 := UInt8.toNat_inj.1 (q1.trans rfl)
  have e2 : c2 = 46 := UInt8.toNat_inj.1 (q2.trans rfl)
  have e3 : c3 = 58 := UInt8.toNat_inj.1 (q3.trans rfl)
  subst e0 e1 e2 e3
  obtain ⟨g0, g1, g2, g3⟩ := hb_of n0 n1 n2 n3 b0 b1 b2 b3
  have ha : Lib.decDigits n0 ++ 46 :: (Lib.decDigits n1 ++ 46 :: (Lib.decDigits n2 ++ 46 :: (Lib.decDigits n3 ++ 58 :: Lib.decDigits p))) = aText (((n0 * 256 + n1) * 256 + n2) * 256 + n3) p := by
    rw [aText_eq, g0, g1, g2, g3]
  rw [ha] at hL0 hk0 ⊢
  have hf := parse_ok (((n0 * 256 + n1) * 256 + n2) * 256 + n3) p (j + 1 + 1 + 1 + 1 + 1) (by omega) hp hL0 hk0
  by_cases hg : gd (((n0 * 256 + n1) * 256 + n2) * 256 + n3) p = true
  · rw [if_pos hg] at hf
    exact .inr ⟨_, p, by omega, hp, hg, rfl, hf⟩
  · rw [if_neg hg] at hf
    exact .inl hf
end Go.Proofs.YtnkbbmfhdabbkaaDoor
