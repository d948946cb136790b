/-
  Plain law: a number ahead of a sign is its digits.
-/
import Derived.Test.YtnkbbmfhdabbkaaDoorN2
namespace Go.Proofs.YtnkbbmfhdabbkaaDoor
open Go.RowKit Go.Proofs.YtnkbbmfhdabbkaaDoorW.PrintWords
set_option linter.unusedVariables false
set_option linter.unusedSimpArgs false
/-- What stands behind a number: the sign, or the end where the sign is 0. -/
def Tail (sign : Nat) (R : List UInt8) : Prop := (sign ≠ 0 → ∃ c cs, R = c :: cs ∧ c.toNat = sign) ∧ (sign = 0 → R = [])
theorem tail_flag {sign : Nat} {R : List UInt8} (h : Tail sign R) : ((sign == 0) == R.isEmpty) = true := by
  by_cases h0 : sign = 0
  · rw [h.2 h0, h0]; rfl
  · obtain ⟨c, cs, rfl, _⟩ := h.1 h0
    have e : (sign == 0) = false := beq_eq_false_iff_ne.2 h0
    rw [e]; rfl
theorem numR_ok (most sign n : Nat) (R : List UInt8) (hs : sign < 48 ∨ 57 < sign) (hn : n ≤ most) (hR : Tail sign R) : numR most sign (Lib.decDigits n ++ R) = ((n : Int), str (R.drop 1), true) := by
  obtain ⟨p1, p2, p3, p4, p5⟩ := dec_props n
  have hR' : R = [] ∨ ∃ c cs, R = c :: cs ∧ c.toNat = sign := by
    by_cases h0 : sign = 0
    · exact .inl (hR.2 h0)
    · exact .inr (hR.1 h0)
  have hsc := scan_complete most sign R hR' hs (Lib.decDigits n) 0 p1 (by rw [p3]; exact hn)
  rw [p3] at hsc
  unfold numR
  rw [hsc]
  have hl : (Lib.decDigits n ++ R).length = (Lib.decDigits n).length + R.length := List.length_append
  have hpos : 0 < (Lib.decDigits n).length := List.length_pos_iff.2 p2
  show fin sign (Lib.decDigits n ++ R) n R = _
  rw [fin, if_neg (by omega), if_neg, tail_flag hR]
  rintro ⟨h1, h2⟩
  have h3 := p4 (p5 (by omega))
  cases hd : Lib.decDigits n with
  | nil => exact p2 hd
  | cons x xs => rw [hd] at h1 h3; simp only [List.cons_append, List.head?_cons] at h1 h3; exact h3 h1
theorem numR_sound (most sign : Nat) (L : List UInt8) (a : Int) (x : ByteArray) (h : numR most sign L = (a, x, true)) : ∃ (n : Nat) (R : List UInt8), a = n ∧ n ≤ most ∧ L = Lib.decDigits n ++ R ∧ x = str (R.drop 1) ∧ Tail sign R := by
  unfold numR at h
  cases hsc : scan most sign 0 L with
  | none => rw [hsc] at h; simp at h
  | some q =>
    obtain ⟨m, R⟩ := q
    rw [hsc] at h
    replace h : fin sign L m R = (a, x, true) := h
    obtain ⟨D, rfl, hD, hm, hR, hle⟩ := scan_sound most sign L 0 m R hsc
    unfold fin at h
    have hl : (D ++ R).length = D.length + R.length := List.length_append
    by_cases h1 : R.length = (D ++ R).length
    · rw [if_pos h1] at h; simp at h
    · rw [if_neg h1] at h
      by_cases h2 : (D ++ R).head? = some 48 ∧ 1 < (D ++ R).length - R.length
      · rw [if_pos h2] at h; simp at h
      · rw [if_neg h2] at h
        simp only [Prod.mk.injEq] at h
        obtain ⟨rfl, rfl, h3⟩ := h
        have hne : D ≠ [] := fun e => h1 (by rw [e]; simp)
        have hdec := dec_uniq D.length D rfl hne hD (fun hlen e => h2 ⟨by
          cases D with
          | nil => exact absurd rfl hne
          | cons y ys => simpa using e, by omega⟩)
        rw [← hm] at hdec
        refine ⟨m, R, rfl, hle hne, by rw [hdec], rfl, fun h0 => ?_, fun h0 => ?_⟩
        · rcases hR with rfl | hR
          · have e : (sign == 0) = false := beq_eq_false_iff_ne.2 h0
            rw [e] at h3; exact absurd h3 (by decide)
          · exact hR
        · subst h0
          cases R with
          | nil => rfl
          | cons y ys => exact absurd h3 (by simp)
end Go.Proofs.YtnkbbmfhdabbkaaDoor
