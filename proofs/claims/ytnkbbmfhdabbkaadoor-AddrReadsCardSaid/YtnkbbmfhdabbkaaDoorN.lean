/-
  Plain law: decimal numbers ahead of a sign.
-/
import Derived.Test.YtnkbbmfhdabbkaaDoorF
import Derived.Test.YtnkbbmfhdabbkaaDoorQNum
namespace Go.Proofs.YtnkbbmfhdabbkaaDoor
open Go.RowKit Go.Proofs.YtnkbbmfhdabbkaaDoorW.PrintWords
set_option linter.unusedVariables false
set_option linter.unusedSimpArgs false
/-- The value of digits behind n. -/
def dval (n : Nat) (D : List UInt8) : Nat := D.foldl (fun a c => 10 * a + (c.toNat - 48)) n
def isD (c : UInt8) : Prop := 48 ≤ c.toNat ∧ c.toNat ≤ 57
theorem dval_cons (n : Nat) (c : UInt8) (D : List UInt8) : dval n (c :: D) = dval (10 * n + (c.toNat - 48)) D := by unfold dval; rw [List.foldl_cons]
theorem dval_snoc (n : Nat) (D : List UInt8) (c : UInt8) : dval n (D ++ [c]) = 10 * dval n D + (c.toNat - 48) := by unfold dval; rw [List.foldl_append]; rfl
theorem dval_ge (D : List UInt8) : ∀ n : Nat, n ≤ dval n D := by
  induction D with
  | nil => intro n; exact Nat.le_refl _
  | cons c D ih => intro n; rw [dval_cons]; have := ih (10 * n + (c.toNat - 48)); omega
theorem dig_val (x : Nat) (h : x < 10) : (UInt8.ofNat (48 + x)).toNat = 48 + x := by rw [UInt8.toNat_ofNat']; omega
theorem dec_props (n : Nat) : (∀ c ∈ Lib.decDigits n, isD c) ∧ Lib.decDigits n ≠ [] ∧ dval 0 (Lib.decDigits n) = n ∧ (1 ≤ n → (Lib.decDigits n).head? ≠ some 48) ∧ ((Lib.decDigits n).length > 1 → 1 ≤ n) := by
  induction n using Nat.strongRecOn with
  | _ n ih =>
    by_cases h : n < 10
    · rw [Lib.decDigits_one h]
      have hv := dig_val n h
      refine ⟨fun c hc => ?_, by simp, ?_, fun h1 => ?_, fun h1 => by simp at h1⟩
      · rw [List.mem_singleton] at hc; subst hc; unfold isD; omega
      · unfold dval; simp only [List.foldl_cons, List.foldl_nil]; omega
      · intro e
        have e2 : UInt8.ofNat (48 + n) = 48 := by simpa using e
        rw [e2] at hv
        have : (48 : UInt8).toNat = 48 := rfl
        omega
    · obtain ⟨i1, i2, i3, i4, _⟩ := ih (n / 10) (by omega)
      have e : Lib.decDigits n = Lib.decDigits (n / 10) ++ [UInt8.ofNat (48 + n % 10)] := by
        conv => lhs; rw [Lib.decDigits, dif_neg h]
      have hv := dig_val (n % 10) (by omega)
      rw [e]
      refine ⟨fun c hc => ?_, by simp, ?_, fun h1 => ?_, fun _ => by omega⟩
      · rcases List.mem_append.1 hc with hc | hc
        · exact i1 c hc
        · rw [List.mem_singleton] at hc; subst hc; unfold isD; omega
      · rw [dval_snoc, i3, hv]; omega
      · have i4' := i4 (by omega)
        cases hd : Lib.decDigits (n / 10) with
        | nil => exact absurd hd i2
        | cons x xs => rw [hd] at i4'; simpa using i4'
theorem dec_uniq : ∀ (m : Nat) (D : List UInt8), D.length = m → D ≠ [] → (∀ c ∈ D, isD c) → (D.length > 1 → D.head? ≠ some 48) → Lib.decDigits (dval 0 D) = D
  | m, D, hm, hn, hD, hz => by
    have hsp := List.dropLast_concat_getLast hn
    have hcd := hD (D.getLast hn) (List.getLast_mem hn)
    have hDl : ∀ c ∈ D.dropLast, isD c := fun c hc => hD c (List.dropLast_subset _ hc)
    have hlen : D.dropLast.length = D.length - 1 := List.length_dropLast
    generalize D.getLast hn = c at hsp hcd
    generalize hE : D.dropLast = E at hsp hDl hlen
    have hb : UInt8.ofNat (48 + (c.toNat - 48)) = c := by
      rw [show 48 + (c.toNat - 48) = c.toNat from by have := hcd.1; omega]; exact UInt8.ofNat_toNat
    rw [← hsp, dval_snoc]
    cases E with
    | nil =>
      have h10 : 10 * dval 0 [] + (c.toNat - 48) < 10 := by have := hcd.2; simp [dval]; omega
      rw [Lib.decDigits_one h10]
      simp only [dval, List.foldl_nil, Nat.mul_zero, Nat.zero_add, List.nil_append]
      rw [hb]
    | cons x xs =>
      have hx := hDl x (by simp)
      have hl1 : D.length > 1 := by simp at hlen; omega
      have hx48 : x.toNat ≠ 48 := fun e => hz hl1 (by rw [← hsp]; simp only [List.cons_append, List.head?_cons]; congr 1; exact UInt8.toNat_inj.1 (by rw [e]; rfl))
      have hpos : 1 ≤ dval 0 (x :: xs) := by
        rw [dval_cons]; have := dval_ge xs (10 * 0 + (x.toNat - 48)); have := hx.1; omega
      have ih := dec_uniq (m - 1) (x :: xs) (by rw [hlen]; omega) (by simp) hDl (fun _ => by
        simp only [List.head?_cons]; intro e; exact hx48 (by rw [Option.some.inj e]; rfl))
      have hc2 := hcd.2
      rw [Lib.decDigits, dif_neg (by omega), show (10 * dval 0 (x :: xs) + (c.toNat - 48)) / 10 = dval 0 (x :: xs) from by omega, show (10 * dval 0 (x :: xs) + (c.toNat - 48)) % 10 = c.toNat - 48 from by omega, ih, hb]
termination_by m => m
decreasing_by omega
/-- Reads digits up to a sign, or to the end: what they say, and what is left. -/
def scan (most sign : Nat) : Nat → List UInt8 → Option (Nat × List UInt8)
  | n, [] => some (n, [])
  | n, c :: cs => if c.toNat = sign then some (n, c :: cs) else if c.toNat < 48 then none else if 57 < c.toNat then none else if most < 10 * n + (c.toNat - 48) then none else scan most sign (10 * n + (c.toNat - 48)) cs
theorem scan_sound (most sign : Nat) : ∀ (L : List UInt8) (n m : Nat) (R : List UInt8), scan most sign n L = some (m, R) → ∃ D, L = D ++ R ∧ (∀ c ∈ D, isD c) ∧ m = dval n D ∧ (R = [] ∨ ∃ c cs, R = c :: cs ∧ c.toNat = sign) ∧ (D ≠ [] → m ≤ most)
  | [], n, m, R, h => by
    simp only [scan, Option.some.injEq, Prod.mk.injEq] at h
    obtain ⟨rfl, rfl⟩ := h
    exact ⟨[], rfl, by simp, rfl, .inl rfl, fun h => absurd rfl h⟩
  | c :: cs, n, m, R, h => by
    rw [scan] at h
    by_cases h1 : c.toNat = sign
    · rw [if_pos h1] at h
      simp only [Option.some.injEq, Prod.mk.injEq] at h
      obtain ⟨rfl, rfl⟩ := h
      exact ⟨[], rfl, by simp, rfl, .inr ⟨c, cs, rfl, h1⟩, fun h => absurd rfl h⟩
    · rw [if_neg h1] at h
      by_cases h2 : c.toNat < 48
      · rw [if_pos h2] at h; cases h
      · rw [if_neg h2] at h
        by_cases h3 : 57 < c.toNat
        · rw [if_pos h3] at h; cases h
        · rw [if_neg h3] at h
          by_cases h4 : most < 10 * n + (c.toNat - 48)
          · rw [if_pos h4] at h; cases h
          · rw [if_neg h4] at h
            obtain ⟨D, rfl, hD, hm, hR, hle⟩ := scan_sound most sign cs _ m R h
            refine ⟨c :: D, rfl, fun x hx => ?_, by rw [dval_cons]; exact hm, hR, fun _ => ?_⟩
            · rcases List.mem_cons.1 hx with rfl | hx
              · exact ⟨by omega, by omega⟩
              · exact hD x hx
            · cases D with
              | nil => rw [hm]; simp [dval]; omega
              | cons y ys => exact hle (by simp)
theorem scan_complete (most sign : Nat) (R : List UInt8) (hR : R = [] ∨ ∃ c cs, R = c :: cs ∧ c.toNat = sign) (hs : sign < 48 ∨ 57 < sign) : ∀ (D : List UInt8) (n : Nat), (∀ c ∈ D, isD c) → dval n D ≤ most → scan most sign n (D ++ R) = some (dval n D, R)
  | [], n, _, _ => by
    rcases hR with rfl | ⟨c, cs, rfl, hc⟩
    · rfl
    · simp only [List.nil_append]; rw [scan, if_pos hc]; rfl
  | c :: D, n, hD, hle => by
    have hc := hD c (by simp)
    have h0 := hc.1
    have h9 := hc.2
    rw [dval_cons] at hle
    have hge := dval_ge D (10 * n + (c.toNat - 48))
    rw [List.cons_append, scan, if_neg (by omega), if_neg (by omega), if_neg (by omega), if_neg (by omega), scan_complete most sign R hR hs D _ (fun x hx => hD x (by simp [hx])) hle]
    rfl
end Go.Proofs.YtnkbbmfhdabbkaaDoor
