/-
  Plain law: the numbers of a text, as the reference reads them.
-/
import Derived.Test.YtnkbbmfhdabbkaaDoorM
import Derived.Test.YtnkbbmfhdabbkaaDoorQNs
namespace Go.Proofs.YtnkbbmfhdabbkaaDoor
open Go.RowKit Go.Proofs.YtnkbbmfhdabbkaaDoorW.PrintWords
set_option linter.unusedVariables false
set_option linter.unusedSimpArgs false
/-- The numbers read, with the one under way behind. -/
def flush (o : List Int) : Option Nat → List Int
  | none => o
  | some m => o ++ [(m : Int)]
/-- What is left to read makes of what is read. -/
def numsL : List UInt8 → List Int → Option Nat → List Int
  | [], o, cur => flush o cur
  | c :: L, o, cur => if 48 ≤ c.toNat ∧ c.toNat ≤ 57 then numsL L o (some (min (10 * cur.getD 0 + (c.toNat - 48)) 999999)) else numsL L (flush o cur) none
theorem acc_mn (m c : Nat) (hm : m ≤ 999999) (h1 : 48 ≤ c) (h2 : c ≤ 57) : mn (wrap64 (wrap64 ((m : Int) * 10) + ((c : Int) - 48) % 256)) 999999 = ((min (10 * m + (c - 48)) 999999 : Nat) : Int) := by
  have e : wrap64 (wrap64 ((m : Int) * 10) + ((c : Int) - 48) % 256) = ((10 * m + (c - 48) : Nat) : Int) := by
    rw [Int.mul_comm]; exact acc_eq m c (by omega) h1 h2
  rw [e]
  unfold mn
  generalize hx : 10 * m + (c - 48) = x
  by_cases hg : x ≤ 999999
  · rw [Nat.min_eq_left hg, if_neg (by omega)]
  · rw [Nat.min_eq_right (by omega), if_pos (by omega)]; rfl
theorem rd_last (o : List Int) (m : Int) : rd (o ++ [m]) (o.length : Int) = m := by
  unfold rd
  simp
theorem set_last (o : List Int) (m x : Int) : (o ++ [m]).set o.length x = o ++ [x] := by
  simp
/-- A digit's round. -/
theorem ns_dig (k i m : Nat) (L : List UInt8) (o : List Int) (hL : L.length ≤ 100000) (hi : i < L.length) (ho : o.length ≤ i) (hm : m ≤ 999999) (h1 : 48 ≤ L[i].toNat) (h2 : L[i].toNat ≤ 57) :
    (if 0 ≤ (wrap64 (((o ++ [(m : Int)]).length : Int) - 1)) then (if (wrap64 (((o ++ [(m : Int)]).length : Int) - 1)) < ((o ++ [(m : Int)]).length : Int) then (if 0 ≤ (i : Int) then (if (i : Int) < ((str L).size : Int) then (PA.signpostref06_numbers.l0 k (str L) ((o ++ [(m : Int)]).set ((wrap64 (((o ++ [(m : Int)]).length : Int) - 1)) : Int).toNat (mn (wrap64 ((wrap64 ((rd (o ++ [(m : Int)]) (wrap64 (((o ++ [(m : Int)]).length : Int) - 1))) * 10)) + (((bt (str L) (i : Int)) - 48) % 256))) 999999)) true (wrap64 ((i : Int) + 1))) else (none)) else (none)) else (none)) else (none)) =
      PA.signpostref06_numbers.l0 k (str L) (flush o (some (min (10 * m + (L[i].toNat - 48)) 999999))) true ((i + 1 : Nat) : Int) := by
  have e : wrap64 (((o ++ [(m : Int)]).length : Int) - 1) = (o.length : Int) := by
    rw [List.length_append, List.length_singleton, wrap_small _ (by omega) (by omega)]; omega
  rw [e, if_pos (by omega), if_pos (by rw [List.length_append, List.length_singleton]; omega), if_pos (by omega), if_pos (by rw [str_size]; omega), rd_last, bt_str L i hi, acc_mn m _ hm h1 h2, Int.toNat_natCast, set_last,
    wrap_small _ (by omega) (by omega)]
  rfl
theorem ns_loop (L : List UInt8) (hL : L.length ≤ 100000) : ∀ (d i : Nat) (o : List Int) (cur : Option Nat) (k : Nat), L.length - i = d → i ≤ L.length → (flush o cur).length ≤ i → (∀ m, cur = some m → m ≤ 999999) → 2 * d + 1 ≤ k →
    PA.signpostref06_numbers.l0 k (str L) (flush o cur) cur.isSome (i : Int) = some (numsL (L.drop i) o cur)
  | 0, i, o, cur, k, hd, hi, ho, hc, hk => by
    obtain ⟨k, rfl⟩ : ∃ j, k = j + 1 := ⟨k - 1, by omega⟩
    rw [PA.signpostref06_numbers.l0, if_neg (by rw [str_size]; omega), List.drop_eq_nil_of_le (by omega), numsL]
  | d + 1, i, o, cur, k, hd, hi, ho, hc, hk => by
    obtain ⟨k, rfl⟩ : ∃ j, k = j + 2 := ⟨k - 2, by omega⟩
    have hlt : i < L.length := by omega
    have hE : L.drop i = L[i] :: L.drop (i + 1) := List.drop_eq_getElem_cons hlt
    rw [PA.signpostref06_numbers.l0, if_pos (by rw [str_size]; omega), if_pos (by omega), bt_str L i hlt, hE, numsL]
    have hw : wrap64 ((i : Int) + 1) = ((i + 1 : Nat) : Int) := wrap_small _ (by omega) (by omega)
    have ih1 := ns_loop L hL d (i + 1) (flush o cur) none k (by omega) (by omega) (by show (flush o cur).length ≤ _; omega) (fun m h => by cases h) (by omega)
    by_cases c1 : L[i].toNat < 48
    · rw [if_pos (by omega), PA.signpostref06_numbers.j1, if_pos rfl, if_neg (by omega), hw]
      exact ih1
    · rw [if_neg (by omega)]
      by_cases c2 : 57 < L[i].toNat
      · rw [decide_eq_true (by omega), PA.signpostref06_numbers.j1, if_pos rfl, if_neg (by omega), hw]
        exact ih1
      · rw [decide_eq_false (by omega), PA.signpostref06_numbers.j1, if_neg (by decide), if_pos (⟨by omega, by omega⟩ : 48 ≤ L[i].toNat ∧ L[i].toNat ≤ 57)]
        cases cur with
        | some m =>
          have hm := hc m rfl
          rw [if_pos (show (some m).isSome = true from rfl)]
          have hs := ns_dig k i m L o hL hlt (by unfold flush at ho; rw [List.length_append, List.length_singleton] at ho; omega) hm (by omega) (by omega)
          refine hs.trans ?_
          exact ns_loop L hL d (i + 1) o (some _) k (by omega) (by omega) (by unfold flush at ho ⊢; rw [List.length_append, List.length_singleton] at ho ⊢; omega) (fun x hx => by cases hx; exact Nat.min_le_right _ _) (by omega)
        | none =>
          have ho' : o.length ≤ i := ho
          rw [if_neg (show ¬ ((none : Option Nat).isSome = true) by decide), if_pos (show (flush o none).length < 17592186044416 by show o.length < _; omega), Option.bind_some]
          have hs := ns_dig k i 0 L o hL hlt ho' (by omega) (by omega) (by omega)
          refine Eq.trans hs ?_
          exact ns_loop L hL d (i + 1) o (some _) k (by omega) (by omega) (by unfold flush; rw [List.length_append, List.length_singleton]; omega) (fun x hx => by cases hx; exact Nat.min_le_right _ _) (by omega)
theorem ns_f (L : List UInt8) (hL : L.length ≤ 100000) (k : Nat) (hk : 2 * L.length + 1 ≤ k) : PA.signpostref06_numbers.f k (str L) = some (numsL L [] none) :=
  ns_loop L hL L.length 0 [] none k (by omega) (by omega) (by show (0 : Nat) ≤ 0; omega) (fun m h => by cases h) hk
theorem numsL_bd : ∀ (L : List UInt8) (o : List Int) (cur : Option Nat), (∀ x ∈ flush o cur, 0 ≤ x ∧ x ≤ 999999) → ∀ x ∈ numsL L o cur, 0 ≤ x ∧ x ≤ 999999
  | [], o, cur, h => h
  | c :: L, o, cur, h => by
    rw [numsL]
    have ho : ∀ x ∈ o, 0 ≤ x ∧ x ≤ 999999 := by
      cases cur with
      | none => exact h
      | some m => exact fun x hx => h x (List.mem_append_left _ hx)
    split
    · refine numsL_bd L o _ fun x hx => ?_
      rcases List.mem_append.1 hx with hx | hx
      · exact ho x hx
      · rw [List.mem_singleton] at hx
        have := Nat.min_le_right (10 * cur.getD 0 + (c.toNat - 48)) 999999
        generalize min (10 * cur.getD 0 + (c.toNat - 48)) 999999 = y at *
        omega
    · exact numsL_bd L (flush o cur) none h
theorem numsL_digs : ∀ (D R : List UInt8) (o : List Int) (m : Nat), (∀ c ∈ D, isD c) → dval m D ≤ 999999 → numsL (D ++ R) o (some m) = numsL R o (some (dval m D))
  | [], R, o, m, _, _ => rfl
  | c :: D, R, o, m, hD, hle => by
    have hc := hD c (by simp)
    rw [dval_cons] at hle
    have hge := dval_ge D (10 * m + (c.toNat - 48))
    rw [List.cons_append, numsL, if_pos (show 48 ≤ c.toNat ∧ c.toNat ≤ 57 from hc), Option.getD_some, Nat.min_eq_left (by omega), numsL_digs D R o _ (fun x hx => hD x (by simp [hx])) hle, dval_cons]
theorem numsL_dec (n : Nat) (R : List UInt8) (o : List Int) (hn : n ≤ 999999) : numsL (Lib.decDigits n ++ R) o none = numsL R o (some n) := by
  obtain ⟨h1, h2, h3, _, _⟩ := dec_props n
  cases hd : Lib.decDigits n with
  | nil => exact absurd hd h2
  | cons c D =>
    rw [hd] at h1 h3
    have hc := h1 c (by simp)
    rw [dval_cons] at h3
    have hge := dval_ge D (10 * 0 + (c.toNat - 48))
    rw [List.cons_append, numsL, if_pos (show 48 ≤ c.toNat ∧ c.toNat ≤ 57 from hc), Option.getD_none, Nat.min_eq_left (by omega), numsL_digs D R o _ (fun x hx => h1 x (by simp [hx])) (by omega), h3]
theorem numsL_sep (c : UInt8) (R : List UInt8) (o : List Int) (n : Nat) (hc : c.toNat = 46 ∨ c.toNat = 58) : numsL (c :: R) o (some n) = numsL R (o ++ [(n : Int)]) none := by
  rw [numsL, if_neg (by omega)]
  rfl
theorem numsL_text (h p : Nat) (hp : p < 65536) : numsL (aText h p) [] none = [(hb h 0 : Int), (hb h 1 : Int), (hb h 2 : Int), (hb h 3 : Int), (p : Int)] := by
  have b0 := hb_lt h 0
  have b1 := hb_lt h 1
  have b2 := hb_lt h 2
  have b3 := hb_lt h 3
  rw [aText_eq, numsL_dec _ _ _ (by omega), numsL_sep _ _ _ _ (.inl rfl), numsL_dec _ _ _ (by omega), numsL_sep _ _ _ _ (.inl rfl), numsL_dec _ _ _ (by omega), numsL_sep _ _ _ _ (.inl rfl), numsL_dec _ _ _ (by omega), numsL_sep _ _ _ _ (.inr rfl)]
  have := numsL_dec p [] ((([] ++ [(hb h 0 : Int)]) ++ [(hb h 1 : Int)]) ++ [(hb h 2 : Int)] ++ [(hb h 3 : Int)]) (by omega)
  rw [List.append_nil] at this
  rw [this]
  rfl
end Go.Proofs.YtnkbbmfhdabbkaaDoor
