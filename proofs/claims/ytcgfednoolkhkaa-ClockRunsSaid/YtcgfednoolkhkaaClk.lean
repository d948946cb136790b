/-
  The clock's functions: what each answers, in plain numbers.
-/
import Derived.Test.YtcgfednoolkhkaaProg
import Derived.Test.YtcgfednoolkhkaaKit
namespace Go.Proofs.Ytcgfednoolkhkaa
open Go.RowKit
set_option linter.unusedVariables false

def top : Int := 18446744073709551615
def addS (a b : Int) : Int := if a + b ≤ top then a + b else top
theorem addS_lo {a b : Int} (h : a + b ≤ 18446744073709551615) : addS a b = a + b := by unfold addS top; rw [if_pos h]
theorem addS_hi {a b : Int} (h : 18446744073709551615 < a + b) : addS a b = 18446744073709551615 := by unfold addS top; rw [if_neg (by omega)]
theorem addS_bd {a b : Int} (ha : 0 ≤ a) (hb : 0 ≤ b) : 0 ≤ addS a b ∧ addS a b ≤ 18446744073709551615 := by
  unfold addS top; split <;> omega
theorem wrap_over {a b : Int} (ha : 0 ≤ a) (hb : 0 ≤ b) (ha' : a ≤ 18446744073709551615) (hb' : b ≤ 18446744073709551615) (h : 18446744073709551615 < a + b) : IntKind.u64.wrap (a + b) < a := by
  rw [IntKind.wrap_u64]; omega

theorem add_any (a b : Int) (w : World) (ha : 0 ≤ a) (hb : 0 ≤ b) (ha' : a ≤ 18446744073709551615) (hb' : b ≤ 18446744073709551615) :
    Calls Try.prog 11 #[.int .u64 a, .int .u64 b] w fun e w' => e = .returned (.int .u64 (addS a b)) ∧ w = w' := by
  by_cases h : a + b ≤ 18446744073709551615
  · rw [addS_lo h]
    go_enter Try.func11, Try.ntmps11
    go_wp2
    go_ret
    exact ⟨rfl, rfl⟩
  · rw [addS_hi (by omega)]
    have hw := wrap_over ha hb ha' hb' (by omega)
    go_enter Try.func11, Try.ntmps11
    go_wp2
    go_ret
    exact ⟨rfl, rfl⟩

theorem after_any (n s : Int) (p : Addr) (w : World) (hn : 0 ≤ n) (hs : 0 ≤ s) (hn' : n ≤ 18446744073709551615) (hs' : s ≤ 18446744073709551615) (hc : w.cell? p = some (.int .u64 s)) :
    Calls Try.prog 40 #[.int .u64 n, .pointer (some p)] w fun e w' => e = .returned (.int .u64 (addS n s)) ∧ w = w' := by
  go_enter Try.func40, Try.ntmps40
  go_wp2_with (go_at_call 11; refine (add_any _ _ _ (by omega) (by omega) (by omega) (by omega)).mono ?_; rintro e w' ⟨rfl, rfl⟩)
  go_ret
  exact ⟨rfl, rfl⟩

theorem after_is (n s m : Int) (p : Addr) (w : World) (hn : 0 ≤ n) (hs : 0 ≤ s) (hn' : n ≤ 18446744073709551615) (hs' : s ≤ 18446744073709551615) (hc : w.cell? p = some (.int .u64 s)) (H : Hid (addS n s = m)) :
    Calls Try.prog 40 #[.int .u64 n, .pointer (some p)] w fun e w' => e = .returned (.int .u64 m) ∧ w = w' := by
  have := after_any n s p w hn hs hn' hs' hc
  rwa [H.out] at this

theorem after_q (n s : Int) (p : Addr) (w : World) (hn : 0 ≤ n) (hs : 0 ≤ s) (hn' : n ≤ 18446744073709551615) (hs' : s ≤ 18446744073709551615) (hc : w.cell? p = some (.int .u64 s)) :
    Calls Try.prog 40 #[.int .u64 n, .pointer (some p)] w fun e w' => e = .returned (.int .u64 (addS n s)) ∧ w' = w :=
  (after_any n s p w hn hs hn' hs' hc).mono fun _ _ ⟨h1, h2⟩ => ⟨h1, h2.symm⟩

def minL (l : List Int) : Int := l.foldl min top
theorem minL_snoc (l : List Int) (x : Int) : minL (l ++ [x]) = min (minL l) x := by unfold minL; rw [List.foldl_append]; rfl
theorem minL_bd (l : List Int) (h : ∀ x ∈ l, 0 ≤ x) : 0 ≤ minL l ∧ minL l ≤ 18446744073709551615 := by
  suffices H : ∀ (l : List Int) (a : Int), 0 ≤ a → a ≤ 18446744073709551615 → (∀ x ∈ l, 0 ≤ x) → 0 ≤ l.foldl min a ∧ l.foldl min a ≤ 18446744073709551615 by
    exact H l top (by unfold top; omega) (by unfold top; omega) h
  intro l
  induction l with
  | nil => intro a h1 h2 _; exact ⟨h1, h2⟩
  | cons y l ih =>
    intro a h1 h2 h3
    simp only [List.foldl_cons]
    have := h3 y (by simp)
    exact ih _ (by omega) (by omega) fun x hx => h3 x (by simp [hx])

theorem take_snoc (xs : List Int) (k : Nat) (h : k < xs.length) : xs.take (k + 1) = xs.take k ++ [xs[k]] := by
  rw [List.take_succ_eq_append_getElem h]
theorem min_if (a b : Int) : min a b = if b < a then b else a := by rw [Int.min_def]; split <;> split <;> omega

/-- 'First' of a slice that reads as the list xs. -/
theorem first_any (b off len cap : Nat) (xs : List Int) (w : World) (hl : xs.length = len) (hm : len ≤ 9223372036854775807)
    (hc : ∀ k, k < len → w.cell? ⟨b, off + k, none⟩ = some (.int .u64 (xs.getD k 0))) :
    Calls Try.prog 17 #[.slice (some ⟨b, off, none⟩) len cap] w fun e w' => e = .returned (.int .u64 (minL xs)) ∧ w = w' := by
  go_enter Try.func17, Try.ntmps17
  go_wp2
  go_loop [3, 5, 8] (fun n _ i => ∃ k : Nat, k ≤ len ∧ i = .int .i64 k ∧ n = .int .u64 (minL (xs.take k))) (fun _ _ i => len - (intOf i).toNat)
  case atStart => exact ⟨0, Nat.zero_le _, rfl, rfl⟩
  case round =>
    obtain ⟨k, hk, rfl, rfl⟩ := hrel
    by_cases hlt : k < len
    · have hcell := hc k hlt
      go_wp2
      go_round
      case rel => exact ⟨k + 1, by omega, by go_num, by rw [take_snoc xs k (by omega), minL_snoc, min_if]⟩
      case measure => simp [intOf]; omega
    · go_wp2
      go_ret
      exact ⟨ret_int (by rw [List.take_of_length_le (by omega)]), rfl⟩

theorem first_empty (a : Option Addr) (cap : Nat) (w : World) : Calls Try.prog 17 #[.slice a 0 cap] w fun e w' => e = .returned (.int .u64 top) ∧ w = w' := by
  go_enter Try.func17, Try.ntmps17
  go_wp2
  refine wp_loop_rounds 1 ?_
  rw [rounds_succ]
  go_wp2
  go_ret
  exact ⟨rfl, rfl⟩
theorem first_row (a : Option Addr) (len cap : Nat) (zs : List Int) (w : World) (h : IsRow .u64 w a len cap zs) :
    Calls Try.prog 17 #[.slice a len cap] w fun e w' => e = .returned (.int .u64 (minL (zs.take len))) ∧ w = w' := by
  rcases Nat.eq_zero_or_pos len with h0 | h0
  · subst h0
    rw [List.take_zero]
    exact first_empty a cap w
  · rcases h with ⟨_, h, _⟩ | ⟨x, rfl, hl, hm, hz, hc, hw⟩
    · omega
    · obtain ⟨b, off, rfl, hcc⟩ := ints_at hc (by omega)
      unfold maxLen at hm
      exact first_any b off len cap (zs.take len) w (by simp; omega) (by omega) (fun k hk => by
        rw [hcc k (by omega)]; congr 2; rw [List.getD_eq_getElem?_getD, List.getD_eq_getElem?_getD, List.getElem?_take_of_lt hk])

def everyS (f s n : Int) : Int :=
  if s = 0 then top else if n < addS f s then addS f s else if addS f s = top then top else addS (addS f s + (n - addS f s) / s * s) s

theorem eq_top (x : Int) (h : (x == 18446744073709551615) = true) : x = top := by simpa [top] using h
theorem ne_top (x : Int) (h : (x == 18446744073709551615) = false) : ¬ x = top := by unfold top; simpa using h

theorem every_zero (f n : Int) (w : World) : Calls Try.prog 9 #[.int .u64 f, .int .u64 0, .int .u64 n] w fun e w' => e = .returned (.int .u64 top) ∧ Below w.heap.size w w' := by
  go_enter Try.func9, Try.ntmps9
  go_wp2
  go_ret
  exact ⟨rfl, by go_grown⟩

theorem cell_one {w : World} {b : Nat} {v : Value} {t : TypeId} : ∀ k, k < 1 → (w.alloc (.cells #[v] t)).cell? ⟨w.heap.size, 0 + k, none⟩ = some v := by
  intro k hk
  obtain rfl : k = 0 := by omega
  simp

theorem every_far (f s n : Int) (w : World) (hf : 0 ≤ f) (hs : 0 < s) (hn : 0 ≤ n) (hf' : f ≤ 18446744073709551615) (hs' : s ≤ 18446744073709551615) (hn' : n ≤ 18446744073709551615)
    (h : n < addS f s) :
    Calls Try.prog 9 #[.int .u64 f, .int .u64 s, .int .u64 n] w fun e w' => e = .returned (.int .u64 (addS f s)) ∧ Below w.heap.size w w' := by
  have hb := addS_bd hf (Int.le_of_lt hs)
  have h0 : (s == 0) = false := by rw [beq_eq_false_iff_ne]; omega
  have hmin : minL [addS f s] = addS f s := by unfold minL top; simp; omega
  go_enter Try.func9, Try.ntmps9
  go_wp2_with (first | (go_at_call 40; refine (after_any _ s _ _ (by omega) (by omega) (by omega) (by omega) ?_).mono ?_; (simp); rintro e w' ⟨rfl, rfl⟩) | (go_at_call 17; go_must (refine (first_any _ _ _ _ [addS f s] _ rfl (by simp) ?_).mono ?_); go_must (intro k hk; obtain rfl : k = 0 := (Nat.lt_one_iff.1 (by simpa using hk)); simp); rintro e w' ⟨rfl, rfl⟩))
  go_ret
  exact ⟨rfl, by go_grown⟩

theorem every_top (f s n : Int) (w : World) (hf : 0 ≤ f) (hs : 0 < s) (hn : 0 ≤ n) (hf' : f ≤ 18446744073709551615) (hs' : s ≤ 18446744073709551615) (hn' : n ≤ 18446744073709551615)
    (h : addS f s ≤ n) (ht : addS f s = top) :
    Calls Try.prog 9 #[.int .u64 f, .int .u64 s, .int .u64 n] w fun e w' => e = .returned (.int .u64 top) ∧ Below w.heap.size w w' := by
  have hb := addS_bd hf (Int.le_of_lt hs)
  have h0 : (s == 0) = false := by rw [beq_eq_false_iff_ne]; omega
  have h1 : (addS f s == 18446744073709551615) = true := by rw [ht]; rfl
  clear ht
  go_enter Try.func9, Try.ntmps9
  go_wp2_with (first | (go_at_call 40; refine (after_any _ s _ _ (by omega) (by omega) (by omega) (by omega) ?_).mono ?_; (simp); rintro e w' ⟨rfl, rfl⟩))
  go_ret
  exact ⟨rfl, by go_grown⟩

theorem every_near (f s n m : Int) (w : World) (hf : 0 ≤ f) (hs : 0 < s) (hn : 0 ≤ n) (hf' : f ≤ 18446744073709551615) (hs' : s ≤ 18446744073709551615) (hn' : n ≤ 18446744073709551615)
    (H : Hid (addS f s = m)) (h0m : 0 ≤ m) (h : m ≤ n) (ht : ¬ m = top) :
    Calls Try.prog 9 #[.int .u64 f, .int .u64 s, .int .u64 n] w fun e w' => e = .returned (.int .u64 (addS (m + (n - m) / s * s) s)) ∧ Below w.heap.size w w' := by
  have h0 : (s == 0) = false := by rw [beq_eq_false_iff_ne]; omega
  have h1 : (m == 18446744073709551615) = false := by rw [beq_eq_false_iff_ne]; exact ht
  clear ht
  have q0 : 0 ≤ (n - m) / s := Int.ediv_nonneg (by omega) (by omega)
  have q1 : (n - m) / s * s ≤ n - m := Int.ediv_mul_le _ (by omega)
  have q2 : 0 ≤ (n - m) / s * s := Int.mul_nonneg q0 (by omega)
  have q3 : (n - m) / s ≤ n - m := Int.ediv_le_self _ (by omega)
  have e1 : IntKind.u64.wrap (n - m) = n - m := IntWalk.u64_in _ (by omega)
  have e2 : IntKind.u64.wrap ((n - m).tdiv s) = (n - m) / s := by rw [Int.tdiv_eq_ediv_of_nonneg (by omega)]; exact IntWalk.u64_in _ (by omega)
  have e3 : IntKind.u64.wrap ((n - m) / s * s) = (n - m) / s * s := IntWalk.u64_in _ (by omega)
  have e4 : IntKind.u64.wrap (m + (n - m) / s * s) = m + (n - m) / s * s := IntWalk.u64_in _ (by omega)
  have hne : ¬ s = 0 := by omega
  go_enter Try.func9, Try.ntmps9
  go_wp2_with (first | (go_at_call 40; refine (after_is _ s m _ _ (by omega) (by omega) (by omega) (by omega) ?_ H).mono ?_; (simp); rintro e w' ⟨rfl, rfl⟩))
  go_quiet ((go_at_call 40; exact Calls.quiet_of_same (after_q _ s _ _ (by omega) (by omega) (by omega) (by omega) (by simp))))
  go_wp2
  go_ret
  exact ⟨rfl, below_drewN (by go_grown) _⟩

theorem every_any (f s n : Int) (w : World) (hf : 0 ≤ f) (hs : 0 ≤ s) (hn : 0 ≤ n) (hf' : f ≤ 18446744073709551615) (hs' : s ≤ 18446744073709551615) (hn' : n ≤ 18446744073709551615) :
    Calls Try.prog 9 #[.int .u64 f, .int .u64 s, .int .u64 n] w fun e w' => e = .returned (.int .u64 (everyS f s n)) ∧ Below w.heap.size w w' := by
  unfold everyS
  by_cases h0 : s = 0
  · rw [if_pos h0]; subst h0; exact every_zero f n w
  · rw [if_neg h0]
    by_cases h1 : n < addS f s
    · rw [if_pos h1]; exact every_far f s n w hf (by omega) hn hf' hs' hn' h1
    · rw [if_neg h1]
      by_cases h2 : addS f s = top
      · rw [if_pos h2]; exact every_top f s n w hf (by omega) hn hf' hs' hn' (by omega) h2
      · rw [if_neg h2]
        exact every_near f s n _ w hf (by omega) hn hf' hs' hn' (Lib.hid rfl) (addS_bd hf hs).1 (by omega) h2

theorem everyS_bd {f s n : Int} (hf : 0 ≤ f) (hs : 0 ≤ s) (hn : 0 ≤ n) (hf' : f ≤ 18446744073709551615) (hs' : s ≤ 18446744073709551615) (hn' : n ≤ 18446744073709551615) :
    0 ≤ everyS f s n ∧ everyS f s n ≤ 18446744073709551615 := by
  have hb := addS_bd hf hs
  unfold everyS
  by_cases h0 : s = 0
  · rw [if_pos h0]; unfold top; omega
  · rw [if_neg h0]
    by_cases h1 : n < addS f s
    · rw [if_pos h1]; exact hb
    · rw [if_neg h1]
      by_cases h2 : addS f s = top
      · rw [if_pos h2]; unfold top; omega
      · rw [if_neg h2]
        exact addS_bd (Int.add_nonneg hb.1 (Int.mul_nonneg (Int.ediv_nonneg (by omega) (by omega)) hs)) hs

theorem lives_any (w : World) : Calls Try.prog 10 #[] w fun e w' => e = .returned (.bool true) ∧ Below w.heap.size w w' := by
  have e1 : (everyS 5 3 9 == 11) = true := by decide
  have e2 : (everyS 5 3 0 == 8) = true := by decide
  have e3 : (addS 18446744073709551615 1 == 18446744073709551615) = true := by decide
  have hg := Below.refl w.heap.size w
  go_enter Try.func10, Try.ntmps10
  go_wp2_with (first | (go_at_call 9; refine (based (every_any _ _ _ _ (by omega) (by omega) (by omega) (by omega) (by omega) (by omega)) (by assumption)).mono ?_; rintro e w' ⟨rfl, hg⟩) | (go_at_call 11; refine (add_any _ _ _ (by omega) (by omega) (by omega) (by omega)).mono ?_; rintro e w' ⟨rfl, rfl⟩))
  go_ret
  exact ⟨rfl, by assumption⟩

theorem addS_not_top {a b : Int} (h : ¬ addS a b = top) : addS a b = a + b ∧ a + b ≤ 18446744073709551615 := by
  by_cases k : a + b ≤ 18446744073709551615
  · exact ⟨addS_lo k, k⟩
  · exact absurd (addS_hi (by omega)) h

/-- What 'ClockEvery' says, in plain numbers. -/
theorem every_law {f s n r : Int} (hf : 0 ≤ f) (hs : 0 < s) (hn : 0 ≤ n) (hn' : n ≤ 18446744073709551615)
    (hr : everyS f s n = r) (ht : ¬ r = top) : n < r ∧ f < r ∧ s ≤ r ∧ (r - f) % s = 0 ∧ (r - s = f ∨ r - s ≤ n) := by
  have hb := addS_bd hf (Int.le_of_lt hs)
  unfold everyS at hr
  rw [if_neg (by omega)] at hr
  by_cases h1 : n < addS f s
  · rw [if_pos h1] at hr
    subst hr
    obtain ⟨h2, h2'⟩ := addS_not_top ht
    rw [h2] at h1 ⊢
    refine ⟨h1, by omega, by omega, ?_, Or.inl (by omega)⟩
    rw [show f + s - f = s from by omega]; exact Int.emod_self
  · rw [if_neg h1] at hr
    by_cases h2 : addS f s = top
    · rw [if_pos h2] at hr; exact absurd hr.symm ht
    · rw [if_neg h2] at hr
      obtain ⟨h3, h3'⟩ := addS_not_top h2
      rw [h3] at hr h1
      have q0 : 0 ≤ (n - (f + s)) / s := Int.ediv_nonneg (by omega) (by omega)
      have q1 : (n - (f + s)) / s * s ≤ n - (f + s) := Int.ediv_mul_le _ (by omega)
      have q2 : n - (f + s) < ((n - (f + s)) / s + 1) * s := Int.lt_ediv_add_one_mul_self _ hs
      generalize (n - (f + s)) / s = q at *
      have q3 : 0 ≤ q * s := Int.mul_nonneg q0 (by omega)
      rw [Int.add_mul, Int.one_mul] at q2
      obtain ⟨h4, h4'⟩ := addS_not_top (a := f + s + q * s) (b := s) (by rw [hr]; exact ht)
      rw [h4] at hr
      subst hr
      refine ⟨by omega, by omega, by omega, ?_, Or.inr (by omega)⟩
      rw [show f + s + q * s + s - f = s * (q + 2) from by rw [Int.mul_add, Int.mul_comm s q]; omega]
      exact Int.mul_emod_right _ _
end Go.Proofs.Ytcgfednoolkhkaa
