/-
  The clock's references: what each answers, in plain numbers.
-/
import Derived.Test.YtcgfednoolkhkaaClk
namespace Go.Proofs.Ytcgfednoolkhkaa
open Go.RowKit
set_option linter.unusedVariables false

theorem refAdd_any (a b : Int) (w : World) (ha : 0 ≤ a) (hb : 0 ≤ b) (ha' : a ≤ 18446744073709551615) (hb' : b ≤ 18446744073709551615) :
    Calls Try.prog 12 #[.int .u64 a, .int .u64 b] w fun e w' => e = .returned (.int .u64 (addS a b)) ∧ w = w' := by
  by_cases h : a + b ≤ 18446744073709551615
  · have h' : ¬ 18446744073709551615 - b < a := by omega
    rw [addS_lo h]
    go_enter Try.func12, Try.ntmps12
    go_wp2
    go_ret
    exact ⟨rfl, rfl⟩
  · have h' : 18446744073709551615 - b < a := by omega
    rw [addS_hi (by omega)]
    go_enter Try.func12, Try.ntmps12
    go_wp2
    go_ret
    exact ⟨rfl, rfl⟩

def subS (a b : Int) : Int := if a < b then 0 else a - b
theorem sub_any (a b : Int) (w : World) (ha : 0 ≤ a) (hb : 0 ≤ b) (ha' : a ≤ 18446744073709551615) (hb' : b ≤ 18446744073709551615) :
    Calls Try.prog 13 #[.int .u64 a, .int .u64 b] w fun e w' => e = .returned (.int .u64 (subS a b)) ∧ w = w' := by
  unfold subS
  by_cases h : a < b
  · rw [if_pos h]
    go_enter Try.func13, Try.ntmps13
    go_wp2
    all_goals (go_ret; exact ⟨ret_int (by first | omega | (rw [IntKind.wrap_u64]; omega)), rfl⟩)
  · rw [if_neg h]
    go_enter Try.func13, Try.ntmps13
    go_wp2
    all_goals (go_ret; exact ⟨ret_int (by first | omega | (rw [IntKind.wrap_u64]; omega)), rfl⟩)
theorem refSub_any (a b : Int) (w : World) (ha : 0 ≤ a) (hb : 0 ≤ b) (ha' : a ≤ 18446744073709551615) (hb' : b ≤ 18446744073709551615) :
    Calls Try.prog 14 #[.int .u64 a, .int .u64 b] w fun e w' => e = .returned (.int .u64 (subS a b)) ∧ w = w' := by
  unfold subS
  by_cases h : a < b
  · rw [if_pos h]
    go_enter Try.func14, Try.ntmps14
    go_wp2
    go_ret
    exact ⟨rfl, rfl⟩
  · rw [if_neg h]
    go_enter Try.func14, Try.ntmps14
    go_wp2
    go_ret
    exact ⟨rfl, rfl⟩

def dueS (a n : Int) : Bool := decide (a ≤ n ∧ a < 18446744073709551615)
theorem due_any (a n : Int) (w : World) (ha : 0 ≤ a) (hn : 0 ≤ n) (ha' : a ≤ 18446744073709551615) (hn' : n ≤ 18446744073709551615) :
    Calls Try.prog 15 #[.int .u64 a, .int .u64 n] w fun e w' => e = .returned (.bool (dueS a n)) ∧ w = w' := by
  have hd : dueS a n = decide (a ≤ n ∧ a < 18446744073709551615) := rfl
  by_cases h : a ≤ n
  · by_cases h2 : a < 18446744073709551615
    · rw [hd, decide_eq_true (by omega)]
      clear hd
      go_enter Try.func15, Try.ntmps15
      go_wp2
      go_ret
      exact ⟨rfl, rfl⟩
    · rw [hd, decide_eq_false (by omega)]
      clear hd
      go_enter Try.func15, Try.ntmps15
      go_wp2
      go_ret
      exact ⟨rfl, rfl⟩
  · rw [hd, decide_eq_false (by omega)]
    clear hd
    go_enter Try.func15, Try.ntmps15
    go_wp2
    go_ret
    exact ⟨rfl, rfl⟩
theorem refDue_any (a n : Int) (w : World) (ha : 0 ≤ a) (hn : 0 ≤ n) (ha' : a ≤ 18446744073709551615) (hn' : n ≤ 18446744073709551615) :
    Calls Try.prog 16 #[.int .u64 a, .int .u64 n] w fun e w' => e = .returned (.bool (dueS a n)) ∧ w = w' := by
  have hd : dueS a n = decide (a ≤ n ∧ a < 18446744073709551615) := rfl
  by_cases h2 : a = 18446744073709551615
  · rw [hd, decide_eq_false (by omega)]
    have hb : (a != 18446744073709551615) = false := by simpa using h2
    clear hd h2
    go_enter Try.func16, Try.ntmps16
    go_wp2
    go_ret
    exact ⟨rfl, rfl⟩
  · have hb : (a != 18446744073709551615) = true := by simpa using h2
    by_cases h : a ≤ n
    · rw [hd, decide_eq_true (by omega)]
      clear hd h2
      go_enter Try.func16, Try.ntmps16
      go_wp2
      go_ret
      exact ⟨rfl, rfl⟩
    · rw [hd, decide_eq_false (by omega)]
      clear hd h2
      go_enter Try.func16, Try.ntmps16
      go_wp2
      go_ret
      exact ⟨rfl, rfl⟩

theorem refFirst_any (b off len cap : Nat) (xs : List Int) (w : World) (hl : xs.length = len) (hm : len ≤ 9223372036854775807)
    (hc : ∀ k, k < len → w.cell? ⟨b, off + k, none⟩ = some (.int .u64 (xs.getD k 0))) :
    Calls Try.prog 18 #[.slice (some ⟨b, off, none⟩) len cap] w fun e w' => e = .returned (.int .u64 (minL xs)) ∧ w = w' := by
  go_enter Try.func18, Try.ntmps18
  go_wp2
  go_loop [3, 4] (fun n i => ∃ k : Nat, k ≤ len ∧ i = .int .i64 k ∧ n = .int .u64 (minL (xs.take k))) (fun _ i => len - (intOf i).toNat)
  case atStart => exact ⟨0, Nat.zero_le _, rfl, rfl⟩
  case round =>
    obtain ⟨k, hk, rfl, rfl⟩ := hrel
    by_cases hlt : k < len
    · have hcell := hc k hlt
      go_wp2
      go_round
      case rel => exact ⟨k + 1, by omega, by go_num, by rw [take_snoc xs k (by omega), minL_snoc, min_if]⟩
      case measure => simp [intOf]; omega
    · go_wp2
      go_ret
      exact ⟨ret_int (by rw [List.take_of_length_le (by omega)]), rfl⟩
theorem refFirst_empty (a : Option Addr) (cap : Nat) (w : World) : Calls Try.prog 18 #[.slice a 0 cap] w fun e w' => e = .returned (.int .u64 top) ∧ w = w' := by
  go_enter Try.func18, Try.ntmps18
  go_wp2
  refine wp_loop_rounds 1 ?_
  rw [rounds_succ]
  go_wp2
  go_ret
  exact ⟨rfl, rfl⟩
theorem refFirst_row (a : Option Addr) (len cap : Nat) (zs : List Int) (w : World) (h : IsRow .u64 w a len cap zs) :
    Calls Try.prog 18 #[.slice a len cap] w fun e w' => e = .returned (.int .u64 (minL (zs.take len))) ∧ w = w' := by
  rcases Nat.eq_zero_or_pos len with h0 | h0
  · subst h0
    rw [List.take_zero]
    exact refFirst_empty a cap w
  · rcases h with ⟨_, h, _⟩ | ⟨x, rfl, hl, hm, hz, hc, hw⟩
    · omega
    · obtain ⟨b, off, rfl, hcc⟩ := ints_at hc (by omega)
      unfold maxLen at hm
      exact refFirst_any b off len cap (zs.take len) w (by simp; omega) (by omega) (fun k hk => by
        rw [hcc k (by omega)]; congr 2; rw [List.getD_eq_getElem?_getD, List.getD_eq_getElem?_getD, List.getElem?_take_of_lt hk])

theorem refAdd_is (n s m : Int) (w : World) (hn : 0 ≤ n) (hs : 0 ≤ s) (hn' : n ≤ 18446744073709551615) (hs' : s ≤ 18446744073709551615) (H : Hid (addS n s = m)) :
    Calls Try.prog 12 #[.int .u64 n, .int .u64 s] w fun e w' => e = .returned (.int .u64 m) ∧ w = w' := by
  have := refAdd_any n s w hn hs hn' hs'
  rwa [H.out] at this

theorem refEvery_zero (f n : Int) (w : World) : Calls Try.prog 19 #[.int .u64 f, .int .u64 0, .int .u64 n] w fun e w' => e = .returned (.int .u64 top) ∧ w = w' := by
  go_enter Try.func19, Try.ntmps19
  go_wp2
  go_ret
  exact ⟨rfl, rfl⟩
theorem refEvery_far (f s n m : Int) (w : World) (hf : 0 ≤ f) (hs : 0 < s) (hn : 0 ≤ n) (hf' : f ≤ 18446744073709551615) (hs' : s ≤ 18446744073709551615)
    (H : Hid (addS f s = m)) (h : n < m) :
    Calls Try.prog 19 #[.int .u64 f, .int .u64 s, .int .u64 n] w fun e w' => e = .returned (.int .u64 m) ∧ w = w' := by
  have h0 : (s == 0) = false := by rw [beq_eq_false_iff_ne]; omega
  go_enter Try.func19, Try.ntmps19
  go_wp2_with (go_at_call 12; refine (refAdd_is _ _ m _ (by omega) (by omega) (by omega) (by omega) H).mono ?_; rintro e w' ⟨rfl, rfl⟩)
  go_ret
  exact ⟨rfl, rfl⟩
theorem refEvery_top (f s n m : Int) (w : World) (hf : 0 ≤ f) (hs : 0 < s) (hn : 0 ≤ n) (hf' : f ≤ 18446744073709551615) (hs' : s ≤ 18446744073709551615)
    (H : Hid (addS f s = m)) (h : m ≤ n) (ht : m = top) :
    Calls Try.prog 19 #[.int .u64 f, .int .u64 s, .int .u64 n] w fun e w' => e = .returned (.int .u64 m) ∧ w = w' := by
  have h0 : (s == 0) = false := by rw [beq_eq_false_iff_ne]; omega
  have h1 : (m == 18446744073709551615) = true := by rw [ht]; rfl
  clear ht
  go_enter Try.func19, Try.ntmps19
  go_wp2_with (go_at_call 12; refine (refAdd_is _ _ m _ (by omega) (by omega) (by omega) (by omega) H).mono ?_; rintro e w' ⟨rfl, rfl⟩)
  go_ret
  exact ⟨rfl, rfl⟩
theorem refEvery_near (f s n m : Int) (w : World) (hf : 0 ≤ f) (hs : 0 < s) (hn : 0 ≤ n) (hf' : f ≤ 18446744073709551615) (hs' : s ≤ 18446744073709551615) (hn' : n ≤ 18446744073709551615)
    (H : Hid (addS f s = m)) (h0m : 0 ≤ m) (h : m ≤ n) (ht : ¬ m = top) :
    Calls Try.prog 19 #[.int .u64 f, .int .u64 s, .int .u64 n] w fun e w' => e = .returned (.int .u64 (addS (m + (n - m) / s * s) s)) ∧ w = w' := by
  have h0 : (s == 0) = false := by rw [beq_eq_false_iff_ne]; omega
  have h1 : (m == 18446744073709551615) = false := by rw [beq_eq_false_iff_ne]; exact ht
  clear ht
  have q0 : 0 ≤ (n - m) / s := Int.ediv_nonneg (by omega) (by omega)
  have q1 : (n - m) / s * s ≤ n - m := Int.ediv_mul_le _ (by omega)
  have q2 : 0 ≤ (n - m) / s * s := Int.mul_nonneg q0 (by omega)
  have q3 : (n - m) / s ≤ n - m := Int.ediv_le_self _ (by omega)
  have e1 : IntKind.u64.wrap (n - m) = n - m := IntWalk.u64_in _ (by omega)
  have e2 : IntKind.u64.wrap ((n - m).tdiv s) = (n - m) / s := by rw [Int.tdiv_eq_ediv_of_nonneg (by omega)]; exact IntWalk.u64_in _ (by omega)
  have e3 : IntKind.u64.wrap ((n - m) / s * s) = (n - m) / s * s := IntWalk.u64_in _ (by omega)
  have e4 : IntKind.u64.wrap (m + (n - m) / s * s) = m + (n - m) / s * s := IntWalk.u64_in _ (by omega)
  have hne : ¬ s = 0 := by omega
  go_enter Try.func19, Try.ntmps19
  go_wp2_with (go_at_call 12; (first | (with_reducible refine (refAdd_is f s m _ (by omega) (by omega) (by omega) (by omega) H).mono ?_) | (refine (refAdd_any _ _ _ (by omega) (by omega) (by omega) (by omega)).mono ?_)); rintro e w' ⟨rfl, rfl⟩)
  go_ret
  exact ⟨rfl, rfl⟩
theorem refEvery_any (f s n : Int) (w : World) (hf : 0 ≤ f) (hs : 0 ≤ s) (hn : 0 ≤ n) (hf' : f ≤ 18446744073709551615) (hs' : s ≤ 18446744073709551615) (hn' : n ≤ 18446744073709551615) :
    Calls Try.prog 19 #[.int .u64 f, .int .u64 s, .int .u64 n] w fun e w' => e = .returned (.int .u64 (everyS f s n)) ∧ w = w' := by
  unfold everyS
  by_cases h0 : s = 0
  · rw [if_pos h0]; subst h0; exact refEvery_zero f n w
  · rw [if_neg h0]
    by_cases h1 : n < addS f s
    · rw [if_pos h1]; exact refEvery_far f s n _ w hf (by omega) hn hf' hs' (Lib.hid rfl) h1
    · rw [if_neg h1]
      by_cases h2 : addS f s = top
      · rw [if_pos h2]; exact refEvery_top f s n _ w hf (by omega) hn hf' hs' (Lib.hid h2) (by omega) rfl
      · rw [if_neg h2]
        exact refEvery_near f s n _ w hf (by omega) hn hf' hs' hn' (Lib.hid rfl) (addS_bd hf hs).1 (by omega) h2
end Go.Proofs.Ytcgfednoolkhkaa
