/-
  The octet package's functions: what each answers, in plain lists of numbers.
-/
import Derived.Test.YtnkbbmfhdabbkaaProg
import Derived.Test.YtnkbbmfhdabbkaaKit
import Derived.Test.YtnkbbmfhdabbkaaWWords
namespace Go.Proofs.Ytnkbbmfhdabbkaa
open Go.RowKit Go.Proofs.YtnkbbmfhdabbkaaW.PrintWords
set_option linter.unusedVariables false

theorem info5 : (Try.prog.info? 5).map (fun i => (i.zero, i.size, i.bytes)) = some (some (.int .u8 0), 1, 1) := by kernel_rfl
/-- The j-th byte of n in width w, from the most significant one on. -/
def byteAt (n : Int) (w j : Nat) : Int := n / 2 ^ (8 * (w - 1 - j)) % 256
def be (n : Int) (w : Nat) : List Int := (List.range w).map (byteAt n w)
theorem be_length (n : Int) (w : Nat) : (be n w).length = w := by simp [be]
def beTo (n : Int) (w k : Nat) : List Int := (List.range k).map (byteAt n w)
theorem beTo_succ (n : Int) (w k : Nat) : beTo n w (k + 1) = beTo n w k ++ [byteAt n w k] := by simp [beTo, List.range_succ]
theorem beTo_length (n : Int) (w k : Nat) : (beTo n w k).length = k := by simp [beTo]
/-- An own row of bytes that reads as l. -/
def OwnB (l : List Int) (w : World) (e : Ending) (w' : World) : Prop :=
  ∃ v, e = .returned v ∧ w'.ownsRow w.heap.size 5 1 v l.length (nums .u8 l) ∧ Below w.heap.size w w'
def putL (l : List Int) (n wd : Int) : List Int := if 1 ≤ wd ∧ wd ≤ 8 then l ++ be n wd.toNat else l

theorem may_any (n : Int) (w : World) : Calls Try.prog 39 #[.int .i64 n] w fun e w' => e = .returned (.bool (decide (1 ≤ n ∧ n ≤ 8))) ∧ w = w' := by
  have hd : decide (1 ≤ n ∧ n ≤ 8) = decide (1 ≤ n ∧ n ≤ 8) := rfl
  by_cases h1 : 1 ≤ n
  · by_cases h2 : n ≤ 8
    · rw [decide_eq_true ⟨h1, h2⟩]
      go_enter Try.func39, Try.ntmps39
      go_wp2
      go_ret
      exact ⟨rfl, rfl⟩
    · rw [decide_eq_false (by omega)]
      go_enter Try.func39, Try.ntmps39
      go_wp2
      go_ret
      exact ⟨rfl, rfl⟩
  · rw [decide_eq_false (by omega)]
    go_enter Try.func39, Try.ntmps39
    go_wp2
    go_ret
    exact ⟨rfl, rfl⟩

theorem put_bad (A : Option Addr) (c : Nat) (l : List Int) (n wd : Int) (w : World) (HR : ReadsInt w .u8 A l.length l) (hl : l.length ≤ 140000000000000) (hw : ¬ (1 ≤ wd ∧ wd ≤ 8)) :
    Calls Try.prog 14 #[.slice A l.length c, .int .u64 n, .int .i64 wd] w (OwnB l w) := by
  have hm : decide (1 ≤ wd ∧ wd ≤ 8) = false := decide_eq_false hw
  have HM := Lib.hid hm
  have HRR := Lib.hid HR
  have HL := Lib.hid hl
  clear hm HR
  go_enter Try.func14, Try.ntmps14
  go_wp2_with (first
    | (at_builtin; go_loud (refine print_append_row (w0 := w) w.heap.size rfl (.tmp 9) (.tmp 10) 22 5 .u8 1 rfl Try.underlying22 info5 (by decide) (.slice (some ⟨w.heap.size, 0, none⟩) 0 0) [] l A l.length c rfl rfl (own_lit w w.heap.size 5 .u8 [] (Nat.le_refl _) (by simp)) (HRR.out.allocS _) (below_alloc (Below.refl _ _) _) (by simp) (by simp; omega) ?_); intro v1 w1 hown hbl hg hat)
    | (go_at_call 39; refine (may_any _ _).mono ?_; rintro e w' ⟨rfl, rfl⟩))
  go_ret
  exact ⟨v1, rfl, by simpa [putL, hw] using hown, hbl⟩

theorem put_good (A : Option Addr) (c : Nat) (l : List Int) (n : Int) (m : Nat) (w : World) (HR : ReadsInt w .u8 A l.length l) (hl : l.length ≤ 140000000000000) (h1 : 1 ≤ m) (h8 : m ≤ 8)
    (hn : 0 ≤ n) (hn' : n ≤ 18446744073709551615) :
    Calls Try.prog 14 #[.slice A l.length c, .int .u64 n, .int .i64 (m : Int)] w (OwnB (l ++ be n m) w) := by
  have HRR := Lib.hid HR
  have HL := Lib.hid hl
  clear HR
  have hd : decide (1 ≤ (m : Int) ∧ (m : Int) ≤ 8) = true := decide_eq_true (by omega)
  go_enter Try.func14, Try.ntmps14
  go_wp2_with (first
    | (at_builtin; go_loud (refine print_append_row (w0 := w) w.heap.size rfl (.tmp 9) (.tmp 10) 22 5 .u8 1 rfl Try.underlying22 info5 (by decide) (.slice (some ⟨w.heap.size, 0, none⟩) 0 0) [] l A l.length c rfl rfl (own_lit w w.heap.size 5 .u8 [] (Nat.le_refl _) (by simp)) (HRR.out.allocS _) (below_alloc (Below.refl _ _) _) (by simp) (by simp; omega) ?_); intro v1 w1 hown hbl hg hat)
    | (go_at_call 39; refine (may_any _ _).mono ?_; rintro e w' ⟨rfl, rfl⟩))
  go_loopw [7, 17] (fun v i wr => ∃ k : Nat, k ≤ m ∧ i = .int .i64 k ∧ wr.ownsRow w.heap.size 5 1 v (l ++ beTo n m k).length (nums .u8 (l ++ beTo n m k)) ∧ Below w.heap.size w wr) (fun _ i _ => m - (intOf i).toNat)
  case atStart => exact ⟨0, Nat.zero_le _, rfl, by simpa [beTo] using hown, hbl⟩
  case round =>
    obtain ⟨k, hk, rfl, hro, hrb⟩ := hrel
    by_cases hlt : k < m
    · have HO := Lib.hid hro
      have HB := Lib.hid hrb
      clear hro hrb hown hbl hg hat
      go_wp2_with (at_builtin; go_loud (refine print_append_num (w0 := w) w.heap.size rfl (.tmp 20) (.tmp 30) 22 5 .u8 1 rfl Try.underlying22 info5 (by decide) u7 (l ++ beTo n m k) (n / 2 ^ (8 * (m - 1 - k)) % 256) rfl rfl HO.out HB.out HB.out.size (by simp [beTo_length]; omega) ?_); intro v2 w2 hown2 hbl2 hg2 hat2)
      go_roundw
      case rel => exact ⟨k + 1, by omega, by go_num, by rw [beTo_succ, ← List.append_assoc]; exact hown2, hbl2⟩
      case measure => simp [intOf]; omega
    · go_wp2
      go_ret
      obtain rfl : k = m := by omega
      exact ⟨_, rfl, hro, hrb⟩

theorem put_any (A : Option Addr) (c : Nat) (l : List Int) (n wd : Int) (w : World) (HR : ReadsInt w .u8 A l.length l) (hl : l.length ≤ 140000000000000) (hn : 0 ≤ n) (hn' : n ≤ 18446744073709551615) :
    Calls Try.prog 14 #[.slice A l.length c, .int .u64 n, .int .i64 wd] w (OwnB (putL l n wd) w) := by
  unfold putL
  by_cases hw : 1 ≤ wd ∧ wd ≤ 8
  · obtain ⟨m, rfl⟩ := Int.eq_ofNat_of_zero_le (show 0 ≤ wd by omega)
    rw [if_pos hw, Int.toNat_natCast]
    exact put_good A c l n m w HR hl (by omega) (by omega) hn hn'
  · have := put_bad A c l n wd w HR hl hw
    simpa [putL, hw] using this
end Go.Proofs.Ytnkbbmfhdabbkaa
