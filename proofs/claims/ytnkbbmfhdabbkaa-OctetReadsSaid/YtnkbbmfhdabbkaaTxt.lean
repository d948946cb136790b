/-
  octet.Text, the references of Put and Text, and the chapter's example.
-/
import Derived.Test.YtnkbbmfhdabbkaaOct
namespace Go.Proofs.Ytnkbbmfhdabbkaa
open Go.RowKit Go.Proofs.YtnkbbmfhdabbkaaW.PrintWords
set_option linter.unusedVariables false

theorem refPut_bad (A : Option Addr) (c : Nat) (l : List Int) (n wd : Int) (w : World) (HR : ReadsInt w .u8 A l.length l) (hl : l.length ≤ 140000000000000) (hw : ¬ (1 ≤ wd ∧ wd ≤ 8)) :
    Calls Try.prog 15 #[.slice A l.length c, .int .u64 n, .int .i64 wd] w (OwnB l w) := by
  have HRR := Lib.hid HR
  clear HR
  by_cases h1 : 1 ≤ wd
  · have h2 : 8 < wd := by omega
    clear hw
    go_enter Try.func15, Try.ntmps15
    go_wp2_with (at_builtin; go_loud (refine print_append_row (w0 := w) w.heap.size rfl (.tmp 9) (.tmp 10) 22 5 .u8 1 rfl Try.underlying22 info5 (by decide) (.slice (some ⟨w.heap.size, 0, none⟩) 0 0) [] l A l.length c rfl rfl (own_lit w w.heap.size 5 .u8 [] (Nat.le_refl _) (by simp)) (HRR.out.allocS _) (below_alloc (Below.refl _ _) _) (by simp) (by simp; omega) ?_); intro v1 w1 hown hbl hg hat)
    go_ret
    exact ⟨v1, rfl, by simpa using hown, hbl⟩
  · have h2 : wd < 1 := by omega
    clear hw h1
    go_enter Try.func15, Try.ntmps15
    go_wp2_with (at_builtin; go_loud (refine print_append_row (w0 := w) w.heap.size rfl (.tmp 9) (.tmp 10) 22 5 .u8 1 rfl Try.underlying22 info5 (by decide) (.slice (some ⟨w.heap.size, 0, none⟩) 0 0) [] l A l.length c rfl rfl (own_lit w w.heap.size 5 .u8 [] (Nat.le_refl _) (by simp)) (HRR.out.allocS _) (below_alloc (Below.refl _ _) _) (by simp) (by simp; omega) ?_); intro v1 w1 hown hbl hg hat)
    go_ret
    exact ⟨v1, rfl, by simpa using hown, hbl⟩

theorem refPut_good (A : Option Addr) (c : Nat) (l : List Int) (n : Int) (m : Nat) (w : World) (HR : ReadsInt w .u8 A l.length l) (hl : l.length ≤ 140000000000000) (h1 : 1 ≤ m) (h8 : m ≤ 8)
    (hn : 0 ≤ n) (hn' : n ≤ 18446744073709551615) :
    Calls Try.prog 15 #[.slice A l.length c, .int .u64 n, .int .i64 (m : Int)] w (OwnB (l ++ be n m) w) := by
  have HRR := Lib.hid HR
  clear HR
  go_enter Try.func15, Try.ntmps15
  go_wp2_with (at_builtin; go_loud (refine print_append_row (w0 := w) w.heap.size rfl (.tmp 9) (.tmp 10) 22 5 .u8 1 rfl Try.underlying22 info5 (by decide) (.slice (some ⟨w.heap.size, 0, none⟩) 0 0) [] l A l.length c rfl rfl (own_lit w w.heap.size 5 .u8 [] (Nat.le_refl _) (by simp)) (HRR.out.allocS _) (below_alloc (Below.refl _ _) _) (by simp) (by simp; omega) ?_); intro v1 w1 hown hbl hg hat)
  go_loopw [7, 8] (fun v i wr => ∃ k : Nat, k ≤ m ∧ i = .int .i64 ((m : Int) - 1 - (k : Int)) ∧ wr.ownsRow w.heap.size 5 1 v (l ++ beTo n m k).length (nums .u8 (l ++ beTo n m k)) ∧ Below w.heap.size w wr) (fun _ i _ => (intOf i + 1).toNat)
  case atStart => exact ⟨0, Nat.zero_le _, by simp, by simpa [beTo] using hown, hbl⟩
  case round =>
    obtain ⟨k, hk, rfl, hro, hrb⟩ := hrel
    by_cases hlt : k < m
    · obtain ⟨j, hj⟩ : ∃ j : Nat, (m : Int) - 1 - (k : Int) = (j : Int) := ⟨m - 1 - k, by omega⟩
      have hj' : j = m - 1 - k := by omega
      rw [hj]
      have HO := Lib.hid hro
      have HB := Lib.hid hrb
      have HJ := Lib.hid hj
      have HJ' := Lib.hid hj'
      have hjm : j < 8 := by omega
      clear hro hrb hown hbl hg hat hj hj'
      go_wp2_with (at_builtin; go_loud (refine print_append_num (w0 := w) w.heap.size rfl (.tmp 25) (.tmp 32) 22 5 .u8 1 rfl Try.underlying22 info5 (by decide) u7 (l ++ beTo n m k) (n / 2 ^ (8 * j) % 256) rfl rfl HO.out HB.out HB.out.size (by simp [beTo_length]; omega) ?_); intro v2 w2 hown2 hbl2 hg2 hat2)
      go_roundw
      case rel => exact ⟨k + 1, by omega, by have := HJ.out; congr 1; omega, by rw [beTo_succ, ← List.append_assoc]; unfold byteAt; rw [← HJ'.out]; exact hown2, hbl2⟩
      case measure => simp [intOf]
    · obtain rfl : k = m := by omega
      rw [show ((k : Int) - 1 - (k : Int)) = -1 from by omega]
      go_wp2
      go_ret
      exact ⟨_, rfl, hro, hrb⟩

theorem refPut_any (A : Option Addr) (c : Nat) (l : List Int) (n wd : Int) (w : World) (HR : ReadsInt w .u8 A l.length l) (hl : l.length ≤ 140000000000000) (hn : 0 ≤ n) (hn' : n ≤ 18446744073709551615) :
    Calls Try.prog 15 #[.slice A l.length c, .int .u64 n, .int .i64 wd] w (OwnB (putL l n wd) w) := by
  unfold putL
  by_cases hw : 1 ≤ wd ∧ wd ≤ 8
  · obtain ⟨m, rfl⟩ := Int.eq_ofNat_of_zero_le (show 0 ≤ wd by omega)
    rw [if_pos hw, Int.toNat_natCast]
    exact refPut_good A c l n m w HR hl (by omega) (by omega) hn hn'
  · rw [if_neg hw]
    exact refPut_bad A c l n wd w HR hl hw

/-- What a text is put as. -/
def textL (l : List Int) (s : ByteArray) : List Int := if s.size ≤ 1024 then l ++ be s.size 2 ++ bytesOf s else []
def textE (s : ByteArray) : Int := if s.size ≤ 1024 then 0 else 11
def OwnT (l : List Int) (s : ByteArray) (w : World) (e : Ending) (w' : World) : Prop :=
  ∃ v, e = .returned (.tuple #[v, .int .i64 (textE s)]) ∧ w'.ownsRow w.heap.size 5 1 v (textL l s).length (nums .u8 (textL l s)) ∧ Below w.heap.size w w'

theorem text_any (A : Option Addr) (c : Nat) (l : List Int) (s : ByteArray) (w : World) (HR : ReadsInt w .u8 A l.length l) (hl : l.length ≤ 140000000000000) (hs : s.size ≤ 9223372036854775807) :
    Calls Try.prog 12 #[.slice A l.length c, .string s] w (OwnT l s w) := by
  have HRR := Lib.hid HR
  clear HR
  by_cases h : s.size ≤ 1024
  · have hE : textE s = 0 := by simp [textE, h]
    have hL : textL l s = l ++ be s.size 2 ++ bytesOf s := by simp [textL, h]
    have HE := Lib.hid hE
    have HL := Lib.hid hL
    clear hE hL
    go_enter Try.func12, Try.ntmps12
    go_wp2_with (first
      | (go_at_call 14; go_loud (refine (put_any _ _ _ _ _ _ HRR.out hl (by omega) (by omega)).mono ?_); rintro e w1 ⟨v1, rfl, hown, hbl⟩)
      | (at_builtin; go_loud (refine print_append_str (w0 := w) w.heap.size rfl (.tmp 13) (.tmp 14) 22 9 5 rfl Try.underlying22 Try.underlying9 info5 v1 (putL l s.size 2) s rfl rfl hown hbl hbl.size ?aL ?_); (case aL => simp [putL, be_length]; omega); intro v2 w2 hown2 hbl2 hg2))
    go_ret2
    exact ⟨v2, by rw [HE.out]; rfl, by rw [HL.out]; simpa [putL] using hown2, hbl2⟩
  · have hE : textE s = 11 := by simp [textE, h]
    have hL : textL l s = [] := by simp [textL, h]
    have HE := Lib.hid hE
    have HL := Lib.hid hL
    clear hE hL
    go_enter Try.func12, Try.ntmps12
    go_wp2
    go_ret2
    exact ⟨_, by rw [HE.out]; rfl, by rw [HL.out]; exact own_nil _ _ _ _, Below.refl _ _⟩
theorem refText_any (A : Option Addr) (c : Nat) (l : List Int) (s : ByteArray) (w : World) (HR : ReadsInt w .u8 A l.length l) (hl : l.length ≤ 140000000000000) (hs : s.size ≤ 9223372036854775807) :
    Calls Try.prog 13 #[.slice A l.length c, .string s] w (OwnT l s w) := by
  have HRR := Lib.hid HR
  clear HR
  by_cases h : s.size ≤ 1024
  · have hE : textE s = 0 := by simp [textE, h]
    have hL : textL l s = l ++ be s.size 2 ++ bytesOf s := by simp [textL, h]
    have HE := Lib.hid hE
    have HL := Lib.hid hL
    clear hE hL
    go_enter Try.func13, Try.ntmps13
    go_wp2_with (first
      | (go_at_call 15; go_loud (refine (refPut_any _ _ _ _ _ _ HRR.out hl (by omega) (by omega)).mono ?_); rintro e w1 ⟨v1, rfl, hown, hbl⟩)
      | (at_builtin; go_loud (refine print_append_str (w0 := w) w.heap.size rfl (.tmp 13) (.tmp 14) 22 9 5 rfl Try.underlying22 Try.underlying9 info5 v1 (putL l s.size 2) s rfl rfl hown hbl hbl.size ?aL ?_); (case aL => simp [putL, be_length]; omega); intro v2 w2 hown2 hbl2 hg2))
    go_ret2
    exact ⟨v2, by rw [HE.out]; rfl, by rw [HL.out]; simpa [putL] using hown2, hbl2⟩
  · have hE : textE s = 11 := by simp [textE, h]
    have hL : textL l s = [] := by simp [textL, h]
    have HE := Lib.hid hE
    have HL := Lib.hid hL
    clear hE hL
    go_enter Try.func13, Try.ntmps13
    go_wp2
    go_ret2
    exact ⟨_, by rw [HE.out]; rfl, by rw [HL.out]; exact own_nil _ _ _ _, Below.refl _ _⟩

theorem str_own {w : World} {base n : Nat} {v : Value} {xs : List Int} (h : w.ownsRow base 5 1 v n (nums .u8 xs)) : (convert 22 9 v).run Try.prog w = .ok (.string (strOfNums xs)) w :=
  own_string Try.underlying22 Try.underlying5 Try.underlying9 h
theorem str_own_in {w w1 : World} {base n : Nat} {v : Value} {xs : List Int} (h : w.ownsRow base 5 1 v n (nums .u8 xs)) (hb : Below w.heap.size w w1) : (convert 22 9 v).run Try.prog w1 = .ok (.string (strOfNums xs)) w1 :=
  str_own (pw_own_below h hb)

theorem lives_any (w : World) : Calls Try.prog 9 #[] w fun e w' => e = .returned (.bool true) ∧ Below w.heap.size w w' := by
  have c1 : strOfNums (textL [] ⟨#[97, 98]⟩) = ⟨#[0, 2, 97, 98]⟩ := by decide +kernel
  have c2 : strOfNums (putL [] 258 3) = ⟨#[0, 1, 2]⟩ := by decide +kernel
  have c3 : textE ⟨#[97, 98]⟩ = 0 := by decide +kernel
  have C1 := Lib.hid c1
  have C2 := Lib.hid c2
  have C3 := Lib.hid c3
  clear c1 c2 c3
  go_enter Try.func9, Try.ntmps9
  go_wp2_with fail
  refine (text_any none 0 [] ⟨#[97, 98]⟩ _ (ReadsInt.nil _ _) (by simp) (by decide)).mono ?_
  rintro e w1 ⟨v1, rfl, ho1, hb1⟩
  rw [C3.out]
  go_wp2_with fail
  refine (put_any none 0 [] 258 3 _ (ReadsInt.nil _ _) (by simp) (by omega) (by omega)).mono ?_
  rintro e w2 ⟨v2, rfl, ho2, hb2⟩
  have s1 := str_own_in ho1 hb2
  have s2 := str_own ho2
  rw [C1.out] at s1
  rw [C2.out] at s2
  have hb := hb1.trans (hb2.mono hb1.size)
  have HB := Lib.hid hb
  clear ho1 hb1 ho2 hb2 hb
  go_wp2
  go_ways
  go_ret
  exact ⟨rfl, HB.out⟩
end Go.Proofs.Ytnkbbmfhdabbkaa
