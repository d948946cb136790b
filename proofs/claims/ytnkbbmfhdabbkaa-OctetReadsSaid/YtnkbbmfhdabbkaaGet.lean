/-
  octet.Get and its reference: the number that begins at a place.
-/
import Derived.Test.YtnkbbmfhdabbkaaOct
import Derived.Laws.BitsLemmas
namespace Go.Proofs.Ytnkbbmfhdabbkaa
open Go.RowKit Go.Proofs.YtnkbbmfhdabbkaaW.PrintWords
set_option linter.unusedVariables false

def num (l : List Int) : Int := l.foldl (fun a x => a * 256 + x) 0
theorem num_snoc (l : List Int) (x : Int) : num (l ++ [x]) = num l * 256 + x := by unfold num; rw [List.foldl_append]; rfl
theorem take_getD (l : List Int) (k : Nat) (h : k < l.length) : l.take (k + 1) = l.take k ++ [l.getD k 0] := by
  rw [List.take_succ_eq_append_getElem h, List.getD_eq_getElem?_getD, List.getElem?_eq_getElem h]; rfl
def Bytes (l : List Int) : Prop := ∀ x ∈ l, 0 ≤ x ∧ x ≤ 255
theorem num_bd (l : List Int) (h : Bytes l) : 0 ≤ num l ∧ num l < 256 ^ l.length := by
  suffices H : ∀ (n : Nat) (l : List Int), l.length = n → Bytes l → 0 ≤ num l ∧ num l < 256 ^ n by exact H _ l rfl h
  intro n
  induction n with
  | zero => intro l hl _; obtain rfl := List.eq_nil_of_length_eq_zero hl; exact ⟨Int.le_refl _, by decide⟩
  | succ n ih =>
    intro l hl hb
    obtain ⟨ys, x, rfl⟩ : ∃ ys x, l = ys ++ [x] := ⟨l.take n, l.getD n 0, by
      rw [← take_getD l n (by omega), List.take_of_length_le (by omega)]⟩
    have := ih ys (by simpa using hl) fun y hy => hb y (by simp [hy])
    have hx := hb x (by simp)
    rw [num_snoc, Int.pow_succ]
    omega
theorem num_lt {l : List Int} (h : Bytes l) {k : Nat} (hk : l.length ≤ k) (hk8 : k ≤ 7) : num l < 72057594037927936 := by
  have h1 := (num_bd l h).2
  have h2 : ∀ n, n < 8 → (256 : Int) ^ n ≤ 72057594037927936 := by decide
  have := h2 l.length (by omega)
  omega
theorem pow64 : (2 : Int) ^ 64 = 18446744073709551616 := by decide
theorem pow8 : (2 : Int) ^ 8 = 256 := by decide
theorem wraps_u64 (m : Int) (h : 0 ≤ m) (h' : m < 2 ^ 64) : IntKind.u64.wrap m = m := IntWalk.u64_in m ⟨h, by rw [pow64] at h'; omega⟩
theorem or_byte {n x : Int} (h0 : 0 ≤ n) (h1 : n < 72057594037927936) (g0 : 0 ≤ x) (g1 : x ≤ 255) : Go.bits .or .u64 (n * 256) x = n * 256 + x :=
  bits_join .u64 64 (by decide) wraps_u64 8 (n * 256) x (by omega) (by rw [pow8]; omega) (by rw [pow64]; omega) g0 (by rw [pow8]; omega) (by rw [pow64]; omega)
theorem getD_bytes {l : List Int} (h : Bytes l) (k : Nat) : 0 ≤ l.getD k 0 ∧ l.getD k 0 ≤ 255 := by
  rw [List.getD_eq_getElem?_getD]
  rcases Nat.lt_or_ge k l.length with hk | hk
  · rw [List.getElem?_eq_getElem hk]; exact h _ (List.getElem_mem _)
  · rw [List.getElem?_eq_none hk]; exact ⟨Int.le_refl _, by decide⟩
theorem bytes_take {l : List Int} (h : Bytes l) (k : Nat) : Bytes (l.take k) := fun x hx => h x (List.mem_of_mem_take hx)
theorem bytes_drop {l : List Int} (h : Bytes l) (k : Nat) : Bytes (l.drop k) := fun x hx => h x (List.mem_of_mem_drop hx)

def okG (n : Nat) (at_ wd : Int) : Bool := decide (1 ≤ wd ∧ wd ≤ 8 ∧ 0 ≤ at_ ∧ at_ ≤ n ∧ wd ≤ n - at_)
def getV (l : List Int) (at_ wd : Int) : Int := if okG l.length at_ wd = true then num ((l.drop at_.toNat).take wd.toNat) else 0

/-- A row that is read, its address written out. -/
theorem reads_at {w : World} {k : IntKind} {A : Option Addr} {n : Nat} {xs : List Int} (h : ReadsInt w k A n xs) (hn : 0 < n) :
    ∃ b off, A = some ⟨b, off, none⟩ ∧ ∀ j, j < n → w.cell? ⟨b, off + j, none⟩ = some (.int k (xs.getD j 0)) := by
  obtain ⟨ad, e, hc⟩ := h.2.2 hn
  have hl := h.1
  subst hl
  obtain ⟨b, off, rfl, hcc⟩ := ints_at hc hn
  exact ⟨b, off, e, hcc⟩

theorem get_good (A : Option Addr) (c : Nat) (l : List Int) (a m : Nat) (w : World) (HR : ReadsInt w .u8 A l.length l) (hc : l.length ≤ c) (hB : Bytes l) (h1 : 1 ≤ m) (h8 : m ≤ 8) (ha : a + m ≤ l.length) :
    Calls Try.prog 10 #[.slice A l.length c, .int .i64 (a : Int), .int .i64 (m : Int)] w fun e w' => e = .returned (.tuple #[.int .u64 (num ((l.drop a).take m)), .bool true]) ∧ w = w' := by
  have hmax : l.length ≤ 9223372036854775807 := HR.2.1
  obtain ⟨i0, hi, hz0, hz1, hz2⟩ := info_parts info5
  obtain ⟨A', hrun, hread, hcap⟩ := print_mid_int (P := Try.prog) (k := .u8) 22 5 Try.underlying22 hi hz1 A c l (a : Int) ((a : Int) + (m : Int)) (by omega) (by omega) (by omega) hc
  have hys : (l.take ((a : Int) + (m : Int)).toNat).drop (a : Int).toNat = (l.drop a).take m := by
    rw [show ((a : Int) + (m : Int)).toNat = a + m from by omega, Int.toNat_natCast, List.drop_take, show a + m - a = m from by omega]
  have hyl : ((l.drop a).take m).length = m := by simp; omega
  rw [hys] at hrun hread hcap
  have hyb : Bytes ((l.drop a).take m) := bytes_take (bytes_drop hB a) m
  generalize (l.drop a).take m = ys at *
  have HRR := Lib.hid (hread w HR)
  have hd : decide (1 ≤ (m : Int) ∧ (m : Int) ≤ 8) = true := decide_eq_true (by omega)
  rw [hyl] at hrun HRR hcap
  clear hread HR hys hz0 hz2 hi
  go_enter Try.func10, Try.ntmps10
  go_wp2_with (go_at_call 39; refine (may_any _ _).mono ?_; rintro e w' ⟨rfl, rfl⟩)
  go_loop [8, 39] (fun n i => ∃ k : Nat, k ≤ m ∧ i = .int .i64 k ∧ n = .int .u64 (num (ys.take k))) (fun _ i => m - (intOf i).toNat)
  case atStart => exact ⟨0, Nat.zero_le _, rfl, rfl⟩
  case round =>
    obtain ⟨k, hk, rfl, rfl⟩ := hrel
    by_cases hlt : k < m
    · obtain ⟨b, off, rfl, hcell⟩ := reads_at HRR.out (by omega)
      have hck := hcell k hlt
      have hx := getD_bytes hyb k
      have hn := num_bd _ (bytes_take hyb k)
      have hn1 := num_lt (bytes_take hyb k) (k := k) (by simp; omega) (by omega)
      have hsn : num (ys.take (k + 1)) = num (ys.take k) * 256 + ys.getD k 0 := by rw [take_getD ys k (by omega), num_snoc]
      have hor := or_byte hn.1 hn1 hx.1 hx.2
      have HS := Lib.hid hsn
      clear hcell hsn
      generalize num (ys.take k) = v at *
      generalize ys.getD k 0 = x at *
      go_wp2
      go_round
      case rel => exact ⟨k + 1, by omega, by go_num, by rw [HS.out]⟩
      case measure => simp [intOf]; omega
    · go_wp2
      obtain rfl : k = m := by omega
      have ht : ys.take k = ys := List.take_of_length_le (by omega)
      rw [ht]
      go_ret2
      exact ⟨rfl, rfl⟩

theorem get_bad (A : Option Addr) (c : Nat) (l : List Int) (a m : Int) (w : World) (hmax : l.length ≤ 9223372036854775807) (h : okG l.length a m = false) :
    Calls Try.prog 10 #[.slice A l.length c, .int .i64 a, .int .i64 m] w fun e w' => e = .returned (.tuple #[.int .u64 0, .bool false]) ∧ w = w' := by
  have h := of_decide_eq_false h
  by_cases g1 : 1 ≤ m ∧ m ≤ 8
  · have hd : decide (1 ≤ m ∧ m ≤ 8) = true := decide_eq_true g1
    obtain ⟨g1, g2⟩ := g1
    by_cases g3 : 0 ≤ a
    · by_cases g4 : a ≤ (l.length : Int)
      · have g5 : (l.length : Int) - a < m := by omega
        clear h
        go_enter Try.func10, Try.ntmps10
        go_wp2_with (go_at_call 39; refine (may_any _ _).mono ?_; rintro e w' ⟨rfl, rfl⟩)
        go_ret2
        exact ⟨rfl, rfl⟩
      · have g5 : (l.length : Int) < a := by omega
        clear h g4
        go_enter Try.func10, Try.ntmps10
        go_wp2_with (go_at_call 39; refine (may_any _ _).mono ?_; rintro e w' ⟨rfl, rfl⟩)
        go_ret2
        exact ⟨rfl, rfl⟩
    · have g5 : a < 0 := by omega
      clear h g3
      go_enter Try.func10, Try.ntmps10
      go_wp2_with (go_at_call 39; refine (may_any _ _).mono ?_; rintro e w' ⟨rfl, rfl⟩)
      go_ret2
      exact ⟨rfl, rfl⟩
  · have hd : decide (1 ≤ m ∧ m ≤ 8) = false := decide_eq_false g1
    clear h g1
    go_enter Try.func10, Try.ntmps10
    go_wp2_with (go_at_call 39; refine (may_any _ _).mono ?_; rintro e w' ⟨rfl, rfl⟩)
    go_ret2
    exact ⟨rfl, rfl⟩

theorem okG_true {n : Nat} {a m : Int} (h : okG n a m = true) : ∃ a' m' : Nat, a = a' ∧ m = m' ∧ 1 ≤ m' ∧ m' ≤ 8 ∧ a' + m' ≤ n := by
  have := of_decide_eq_true h
  exact ⟨a.toNat, m.toNat, by omega, by omega, by omega, by omega, by omega⟩
theorem get_any (A : Option Addr) (c : Nat) (l : List Int) (a m : Int) (w : World) (HR : ReadsInt w .u8 A l.length l) (hc : l.length ≤ c) (hB : Bytes l) :
    Calls Try.prog 10 #[.slice A l.length c, .int .i64 a, .int .i64 m] w fun e w' => e = .returned (.tuple #[.int .u64 (getV l a m), .bool (okG l.length a m)]) ∧ w = w' := by
  unfold getV
  cases h : okG l.length a m with
  | false => exact get_bad A c l a m w HR.2.1 h
  | true =>
    obtain ⟨a, m, rfl, rfl, h1, h8, hm⟩ := okG_true h
    simp only [if_true, Int.toNat_natCast]
    exact get_good A c l a m w HR hc hB h1 h8 hm

theorem refGet_good (A : Option Addr) (c : Nat) (l : List Int) (a m : Nat) (w : World) (HR : ReadsInt w .u8 A l.length l) (hc : l.length ≤ c) (hB : Bytes l) (h1 : 1 ≤ m) (h8 : m ≤ 8) (ha : a + m ≤ l.length) :
    Calls Try.prog 11 #[.slice A l.length c, .int .i64 (a : Int), .int .i64 (m : Int)] w fun e w' => e = .returned (.tuple #[.int .u64 (num ((l.drop a).take m)), .bool true]) ∧ w = w' := by
  have hmax : l.length ≤ 9223372036854775807 := HR.2.1
  have hyl : ((l.drop a).take m).length = m := by simp; omega
  have hyb : Bytes ((l.drop a).take m) := bytes_take (bytes_drop hB a) m
  have hyg : ∀ k, k < m → l.getD (a + k) 0 = ((l.drop a).take m).getD k 0 := fun k hk => by
    rw [List.getD_eq_getElem?_getD, List.getD_eq_getElem?_getD, List.getElem?_take_of_lt hk, List.getElem?_drop]
  generalize (l.drop a).take m = ys at *
  have HRR := Lib.hid HR
  have HG := Lib.hid hyg
  clear HR hyg
  go_enter Try.func11, Try.ntmps11
  go_wp2
  go_loop [8, 9] (fun n i => ∃ k : Nat, k ≤ m ∧ i = .int .i64 k ∧ n = .int .u64 (num (ys.take k))) (fun _ i => m - (intOf i).toNat)
  case atStart => exact ⟨0, Nat.zero_le _, rfl, rfl⟩
  case round =>
    obtain ⟨k, hk, rfl, rfl⟩ := hrel
    by_cases hlt : k < m
    · obtain ⟨b, off, rfl, hcell⟩ := reads_at HRR.out (by omega)
      have hck := hcell (a + k) (by omega)
      rw [HG.out k hlt] at hck
      have hx := getD_bytes hyb k
      have hn := num_bd _ (bytes_take hyb k)
      have hn1 := num_lt (bytes_take hyb k) (k := k) (by simp; omega) (by omega)
      have hsn : num (ys.take (k + 1)) = num (ys.take k) * 256 + ys.getD k 0 := by rw [take_getD ys k (by omega), num_snoc]
      have HS := Lib.hid hsn
      clear hcell hsn
      generalize num (ys.take k) = v at *
      generalize ys.getD k 0 = x at *
      go_wp2
      go_round
      case rel => exact ⟨k + 1, by omega, by go_num, by rw [HS.out]⟩
      case measure => simp [intOf]; omega
    · go_wp2
      obtain rfl : k = m := by omega
      have ht : ys.take k = ys := List.take_of_length_le (by omega)
      rw [ht]
      go_ret2
      exact ⟨rfl, rfl⟩

theorem refGet_bad (A : Option Addr) (c : Nat) (l : List Int) (a m : Int) (w : World) (hmax : l.length ≤ 9223372036854775807) (h : okG l.length a m = false) :
    Calls Try.prog 11 #[.slice A l.length c, .int .i64 a, .int .i64 m] w fun e w' => e = .returned (.tuple #[.int .u64 0, .bool false]) ∧ w = w' := by
  have h := of_decide_eq_false h
  by_cases g1 : 1 ≤ m
  · by_cases g2 : m ≤ 8
    · by_cases g3 : 0 ≤ a
      · by_cases g4 : a ≤ (l.length : Int)
        · have g5 : (l.length : Int) - a < m := by omega
          clear h
          go_enter Try.func11, Try.ntmps11
          go_wp2
          go_ret2
          exact ⟨rfl, rfl⟩
        · have g5 : (l.length : Int) < a := by omega
          clear h g4
          go_enter Try.func11, Try.ntmps11
          go_wp2
          go_ret2
          exact ⟨rfl, rfl⟩
      · have g5 : a < 0 := by omega
        clear h g3
        go_enter Try.func11, Try.ntmps11
        go_wp2
        go_ret2
        exact ⟨rfl, rfl⟩
    · have g5 : 8 < m := by omega
      clear h g2
      go_enter Try.func11, Try.ntmps11
      go_wp2
      go_ret2
      exact ⟨rfl, rfl⟩
  · have g5 : m < 1 := by omega
    clear h g1
    go_enter Try.func11, Try.ntmps11
    go_wp2
    go_ret2
    exact ⟨rfl, rfl⟩
theorem refGet_any (A : Option Addr) (c : Nat) (l : List Int) (a m : Int) (w : World) (HR : ReadsInt w .u8 A l.length l) (hc : l.length ≤ c) (hB : Bytes l) :
    Calls Try.prog 11 #[.slice A l.length c, .int .i64 a, .int .i64 m] w fun e w' => e = .returned (.tuple #[.int .u64 (getV l a m), .bool (okG l.length a m)]) ∧ w = w' := by
  unfold getV
  cases h : okG l.length a m with
  | false => exact refGet_bad A c l a m w HR.2.1 h
  | true =>
    obtain ⟨a, m, rfl, rfl, h1, h8, hm⟩ := okG_true h
    simp only [if_true, Int.toNat_natCast]
    exact refGet_good A c l a m w HR hc hB h1 h8 hm
end Go.Proofs.Ytnkbbmfhdabbkaa
