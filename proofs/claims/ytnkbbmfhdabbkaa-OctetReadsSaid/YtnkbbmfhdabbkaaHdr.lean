/-
  The header's functions: what each answers, in plain numbers.
-/
import Derived.Test.YtnkbbmfhdabbkaaTxt
import Derived.Test.YtnkbbmfhdabbkaaBit
namespace Go.Proofs.Ytnkbbmfhdabbkaa
open Go.RowKit Go.Proofs.YtnkbbmfhdabbkaaW.PrintWords
set_option linter.unusedVariables false
set_option linter.unusedSimpArgs false

theorem ret_bool {a b : Bool} (h : a = b) : Ending.returned (.bool a) = .returned (.bool b) := by rw [h]
theorem set_any (a f q n u d m : Int) (w : World) :
    Calls Try.prog 40 #[.agg #[.int .u16 a, .int .u16 f, .int .u16 q, .int .u16 n, .int .u16 u, .int .u16 d], .int .u16 m] w fun e w' => e = .returned (.bool (Go.bits .and .u16 f m != 0)) ∧ Below w.heap.size w w' := by
  go_enter Try.func40, Try.ntmps40
  go_wp2
  go_ret
  exact ⟨rfl, by go_grown⟩
theorem answer_any (a f q n u d : Int) (w : World) (h0 : 0 ≤ f) (h1 : f ≤ 65535) :
    Calls Try.prog 17 #[.agg #[.int .u16 a, .int .u16 f, .int .u16 q, .int .u16 n, .int .u16 u, .int .u16 d]] w fun e w' => e = .returned (.bool (bitB f 32768)) ∧ Below w.heap.size w w' := by
  have hg : Below w.heap.size w (w.alloc (.cells #[.int .u16 a, .int .u16 f, .int .u16 q, .int .u16 n, .int .u16 u, .int .u16 d] 36)) := by go_grown
  go_enter Try.func17, Try.ntmps17
  go_wp2_with (go_at_call 40; go_loud (refine (based (set_any _ _ _ _ _ _ _ _) hg).mono ?_); rintro e w1 ⟨rfl, hg1⟩)
  go_ret
  exact ⟨ret_bool (and_bit f 15 32768 (by decide) (by decide) h0 h1), hg1⟩
theorem recur_any (a f q n u d : Int) (w : World) (h0 : 0 ≤ f) (h1 : f ≤ 65535) :
    Calls Try.prog 19 #[.agg #[.int .u16 a, .int .u16 f, .int .u16 q, .int .u16 n, .int .u16 u, .int .u16 d]] w fun e w' => e = .returned (.bool (bitB f 256)) ∧ Below w.heap.size w w' := by
  have hg : Below w.heap.size w (w.alloc (.cells #[.int .u16 a, .int .u16 f, .int .u16 q, .int .u16 n, .int .u16 u, .int .u16 d] 36)) := by go_grown
  go_enter Try.func19, Try.ntmps19
  go_wp2_with (go_at_call 40; go_loud (refine (based (set_any _ _ _ _ _ _ _ _) hg).mono ?_); rintro e w1 ⟨rfl, hg1⟩)
  go_ret
  exact ⟨ret_bool (and_bit f 8 256 (by decide) (by decide) h0 h1), hg1⟩
theorem cut_any (a f q n u d : Int) (w : World) (h0 : 0 ≤ f) (h1 : f ≤ 65535) :
    Calls Try.prog 20 #[.agg #[.int .u16 a, .int .u16 f, .int .u16 q, .int .u16 n, .int .u16 u, .int .u16 d]] w fun e w' => e = .returned (.bool (bitB f 512)) ∧ Below w.heap.size w w' := by
  have hg : Below w.heap.size w (w.alloc (.cells #[.int .u16 a, .int .u16 f, .int .u16 q, .int .u16 n, .int .u16 u, .int .u16 d] 36)) := by go_grown
  go_enter Try.func20, Try.ntmps20
  go_wp2_with (go_at_call 40; go_loud (refine (based (set_any _ _ _ _ _ _ _ _) hg).mono ?_); rintro e w1 ⟨rfl, hg1⟩)
  go_ret
  exact ⟨ret_bool (and_bit f 9 512 (by decide) (by decide) h0 h1), hg1⟩
theorem opcode_any (a f q n u d : Int) (w : World) (h0 : 0 ≤ f) (h1 : f ≤ 65535) :
    Calls Try.prog 18 #[.agg #[.int .u16 a, .int .u16 f, .int .u16 q, .int .u16 n, .int .u16 u, .int .u16 d]] w fun e w' => e = .returned (.int .i64 (f / 2048 % 16)) ∧ Below w.heap.size w w' := by
  have e1 := and_15 (f / 2048) (by omega) (by omega)
  go_enter Try.func18, Try.ntmps18
  go_wp2
  go_ret
  exact ⟨rfl, by go_grown⟩
theorem code_any (a f q n u d : Int) (w : World) (h0 : 0 ≤ f) (h1 : f ≤ 65535) :
    Calls Try.prog 21 #[.agg #[.int .u16 a, .int .u16 f, .int .u16 q, .int .u16 n, .int .u16 u, .int .u16 d]] w fun e w' => e = .returned (.int .i64 (f % 16)) ∧ Below w.heap.size w w' := by
  have e1 := and_15 f h0 h1
  go_enter Try.func21, Try.ntmps21
  go_wp2
  go_ret
  exact ⟨rfl, by go_grown⟩

theorem ret_hdr {a f f' q q' n n' u d : Int} (h1 : f = f') (h2 : q = q') (h3 : n = n') :
    Ending.returned (.agg #[.int .u16 a, .int .u16 f, .int .u16 q, .int .u16 n, .int .u16 u, .int .u16 d]) = .returned (.agg #[.int .u16 a, .int .u16 f', .int .u16 q', .int .u16 n', .int .u16 u, .int .u16 d]) := by
  rw [h1, h2, h3]
def least1 (q : Int) : Int := if q < 1 then q else 1
def clamp (n : Int) : Int := if n < 0 then 0 else if n < 65535 then n else 65535
set_option maxHeartbeats 1000000 in
theorem make_any (a f q n u d code ans : Int) (cut : Bool) (w : World) (h0 : 0 ≤ f) (h1 : f ≤ 65535) :
    Calls Try.prog 16 #[.agg #[.int .u16 a, .int .u16 f, .int .u16 q, .int .u16 n, .int .u16 u, .int .u16 d], .int .i64 code, .bool cut, .int .i64 ans] w
      fun e w' => e = .returned (.agg #[.int .u16 a, .int .u16 (flagsOf f (code % 16) cut), .int .u16 (least1 q), .int .u16 (clamp ans), .int .u16 0, .int .u16 0]) ∧ Below w.heap.size w w' := by
  have x0 : 0 ≤ f / 2048 % 16 := by omega
  have x1 : f / 2048 % 16 < 16 := by omega
  have y0 : 0 ≤ f / 256 % 2 := by omega
  have y1 : f / 256 % 2 < 2 := by omega
  have c0 : 0 ≤ code % 16 := by omega
  have c1 : code % 16 < 16 := by omega
  have e1 := and_30976 f h0 h1
  have e2 := or_1 _ _ x0 x1 y0 y1
  have e3 := i64_and15 code
  have e4 := or_2 _ _ _ x0 x1 y0 y1 c0 c1
  have e5 := or_3 _ _ _ x0 x1 y0 y1 c0 c1
  have hf : flagsOf f (code % 16) cut = 33792 + f / 2048 % 16 * 2048 + f / 256 % 2 * 256 + code % 16 + (if cut = true then 512 else 0) := rfl
  generalize f / 2048 % 16 = x at *
  generalize f / 256 % 2 = y at *
  generalize code % 16 = c at *
  rw [hf]
  clear hf
  cases cut with
  | true =>
    go_enter Try.func16, Try.ntmps16
    go_wp2
    all_goals (go_returns; exact ⟨ret_hdr rfl (by unfold least1; split <;> omega) (by unfold clamp; split <;> (try split) <;> omega), by go_grown⟩)
  | false =>
    go_enter Try.func16, Try.ntmps16
    go_wp2
    all_goals (go_returns; exact ⟨ret_hdr (by simp) (by unfold least1; split <;> omega) (by unfold clamp; split <;> (try split) <;> omega), by go_grown⟩)

theorem set_other {w : World} {a b : Addr} {u v : Value} (h : w.cell? b = some v) (hne : a ≠ b) : (w.setCell a u).cell? b = some v := (World.cell?_setCell_other _ _ _ _ hne).trans h
theorem set_same {w : World} {a : Addr} {u v : Value} (h : w.cell? a = some v) : (w.setCell a u).cell? a = some u := World.cell?_setCell_same _ _ _ h
/-- A captured slice of bytes: its cell, and the own row that it leads to. -/
def OutAt (W : World) (B : Nat) (l : List Int) : Prop :=
  ∃ v, W.cell? ⟨B, 0, none⟩ = some v ∧ W.frozen? ⟨B, 0, none⟩ = false ∧ W.ownsRow (B + 1) 5 1 v l.length (nums .u8 l) ∧ B < W.heap.size
def OutStep (B : Nat) (l : List Int) (w : World) (e : Ending) (w' : World) : Prop := (∃ r, e = .returned r) ∧ OutAt w' B l ∧ Below B w w'
theorem put2_any (B : Nat) (l : List Int) (n : Int) (w : World) (h : OutAt w B l) (h0 : 0 ≤ n) (h1 : n ≤ 65535) (hl : l.length ≤ 10000) :
    Calls Try.prog 42 #[.int .u16 n, .pointer (some ⟨B, 0, none⟩)] w (OutStep B (l ++ be n 2) w) := by
  obtain ⟨v, hc, hf, ho, hB⟩ := h
  obtain ⟨A, c, rfl, hr⟩ := own_reads ho
  have HR := Lib.hid hr
  have HO := Lib.hid ho
  clear hr ho
  go_enter Try.func42, Try.ntmps42
  go_wp2_with fail
  refine (put_any A c l n 2 _ HR.out (by omega) (by omega) (by omega)).mono ?_
  rintro e w1 ⟨v1, rfl, ho1, hb1⟩
  have hc1 := cell_later hb1 hc
  have hf1 : w1.frozen? ⟨B, 0, none⟩ = false := (hb1.frozen (p := ⟨B, 0, none⟩) hB).trans hf
  have hp : putL l n 2 = l ++ be n 2 := by simp [putL]
  rw [hp] at ho1
  obtain ⟨A1, c1, n1, rfl⟩ : ∃ A1 c1 n1, v1 = .slice A1 n1 c1 := by
    obtain ⟨A1, c1, h⟩ := own_slice ho1
    exact ⟨A1, c1, _, h⟩
  have HO1 := Lib.hid ho1
  have HB1 := Lib.hid hb1
  clear ho1 hb1 hp
  go_wp2
  go_end0
  refine ⟨⟨_, rfl⟩, ⟨.slice A1 n1 c1, set_same hc1, by rw [World.frozen?_setCell]; exact hf1, own_setCell (own_less HO1.out (by omega)) (fun e => ?_) _, by simp; exact Nat.lt_of_lt_of_le hB HB1.out.size⟩, (HB1.out.mono (Nat.le_of_lt hB)).setCell (Nat.le_refl _) _⟩
  have := own_base HO1.out B e.symm
  omega
end Go.Proofs.Ytnkbbmfhdabbkaa
