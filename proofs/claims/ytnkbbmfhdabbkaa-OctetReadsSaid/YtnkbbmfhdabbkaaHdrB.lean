/-
  header.Bytes, and the chapter's example.
-/
import Derived.Test.YtnkbbmfhdabbkaaHdr
namespace Go.Proofs.Ytnkbbmfhdabbkaa
open Go.RowKit Go.Proofs.YtnkbbmfhdabbkaaW.PrintWords
set_option linter.unusedVariables false
set_option linter.unusedSimpArgs false

def hdrL (a f q n u d : Int) : List Int := be a 2 ++ be f 2 ++ be q 2 ++ be n 2 ++ be u 2 ++ be d 2
set_option maxHeartbeats 2000000 in
theorem hdr_bytes (a f q n u d : Int) (w : World) (a0 : 0 ≤ a) (a1 : a ≤ 65535) (f0 : 0 ≤ f) (f1 : f ≤ 65535) (q0 : 0 ≤ q) (q1 : q ≤ 65535) (n0 : 0 ≤ n) (n1 : n ≤ 65535) (u0 : 0 ≤ u) (u1 : u ≤ 65535) (d0 : 0 ≤ d) (d1 : d ≤ 65535) :
    Calls Try.prog 24 #[.agg #[.int .u16 a, .int .u16 f, .int .u16 q, .int .u16 n, .int .u16 u, .int .u16 d]] w (OwnB (hdrL a f q n u d) w) := by
  have i0 : ∀ w, (Instr.index 75 (.agg #[.int .u16 a, .int .u16 f, .int .u16 q, .int .u16 n, .int .u16 u, .int .u16 d]) (.int .i64 0)).run Try.prog w = .ok (.int .u16 a) w := fun _ => by kernel_rfl
  have i1 : ∀ w, (Instr.index 75 (.agg #[.int .u16 a, .int .u16 f, .int .u16 q, .int .u16 n, .int .u16 u, .int .u16 d]) (.int .i64 1)).run Try.prog w = .ok (.int .u16 f) w := fun _ => by kernel_rfl
  have i2 : ∀ w, (Instr.index 75 (.agg #[.int .u16 a, .int .u16 f, .int .u16 q, .int .u16 n, .int .u16 u, .int .u16 d]) (.int .i64 2)).run Try.prog w = .ok (.int .u16 q) w := fun _ => by kernel_rfl
  have i3 : ∀ w, (Instr.index 75 (.agg #[.int .u16 a, .int .u16 f, .int .u16 q, .int .u16 n, .int .u16 u, .int .u16 d]) (.int .i64 3)).run Try.prog w = .ok (.int .u16 n) w := fun _ => by kernel_rfl
  have i4 : ∀ w, (Instr.index 75 (.agg #[.int .u16 a, .int .u16 f, .int .u16 q, .int .u16 n, .int .u16 u, .int .u16 d]) (.int .i64 4)).run Try.prog w = .ok (.int .u16 u) w := fun _ => by kernel_rfl
  have i5 : ∀ w, (Instr.index 75 (.agg #[.int .u16 a, .int .u16 f, .int .u16 q, .int .u16 n, .int .u16 u, .int .u16 d]) (.int .i64 5)).run Try.prog w = .ok (.int .u16 d) w := fun _ => by kernel_rfl
  have hO : OutAt ((w.alloc (.cells #[.int .u16 a, .int .u16 f, .int .u16 q, .int .u16 n, .int .u16 u, .int .u16 d] 36)).alloc (.cells #[.slice none 0 0] 22)) (w.heap.size + 1) [] :=
    ⟨.slice none 0 0, by simp, by simp, own_nil _ _ _ _, by simp⟩
  have hB : Below w.heap.size w ((w.alloc (.cells #[.int .u16 a, .int .u16 f, .int .u16 q, .int .u16 n, .int .u16 u, .int .u16 d] 36)).alloc (.cells #[.slice none 0 0] 22)) := by go_grown
  have HO := Lib.hid hO
  have HB := Lib.hid hB
  clear hO hB
  go_enter Try.func24, Try.ntmps24
  go_wp2
  refine wp_loop_rounds 7 ?_
  rw [rounds_succ]
  go_wp2_with fail
  refine (put2_any _ _ _ _ HO.out (by omega) (by omega) (by simp [be_length])).mono ?_
  rintro e w1 ⟨⟨r1, rfl⟩, hO1, hB1⟩
  have HO1 := Lib.hid hO1
  have HB1 := Lib.hid (HB.out.trans (hB1.mono (by omega)))
  clear hO1 hB1
  go_wp2
  rw [rounds_succ]
  go_wp2_with fail
  refine (put2_any _ _ _ _ HO1.out (by omega) (by omega) (by simp [be_length])).mono ?_
  rintro e w2 ⟨⟨r2, rfl⟩, hO2, hB2⟩
  have HO2 := Lib.hid hO2
  have HB2 := Lib.hid (HB1.out.trans (hB2.mono (by omega)))
  clear hO2 hB2
  go_wp2
  rw [rounds_succ]
  go_wp2_with fail
  refine (put2_any _ _ _ _ HO2.out (by omega) (by omega) (by simp [be_length])).mono ?_
  rintro e w3 ⟨⟨r3, rfl⟩, hO3, hB3⟩
  have HO3 := Lib.hid hO3
  have HB3 := Lib.hid (HB2.out.trans (hB3.mono (by omega)))
  clear hO3 hB3
  go_wp2
  rw [rounds_succ]
  go_wp2_with fail
  refine (put2_any _ _ _ _ HO3.out (by omega) (by omega) (by simp [be_length])).mono ?_
  rintro e w4 ⟨⟨r4, rfl⟩, hO4, hB4⟩
  have HO4 := Lib.hid hO4
  have HB4 := Lib.hid (HB3.out.trans (hB4.mono (by omega)))
  clear hO4 hB4
  go_wp2
  rw [rounds_succ]
  go_wp2_with fail
  refine (put2_any _ _ _ _ HO4.out (by omega) (by omega) (by simp [be_length])).mono ?_
  rintro e w5 ⟨⟨r5, rfl⟩, hO5, hB5⟩
  have HO5 := Lib.hid hO5
  have HB5 := Lib.hid (HB4.out.trans (hB5.mono (by omega)))
  clear hO5 hB5
  go_wp2
  rw [rounds_succ]
  go_wp2_with fail
  refine (put2_any _ _ _ _ HO5.out (by omega) (by omega) (by simp [be_length])).mono ?_
  rintro e w6 ⟨⟨r6, rfl⟩, hO6, hB6⟩
  have HO6 := Lib.hid hO6
  have HB6 := Lib.hid (HB5.out.trans (hB6.mono (by omega)))
  clear hO6 hB6
  obtain ⟨v, hc, hf, ho, hlt⟩ := HO6.out
  obtain ⟨A, c, m, rfl⟩ : ∃ A c m, v = .slice A m c := by
    obtain ⟨A, c, h⟩ := own_slice ho
    exact ⟨A, c, _, h⟩
  have HO7 := Lib.hid ho
  clear ho
  go_wp2
  rw [rounds_succ]
  go_wp2
  have hs : (w6.setCell ⟨w.heap.size + 1, 0, none⟩ (.slice A m c)).cell? ⟨w.heap.size + 1, 0, none⟩ = some (.slice A m c) := set_same hc
  refine bodyPost_ret (v := .slice A m c) (by simp [results, Try.results24, go_sem, hs]) rfl ?_
  refine ⟨_, rfl, ?_, HB6.out.setCell (by simp) _⟩
  have ho := own_setCell (p := ⟨w.heap.size + 1, 0, none⟩) (own_less HO7.out (by omega : w.heap.size ≤ w.heap.size + 1 + 1)) (fun e => ?_) (.slice A m c)
  · simpa [hdrL] using ho
  · have := own_base HO7.out (w.heap.size + 1) e.symm
    omega

theorem hdrL_length (a f q n u d : Int) : (hdrL a f q n u d).length = 12 := by simp [hdrL, be_length]
theorem hdr_lives (w : World) : Calls Try.prog 22 #[] w fun e w' => e = .returned (.bool true) ∧ Below w.heap.size w w' := by
  have c1 : strOfNums (hdrL 7 0 1 0 0 0) = ⟨#[0, 7, 0, 0, 0, 1, 0, 0, 0, 0, 0, 0]⟩ := by decide +kernel
  have c2 : bitB 32768 32768 = true := by decide
  have C1 := Lib.hid c1
  clear c1
  go_enter Try.func22, Try.ntmps22
  go_wp2_with fail
  refine (hdr_bytes 7 0 1 0 0 0 _ (by omega) (by omega) (by omega) (by omega) (by omega) (by omega) (by omega) (by omega) (by omega) (by omega) (by omega) (by omega)).mono ?_
  rintro e w1 ⟨v1, rfl, ho1, hb1⟩
  have s1 := str_own ho1
  rw [C1.out] at s1
  have HB := Lib.hid hb1
  clear ho1 hb1
  go_wp2_with fail
  refine (answer_any _ _ _ _ _ _ _ (by omega) (by omega)).mono ?_
  rintro e w2 ⟨rfl, hb2⟩
  have HB2 := Lib.hid (HB.out.trans (hb2.mono HB.out.size))
  clear hb2
  go_wp2
  go_ret
  exact ⟨ret_bool c2, HB2.out⟩
end Go.Proofs.Ytnkbbmfhdabbkaa
