/-
  signpost's HeaderAnswers: for every input the law returns true. No condition.
-/
import Derived.Test.YtnkbbmfhdabbkaaRows
import Derived.WalkKit
import Derived.ProofKit
import Derived.OpenShut
import Derived.ShutString
import Derived.ChangeOld
import Derived.Below
import Derived.Test.YtnkbbmfhdabbkaaHdrB
import Derived.Test.YtnkbbmfhdabbkaaAgg
import Derived.Deep.DrawnRows
import Derived.Deep.RegionHeld3
namespace Go.Proofs.Ytnkbbmfhdabbkaa.headerAnswers
open Go.ChangeShapes Go.WideShapes Go.ChangeAt Go.RowKit
open Go.ChangeMaps (open_string shut_string)
open Go.Proofs.YtnkbbmfhdabbkaaW.PrintWords
set_option linter.unusedSimpArgs false
set_option linter.unusedVariables false

theorem own : ownKnob Try.prog.godebug = none := by kernel_rfl
theorem laidOut : laidOutB Try.prog = true := by kernel_rfl

theorem flags_bd (f c : Int) (cut : Bool) (f0 : 0 ≤ f) (f1 : f ≤ 65535) (c0 : 0 ≤ c) (c1 : c < 16) : 0 ≤ flagsOf f c cut ∧ flagsOf f c cut ≤ 65535 := by
  unfold flagsOf; cases cut <;> simp <;> omega
theorem flags_tell (f c : Int) (cut : Bool) (f0 : 0 ≤ f) (f1 : f ≤ 65535) (c0 : 0 ≤ c) (c1 : c < 16) :
    bitB (flagsOf f c cut) 32768 = true ∧ flagsOf f c cut / 2048 % 16 = f / 2048 % 16 ∧ bitB (flagsOf f c cut) 256 = bitB f 256 ∧ bitB (flagsOf f c cut) 512 = cut ∧ flagsOf f c cut % 16 = c := by
  unfold bitB flagsOf
  cases cut
  · simp only [Bool.false_eq_true, if_false]
    refine ⟨by rw [beq_iff_eq]; omega, by omega, ?_, by rw [beq_eq_false_iff_ne]; omega, by omega⟩
    rw [show (33792 + f / 2048 % 16 * 2048 + f / 256 % 2 * 256 + c + 0) / 256 % 2 = f / 256 % 2 from by omega]
  · simp only [if_true]
    refine ⟨by rw [beq_iff_eq]; omega, by omega, ?_, by rw [beq_iff_eq]; omega, by omega⟩
    rw [show (33792 + f / 2048 % 16 * 2048 + f / 256 % 2 * 256 + c + 512) / 256 % 2 = f / 256 % 2 from by omega]

set_option maxHeartbeats 4000000 in
theorem walk_ (a f q n u d code ans : Int) (cut : Bool) (w : World) (f0 : 0 ≤ f) (f1 : f ≤ 65535) (q0 : 0 ≤ q) (r0 : -9223372036854775808 ≤ ans) (r1 : ans ≤ 9223372036854775807) :
    Calls Try.prog 4 #[.agg #[.int .u16 a, .int .u16 f, .int .u16 q, .int .u16 n, .int .u16 u, .int .u16 d], .int .i64 code, .int .i64 ans, .bool cut] w fun e w' => e = .returned (.bool true) ∧ Below w.heap.size w w' := by
  have c0 : 0 ≤ code % 16 := by omega
  have c1 : code % 16 < 16 := by omega
  obtain ⟨g0, g1⟩ := flags_bd f (code % 16) cut f0 f1 c0 c1
  obtain ⟨t1, t2, t3, t4, t5⟩ := flags_tell f (code % 16) cut f0 f1 c0 c1
  have e15 := i64_and15 code
  have l1 : least1 q ≤ 1 := by unfold least1; split <;> omega
  have m0 : 0 ≤ clamp ans := by unfold clamp; split <;> (try split) <;> omega
  have m1 : clamp ans ≤ 65535 := by unfold clamp; split <;> (try split) <;> omega
  have HM := Lib.hid (fun w => make_any a f q n u d code ans cut w f0 f1)
  obtain ⟨M, hm1⟩ : ∃ M, (if (65535 : Int) < ans then (65535 : Int) else ans) = M := ⟨_, rfl⟩
  have hm2 : (if (0 : Int) < M then M else (0 : Int)) = clamp ans := by
    rw [← hm1]; unfold clamp
    by_cases h1 : (65535 : Int) < ans
    · rw [if_pos h1, if_pos (by decide), if_neg (by omega), if_neg (by omega)]
    · rw [if_neg h1]
      by_cases h2 : (0 : Int) < ans
      · rw [if_pos h2, if_neg (by omega)]
        by_cases h3 : ans < 65535
        · rw [if_pos h3]
        · rw [if_neg h3]; omega
      · rw [if_neg h2]
        by_cases h3 : ans < 0
        · rw [if_pos h3]
        · rw [if_neg h3, if_pos (by omega)]; omega
  generalize hF : flagsOf f (code % 16) cut = F at *
  generalize hC : clamp ans = C at *
  generalize least1 q = L at *
  clear hF hC
  have hwC : IntKind.i64.wrap C = C := IntWalk.i64_in _ (by omega)
  have hc0 : ∀ j v, (#[.int .u16 a, .int .u16 f, .int .u16 q, .int .u16 n, .int .u16 u, .int .u16 d] : Array Value)[j]? = some v → (w.alloc (.cells #[.int .u16 a, .int .u16 f, .int .u16 q, .int .u16 n, .int .u16 u, .int .u16 d] 36)).cell? ⟨w.heap.size, j, none⟩ = some v := fun j v h => by simpa using h
  have HC0 := Lib.hid hc0
  have HG := Lib.hid ((Below.refl w.heap.size w).alloc (Nat.le_refl _) (.cells #[.int .u16 a, .int .u16 f, .int .u16 q, .int .u16 n, .int .u16 u, .int .u16 d] 36))
  clear hc0
  go_enter Try.func4, Try.ntmps4
  go_wp2_with fail
  refine (HM.out _).mono ?_
  rintro e w1 ⟨rfl, hb⟩
  go_wp2_with fail
  have hbW : Below w1.heap.size w1 (w1.alloc (.cells #[.int .u16 a, .int .u16 F, .int .u16 L, .int .u16 C, .int .u16 0, .int .u16 0] 36)) := (Below.refl _ _).alloc (Nat.le_refl _) _
  have h0 := cell_later hbW (cell_later hb (HC0.out 0 _ rfl))
  have h1 := cell_later hbW (cell_later hb (HC0.out 1 _ rfl))
  have h2 := cell_later hbW (cell_later hb (HC0.out 2 _ rfl))
  have h3 := cell_later hbW (cell_later hb (HC0.out 3 _ rfl))
  have h4 := cell_later hbW (cell_later hb (HC0.out 4 _ rfl))
  have h5 := cell_later hbW (cell_later hb (HC0.out 5 _ rfl))
  have k0 : (w1.alloc (.cells #[.int .u16 a, .int .u16 F, .int .u16 L, .int .u16 C, .int .u16 0, .int .u16 0] 36)).cell? ⟨w1.heap.size, 0, none⟩ = some (.int .u16 a) := by simp
  have k1 : (w1.alloc (.cells #[.int .u16 a, .int .u16 F, .int .u16 L, .int .u16 C, .int .u16 0, .int .u16 0] 36)).cell? ⟨w1.heap.size, 1, none⟩ = some (.int .u16 F) := by simp
  have k2 : (w1.alloc (.cells #[.int .u16 a, .int .u16 F, .int .u16 L, .int .u16 C, .int .u16 0, .int .u16 0] 36)).cell? ⟨w1.heap.size, 2, none⟩ = some (.int .u16 L) := by simp
  have k3 : (w1.alloc (.cells #[.int .u16 a, .int .u16 F, .int .u16 L, .int .u16 C, .int .u16 0, .int .u16 0] 36)).cell? ⟨w1.heap.size, 3, none⟩ = some (.int .u16 C) := by simp
  have k4 : (w1.alloc (.cells #[.int .u16 a, .int .u16 F, .int .u16 L, .int .u16 C, .int .u16 0, .int .u16 0] 36)).cell? ⟨w1.heap.size, 4, none⟩ = some (.int .u16 0) := by simp
  have k5 : (w1.alloc (.cells #[.int .u16 a, .int .u16 F, .int .u16 L, .int .u16 C, .int .u16 0, .int .u16 0] 36)).cell? ⟨w1.heap.size, 5, none⟩ = some (.int .u16 0) := by simp
  have hg : Below w.heap.size w (w1.alloc (.cells #[.int .u16 a, .int .u16 F, .int .u16 L, .int .u16 C, .int .u16 0, .int .u16 0] 36)) := (HG.out.trans (hb.mono (by simp))).trans (hbW.mono (by have := hb.size; simp at this; omega))
  clear hbW hb
  go_region_held3 (fun w' => w'.cell? ⟨w.heap.size, 0, none⟩ = some (.int .u16 a) ∧ w'.cell? ⟨w.heap.size, 1, none⟩ = some (.int .u16 f) ∧ w'.cell? ⟨w.heap.size, 2, none⟩ = some (.int .u16 q) ∧ w'.cell? ⟨w.heap.size, 3, none⟩ = some (.int .u16 n) ∧ w'.cell? ⟨w.heap.size, 4, none⟩ = some (.int .u16 u) ∧ w'.cell? ⟨w.heap.size, 5, none⟩ = some (.int .u16 d) ∧ w'.cell? ⟨w1.heap.size, 0, none⟩ = some (.int .u16 a) ∧ w'.cell? ⟨w1.heap.size, 1, none⟩ = some (.int .u16 F) ∧ w'.cell? ⟨w1.heap.size, 2, none⟩ = some (.int .u16 L) ∧ w'.cell? ⟨w1.heap.size, 3, none⟩ = some (.int .u16 C) ∧ w'.cell? ⟨w1.heap.size, 4, none⟩ = some (.int .u16 0) ∧ w'.cell? ⟨w1.heap.size, 5, none⟩ = some (.int .u16 0) ∧ Below w.heap.size w w') ((go_split_ands; refine ⟨?_, ?_, ?_, ?_, ?_, ?_, ?_, ?_, ?_, ?_, ?_, ?_, ?_⟩ <;> first | assumption | exact below_drew (by assumption) | exact cell_later ‹_› ‹_› | exact Below.trans ‹Below w.heap.size w _› (Below.mono ‹_› (Below.size ‹Below w.heap.size w _›)))) (first | (go_at_call 17; refine (answer_any _ _ _ _ _ _ _ (by omega) (by omega)).mono ?_; rintro e w2 ⟨rfl, hb2⟩) | (go_at_call 18; refine (opcode_any _ _ _ _ _ _ _ (by omega) (by omega)).mono ?_; rintro e w2 ⟨rfl, hb2⟩) | (go_at_call 19; refine (recur_any _ _ _ _ _ _ _ (by omega) (by omega)).mono ?_; rintro e w2 ⟨rfl, hb2⟩) | (go_at_call 20; refine (cut_any _ _ _ _ _ _ _ (by omega) (by omega)).mono ?_; rintro e w2 ⟨rfl, hb2⟩) | (go_at_call 21; refine (code_any _ _ _ _ _ _ _ (by omega) (by omega)).mono ?_; rintro e w2 ⟨rfl, hb2⟩) | (go_at_call 22; refine (hdr_lives _).mono ?_; rintro e w2 ⟨rfl, hb2⟩))
  go_wp2
  go_ret
  go_split_ands
  exact ⟨rfl, by assumption⟩

theorem walk (a f q n u d : Int) (a1 a2 : Int) (a3 : Bool) (w : World) (wa : (Lit.int .u16 a).wf = true) (wf : (Lit.int .u16 f).wf = true) (wq : (Lit.int .u16 q).wf = true) (w1 : (Lit.int .i64 a1).wf = true) (w2 : (Lit.int .i64 a2).wf = true) :
    Calls Try.prog 4 #[.agg #[.int .u16 a, .int .u16 f, .int .u16 q, .int .u16 n, .int .u16 u, .int .u16 d], .int .i64 a1, .int .i64 a2, .bool a3] w fun e w' => e = .returned (.bool true) ∧ Below w.heap.size w w' := by
  obtain ⟨f0, f1⟩ := bounds_u16 wf
  obtain ⟨q0, q1⟩ := bounds_u16 wq
  obtain ⟨r0, r1⟩ := bounds_i64 w2
  exact walk_ a f q n u d a1 a2 a3 w f0 f1 q0 r0 r1

set_option maxRecDepth 100000 in
theorem lifted (os : Os) (started : os.Started) (H : Type) (enc : TypeId × Value → H) :
    ReturnsInHanded {} Try.checked os 4 .any (Rows.headerAnswersSpec.pre6 enc Try.prog Try.f4 Rows.headerAnswersRow.domain false) (Rows.headerAnswersSpec.post enc Try.prog Try.f4 false true false false) := by
  refine returnsInHanded_of_change (C := Try.checked) own started (by kernel_rfl) Try.func4
    (ChangeSpec.witness6 (enc := enc) (C := Try.checked) false ⟨#[], #[.agg #[.int .u16 0, .int .u16 0, .int .u16 0, .int .u16 0, .int .u16 0, .int .u16 0], .int .i64 0, .int .i64 0, .bool false], []⟩ 8 (by kernel_rfl) (by kernel_rfl) (by kernel_rfl) (by kernel_rfl)) ?_
  intro W base args ds gs before hval0 hW hcnd _
  have hval : ∀ (j : Nat) t v, Try.f4.params[j]? = some t → args[j]? = some v → Value.okWide Try.prog W .any base t v := hval0
  have hW' := hW
  obtain ⟨p, q, hA0, hV, rfl, hfz, hnd⟩ := hW
  have hA : DataW.TrodAll enc Try.prog W 0 (fun _ => true) true Try.f4.params.toList args.toList ds p := hA0
  rw [Try.params4] at hA hval
  obtain ⟨v0, vs0, d0, ds0, p0, q0, hargs, rfl, rfl, h0, r0⟩ := trodAll_cons hA
  obtain ⟨v1, vs1, d1, ds1, p1, q1, rfl, rfl, rfl, h1, r1⟩ := trodAll_cons r0
  obtain ⟨v2, vs2, d2, ds2, p2, q2, rfl, rfl, rfl, h2, r2⟩ := trodAll_cons r1
  obtain ⟨v3, vs3, d3, ds3, p3, q3, rfl, rfl, rfl, h3, r3⟩ := trodAll_cons r2
  obtain ⟨rfl, rfl, rfl⟩ := trodAll_nil r3
  obtain rfl : args = #[v0, v1, v2, v3] := by cases args; simp_all
  obtain ⟨rfl, rfl⟩ := trodVars_none hV
  have k0 := h0
  have lt0 : ∀ x ∈ p0, x.block < W.heap.size := by obtain ⟨m, hm⟩ := k0; exact DataW.trod_lt m _ _ _ hm
  have k1 := h1
  have lt1 : ∀ x ∈ p1, x.block < W.heap.size := by obtain ⟨m, hm⟩ := k1; exact DataW.trod_lt m _ _ _ hm
  have k2 := h2
  have lt2 : ∀ x ∈ p2, x.block < W.heap.size := by obtain ⟨m, hm⟩ := k2; exact DataW.trod_lt m _ _ _ hm
  have k3 := h3
  have lt3 : ∀ x ∈ p3, x.block < W.heap.size := by obtain ⟨m, hm⟩ := k3; exact DataW.trod_lt m _ _ _ hm
  obtain ⟨a0, f0, q0, n0, u0, e0, rfl, wa0, wf0, wq0, wn0, wu0, we0⟩ := open_hdr (hval 0 36 v0 rfl rfl) h0
  obtain ⟨a1, rfl, rfl, rfl, w1⟩ := open_int Try.underlying3 (hval 1 3 v1 rfl rfl) h1
  obtain ⟨a2, rfl, rfl, rfl, w2⟩ := open_int Try.underlying3 (hval 2 3 v2 rfl rfl) h2
  obtain ⟨a3, rfl, rfl, rfl⟩ := open_bool Try.underlying4 (hval 3 4 v3 rfl rfl) h3
  clear hA0 hval0
  refine (walk a0 f0 q0 n0 u0 e0 a1 a2 a3 W wa0 wf0 wq0 w1 w2).mono fun e W' ⟨he, bel⟩ => ?_
  subst he
  exact ⟨_, rfl, _, _, _, [], _, [], hW', trodAll_mk1 (shut_bool Try.underlying4 _), (trodAll_cons_mk (Below.trod laidOut (by kernel_rfl) (of_decide_eq_true (by kernel_rfl)) k0 bel lt0) (trodAll_cons_mk (Below.trod laidOut (by kernel_rfl) (of_decide_eq_true (by kernel_rfl)) k1 bel lt1) (trodAll_cons_mk (Below.trod laidOut (by kernel_rfl) (of_decide_eq_true (by kernel_rfl)) k2 bel lt2) (trodAll_cons_mk (Below.trod laidOut (by kernel_rfl) (of_decide_eq_true (by kernel_rfl)) k3 bel lt3) trodAll_mk0)))), rfl, bel.frame _, fun h => by cases h⟩

theorem over : Rows.headerAnswersRow.holds Try.pinned (OpenSpec.ofChange Rows.headerAnswersSpec) :=
  OpenClaim.holds_of_wide 4 Try.f4 rfl rfl rfl rfl rfl rfl rfl ⟨rfl, rfl, rfl, rfl, rfl⟩ rfl rfl rfl rfl rfl (by kernel_rfl) Try.func4 (by kernel_rfl)
    (of_decide_eq_true (by kernel_rfl)) (by unfold Func.isWrapper; first | (rw [if_pos (by decide +kernel)]; kernel_rfl) | (rw [if_neg (by decide +kernel)]; exact ⟨rfl, rfl⟩))
    (fun os started H enc _ => lifted os started H enc)

/-- THE STATEMENT. -/
theorem proved : Rows.HeaderAnswersSaid := over
#print axioms proved
end Go.Proofs.Ytnkbbmfhdabbkaa.headerAnswers
