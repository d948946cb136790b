/-
  signpost's ClockEvery: for every input the law returns true. No condition.
-/
import Derived.Test.YtcgfednoolkhkaaRows
import Derived.WalkKit
import Derived.ProofKit
import Derived.OpenShut
import Derived.ShutString
import Derived.ChangeOld
import Derived.Below
import Derived.Test.YtcgfednoolkhkaaClk
namespace Go.Proofs.Ytcgfednoolkhkaa.clockEvery
open Go.ChangeShapes Go.WideShapes Go.ChangeAt Go.RowKit
open Go.ChangeMaps (open_string shut_string)
set_option linter.unusedVariables false

theorem own : ownKnob Try.prog.godebug = none := by kernel_rfl
theorem laidOut : laidOutB Try.prog = true := by kernel_rfl

theorem walk (a0 : Int) (a1 : Int) (a2 : Int) (w0 : (Lit.int .u64 a0).wf = true) (w1 : (Lit.int .u64 a1).wf = true) (w2 : (Lit.int .u64 a2).wf = true) (w : World) :
    Calls Try.prog 3 #[.int .u64 a0, .int .u64 a1, .int .u64 a2] w fun e w' => e = .returned (.bool true) ∧ Below w.heap.size w w' := by
  obtain ⟨g0, k0⟩ := bounds_u64 w0
  obtain ⟨g1, k1⟩ := bounds_u64 w1
  obtain ⟨g2, k2⟩ := bounds_u64 w2
  clear w0 w1 w2
  have hb := everyS_bd g0 g1 g2 k0 k1 k2
  have hc := based (every_any a0 a1 a2 w g0 g1 g2 k0 k1 k2) (Below.refl w.heap.size w)
  by_cases hs : a1 = 0
  · subst hs
    have ht : everyS a0 0 a2 = top := by unfold everyS; rw [if_pos rfl]
    rw [ht] at hc
    unfold top at hc
    have H := Lib.hid hc
    clear hc ht
    go_enter Try.func3, Try.ntmps3
    go_wp2_with (first | (go_at_call 9; refine H.out.mono ?_; rintro e w' ⟨rfl, hg⟩) | (go_at_call 10; refine (based (lives_any _) (by assumption)).mono ?_; rintro e w' ⟨rfl, hg⟩))
    go_ret
    exact ⟨rfl, by assumption⟩
  · have h0 : (a1 == 0) = false := by rw [beq_eq_false_iff_ne]; exact hs
    by_cases ht : everyS a0 a1 a2 = top
    · rw [ht] at hc
      unfold top at hc
      have H := Lib.hid hc
      clear hc ht
      go_enter Try.func3, Try.ntmps3
      go_wp2_with (first | (go_at_call 9; refine H.out.mono ?_; rintro e w' ⟨rfl, hg⟩) | (go_at_call 10; refine (based (lives_any _) (by assumption)).mono ?_; rintro e w' ⟨rfl, hg⟩))
      go_ret
      exact ⟨rfl, by assumption⟩
    · obtain ⟨l1, l2, l3, l4, l5⟩ := every_law g0 (by omega) g2 k2 rfl ht
      have h1 : (everyS a0 a1 a2 == 18446744073709551615) = false := by rw [beq_eq_false_iff_ne]; exact ht
      generalize everyS a0 a1 a2 = r at *
      have h4 : ((r - a0) % a1 == 0) = true := by rw [beq_iff_eq]; exact l4
      have H := Lib.hid hc
      clear hc ht l4
      by_cases h5 : r - a1 = a0
      · have h6 : (r - a1 == a0) = true := by rw [beq_iff_eq]; exact h5
        clear l5 h5
        go_enter Try.func3, Try.ntmps3
        go_wp2_with (first | (go_at_call 9; refine H.out.mono ?_; rintro e w' ⟨rfl, hg⟩) | (go_at_call 10; refine (based (lives_any _) (by assumption)).mono ?_; rintro e w' ⟨rfl, hg⟩))
        go_ret
        exact ⟨rfl, by assumption⟩
      · have h6 : (r - a1 == a0) = false := by rw [beq_eq_false_iff_ne]; exact h5
        have h7 : r - a1 ≤ a2 := by omega
        clear l5 h5
        go_enter Try.func3, Try.ntmps3
        go_wp2_with (first | (go_at_call 9; refine H.out.mono ?_; rintro e w' ⟨rfl, hg⟩) | (go_at_call 10; refine (based (lives_any _) (by assumption)).mono ?_; rintro e w' ⟨rfl, hg⟩))
        go_ret
        exact ⟨rfl, by assumption⟩

set_option maxRecDepth 100000 in
theorem lifted (os : Os) (started : os.Started) (H : Type) (enc : TypeId × Value → H) :
    ReturnsInHanded {} Try.checked os 3 .any (Rows.clockEverySpec.pre6 enc Try.prog Try.f3 Rows.clockEveryRow.domain false) (Rows.clockEverySpec.post enc Try.prog Try.f3 false true false false) := by
  refine returnsInHanded_of_change (C := Try.checked) own started (by kernel_rfl) Try.func3
    (ChangeSpec.witness6 (enc := enc) (C := Try.checked) false ⟨#[], #[.int .u64 0, .int .u64 0, .int .u64 0], []⟩ 8 (by kernel_rfl) (by kernel_rfl) (by kernel_rfl) (by kernel_rfl)) ?_
  intro W base args ds gs before hval0 hW hcnd _
  have hval : ∀ (j : Nat) t v, Try.f3.params[j]? = some t → args[j]? = some v → Value.okWide Try.prog W .any base t v := hval0
  have hW' := hW
  obtain ⟨p, q, hA0, hV, rfl, hfz, hnd⟩ := hW
  have hA : DataW.TrodAll enc Try.prog W 0 (fun _ => true) true Try.f3.params.toList args.toList ds p := hA0
  rw [Try.params3] at hA hval
  obtain ⟨v0, vs0, d0, ds0, p0, q0, hargs, rfl, rfl, h0, r0⟩ := trodAll_cons hA
  obtain ⟨v1, vs1, d1, ds1, p1, q1, rfl, rfl, rfl, h1, r1⟩ := trodAll_cons r0
  obtain ⟨v2, vs2, d2, ds2, p2, q2, rfl, rfl, rfl, h2, r2⟩ := trodAll_cons r1
  obtain ⟨rfl, rfl, rfl⟩ := trodAll_nil r2
  obtain rfl : args = #[v0, v1, v2] := by cases args; simp_all
  obtain ⟨rfl, rfl⟩ := trodVars_none hV
  have k0 := h0
  have lt0 : ∀ x ∈ p0, x.block < W.heap.size := by obtain ⟨m, hm⟩ := k0; exact DataW.trod_lt m _ _ _ hm
  have k1 := h1
  have lt1 : ∀ x ∈ p1, x.block < W.heap.size := by obtain ⟨m, hm⟩ := k1; exact DataW.trod_lt m _ _ _ hm
  have k2 := h2
  have lt2 : ∀ x ∈ p2, x.block < W.heap.size := by obtain ⟨m, hm⟩ := k2; exact DataW.trod_lt m _ _ _ hm
  obtain ⟨a0, rfl, rfl, rfl, w0⟩ := open_int Try.underlying22 (hval 0 22 v0 rfl rfl) h0
  obtain ⟨a1, rfl, rfl, rfl, w1⟩ := open_int Try.underlying22 (hval 1 22 v1 rfl rfl) h1
  obtain ⟨a2, rfl, rfl, rfl, w2⟩ := open_int Try.underlying22 (hval 2 22 v2 rfl rfl) h2
  clear hA0 hval0
  refine (walk a0 a1 a2 w0 w1 w2 W).mono fun e W' ⟨he, bel⟩ => ?_
  subst he
  exact ⟨_, rfl, _, _, _, [], _, [], hW', trodAll_mk1 (shut_bool Try.underlying4 _), (trodAll_cons_mk (Below.trod laidOut (by kernel_rfl) (of_decide_eq_true (by kernel_rfl)) k0 bel lt0) (trodAll_cons_mk (Below.trod laidOut (by kernel_rfl) (of_decide_eq_true (by kernel_rfl)) k1 bel lt1) (trodAll_cons_mk (Below.trod laidOut (by kernel_rfl) (of_decide_eq_true (by kernel_rfl)) k2 bel lt2) trodAll_mk0))), rfl, bel.frame _, fun h => by cases h⟩

theorem over : Rows.clockEveryRow.holds Try.pinned (OpenSpec.ofChange Rows.clockEverySpec) :=
  OpenClaim.holds_of_wide 3 Try.f3 rfl rfl rfl rfl rfl rfl rfl ⟨rfl, rfl, rfl, rfl, rfl⟩ rfl rfl rfl rfl rfl (by kernel_rfl) Try.func3 (by kernel_rfl)
    (of_decide_eq_true (by kernel_rfl)) (by unfold Func.isWrapper; first | (rw [if_pos (by decide +kernel)]; kernel_rfl) | (rw [if_neg (by decide +kernel)]; exact ⟨rfl, rfl⟩))
    (fun os started H enc _ => lifted os started H enc)

/-- THE STATEMENT. -/
theorem proved : Rows.ClockEverySaid := over
#print axioms proved
end Go.Proofs.Ytcgfednoolkhkaa.clockEvery
