/-
  signpost's OctetNobody: for every input the law returns true. No condition.
-/
import Derived.Test.YtnkbbmfhdabbkaaRows
import Derived.WalkKit
import Derived.ProofKit
import Derived.OpenShut
import Derived.ShutString
import Derived.ChangeOld
import Derived.Below
import Derived.Test.YtnkbbmfhdabbkaaRdN
namespace Go.Proofs.Ytnkbbmfhdabbkaa.octetNobody
open Go.ChangeShapes Go.WideShapes Go.ChangeAt Go.RowKit
open Go.ChangeMaps (open_string shut_string)
open Go.Proofs.YtnkbbmfhdabbkaaW.PrintWords
set_option linter.unusedSimpArgs false
set_option linter.unusedVariables false

theorem own : ownKnob Try.prog.godebug = none := by kernel_rfl
theorem laidOut : laidOutB Try.prog = true := by kernel_rfl

theorem walk (a0 : Int) (w : World) : Calls Try.prog 7 #[.int .i64 a0] w fun e w' => e = .returned (.bool true) ∧ Below w.heap.size w w' := by
  have n1 := Lib.hid (show NoRd ((w.alloc (.cells #[.slice none 0 0, .bool false, .bool false] 61)).alloc (.cells #[.pointer none, .pointer (some ⟨w.heap.size, 0, none⟩)] 51)) none from .inl rfl)
  have n2 : Hid (NoRd ((w.alloc (.cells #[.slice none 0 0, .bool false, .bool false] 61)).alloc (.cells #[.pointer none, .pointer (some ⟨w.heap.size, 0, none⟩)] 51)) (some ⟨w.heap.size, 0, none⟩)) :=
    .inr ⟨_, rfl, cell_later ((Below.refl _ _).alloc (Nat.le_refl _) _) (by simp)⟩
  have hb : Hid (Below w.heap.size w ((w.alloc (.cells #[.slice none 0 0, .bool false, .bool false] 61)).alloc (.cells #[.pointer none, .pointer (some ⟨w.heap.size, 0, none⟩)] 51))) := by
    show Below _ _ _
    go_grown
  have c0 : ((w.alloc (.cells #[.slice none 0 0, .bool false, .bool false] 61)).alloc (.cells #[.pointer none, .pointer (some ⟨w.heap.size, 0, none⟩)] 51)).cell? ⟨w.heap.size + 1, 0, none⟩ = some (.pointer none) := by simp
  have c1 : ((w.alloc (.cells #[.slice none 0 0, .bool false, .bool false] 61)).alloc (.cells #[.pointer none, .pointer (some ⟨w.heap.size, 0, none⟩)] 51)).cell? ⟨w.heap.size + 1, 1, none⟩ = some (.pointer (some ⟨w.heap.size, 0, none⟩)) := by simp
  go_enter Try.func7, Try.ntmps7
  go_wp2
  refine wp_loop_rounds 3 ?_
  rw [rounds_succ]
  generalize (w.alloc (.cells #[.slice none 0 0, .bool false, .bool false] 61)).alloc (.cells #[.pointer none, .pointer (some ⟨w.heap.size, 0, none⟩)] 51) = W at *
  go_wp2_with (first
    | (go_at_call 28; refine (nrnum _ _ _ n1.out).mono ?_; rintro e w1 ⟨rfl, rfl⟩)
    | (go_at_call 31; refine (nrtake _ _ _ n1.out).mono ?_; rintro e w1 ⟨rfl, rfl⟩)
    | (go_at_call 29; refine (nrtext _ _ _ n1.out).mono ?_; rintro e w1 ⟨rfl, rfl⟩)
    | (go_at_call 32; refine (nrleft _ _ n1.out).mono ?_; rintro e w1 ⟨rfl, rfl⟩)
    | (go_at_call 33; refine (nrbad _ _ n1.out).mono ?_; rintro e w1 ⟨rfl, rfl⟩)
    | (go_at_call 30; refine (nrdone _ _ n1.out).mono ?_; rintro e w1 ⟨rfl, rfl⟩))
  rw [rounds_succ]
  go_wp2_with (first
    | (go_at_call 28; refine (nrnum _ _ _ n2.out).mono ?_; rintro e w1 ⟨rfl, rfl⟩)
    | (go_at_call 31; refine (nrtake _ _ _ n2.out).mono ?_; rintro e w1 ⟨rfl, rfl⟩)
    | (go_at_call 29; refine (nrtext _ _ _ n2.out).mono ?_; rintro e w1 ⟨rfl, rfl⟩)
    | (go_at_call 32; refine (nrleft _ _ n2.out).mono ?_; rintro e w1 ⟨rfl, rfl⟩)
    | (go_at_call 33; refine (nrbad _ _ n2.out).mono ?_; rintro e w1 ⟨rfl, rfl⟩)
    | (go_at_call 30; refine (nrdone _ _ n2.out).mono ?_; rintro e w1 ⟨rfl, rfl⟩))
  rw [rounds_succ]
  go_wp2_with (go_at_call 9; refine (based (lives_any _) hb.out).mono ?_; rintro e w1 ⟨rfl, hg⟩)
  go_ret
  exact ⟨rfl, hg⟩

set_option maxRecDepth 100000 in
theorem lifted (os : Os) (started : os.Started) (H : Type) (enc : TypeId × Value → H) :
    ReturnsInHanded {} Try.checked os 7 .any (Rows.octetNobodySpec.pre6 enc Try.prog Try.f7 Rows.octetNobodyRow.domain false) (Rows.octetNobodySpec.post enc Try.prog Try.f7 false true false false) := by
  refine returnsInHanded_of_change (C := Try.checked) own started (by kernel_rfl) Try.func7
    (ChangeSpec.witness6 (enc := enc) (C := Try.checked) false ⟨#[], #[.int .i64 0], []⟩ 8 (by kernel_rfl) (by kernel_rfl) (by kernel_rfl) (by kernel_rfl)) ?_
  intro W base args ds gs before hval0 hW hcnd _
  have hval : ∀ (j : Nat) t v, Try.f7.params[j]? = some t → args[j]? = some v → Value.okWide Try.prog W .any base t v := hval0
  have hW' := hW
  obtain ⟨p, q, hA0, hV, rfl, hfz, hnd⟩ := hW
  have hA : DataW.TrodAll enc Try.prog W 0 (fun _ => true) true Try.f7.params.toList args.toList ds p := hA0
  rw [Try.params7] at hA hval
  obtain ⟨v0, vs0, d0, ds0, p0, q0, hargs, rfl, rfl, h0, r0⟩ := trodAll_cons hA
  obtain ⟨rfl, rfl, rfl⟩ := trodAll_nil r0
  obtain rfl : args = #[v0] := by cases args; simp_all
  obtain ⟨rfl, rfl⟩ := trodVars_none hV
  have k0 := h0
  have lt0 : ∀ x ∈ p0, x.block < W.heap.size := by obtain ⟨m, hm⟩ := k0; exact DataW.trod_lt m _ _ _ hm
  obtain ⟨a0, rfl, rfl, rfl, w0⟩ := open_int Try.underlying3 (hval 0 3 v0 rfl rfl) h0
  clear hA0 hval0
  refine (walk a0 W).mono fun e W' ⟨he, bel⟩ => ?_
  subst he
  exact ⟨_, rfl, _, _, _, [], _, [], hW', trodAll_mk1 (shut_bool Try.underlying4 _), (trodAll_cons_mk (Below.trod laidOut (by kernel_rfl) (of_decide_eq_true (by kernel_rfl)) k0 bel lt0) trodAll_mk0), rfl, bel.frame _, fun h => by cases h⟩

theorem over : Rows.octetNobodyRow.holds Try.pinned (OpenSpec.ofChange Rows.octetNobodySpec) :=
  OpenClaim.holds_of_wide 7 Try.f7 rfl rfl rfl rfl rfl rfl rfl ⟨rfl, rfl, rfl, rfl, rfl⟩ rfl rfl rfl rfl rfl (by kernel_rfl) Try.func7 (by kernel_rfl)
    (of_decide_eq_true (by kernel_rfl)) (by unfold Func.isWrapper; first | (rw [if_pos (by decide +kernel)]; kernel_rfl) | (rw [if_neg (by decide +kernel)]; exact ⟨rfl, rfl⟩))
    (fun os started H enc _ => lifted os started H enc)

/-- THE STATEMENT. -/
theorem proved : Rows.OctetNobodySaid := over
#print axioms proved
end Go.Proofs.Ytnkbbmfhdabbkaa.octetNobody
