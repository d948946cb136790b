/-
  span: Has.
-/
import Derived.Test.YtcgfednoolkhkaaSpH
namespace Go.Proofs.Ytcgfednoolkhkaa
open Go.RowKit
set_option linter.unusedVariables false
set_option linter.unusedSimpArgs false
def hasB (a : List Nat) (i : Int) (b : List Nat) : Bool := idxB a b && decide ((idxN a b : Int) = i)
theorem rhas (a b : List Nat) (i : Int) (w : World) (ha : Id a) (hb : Id b) :
    Calls Try.prog 30 #[idv a, .int .i64 i, idv b] w fun e w' => e = .returned (.bool (hasB a i b)) ∧ Below w.heap.size w w' := by
  obtain ⟨hA2, hB2, hb2⟩ := id2_new w a b
  have XA := Lib.hid hA2
  have XB := Lib.hid hB2
  have XW := Lib.hid hb2
  have HC := Lib.hid (rindex a b ((w.alloc (.cells (idc a).toArray 41)).alloc (.cells (idc b).toArray 41)) ha hb)
  have ha20 := ha.1
  have hb20 := hb.1
  have HR : Hid (hasB a i b = (idxB a b && decide ((idxN a b : Int) = i))) := rfl
  clear hA2 hB2 hb2 ha hb
  generalize hasB a i b = r at *
  generalize idxB a b = c at *
  generalize idxN a b = n at *
  unfold idv at *
  generalize hCa : (idc a).toArray = Ca at *
  generalize hCb : (idc b).toArray = Cb at *
  have hbeq : ((n : Int) == i) = decide ((n : Int) = i) := rfl
  cases c with
  | false =>
    clear hbeq
    go_enter Try.func30, Try.ntmps30
    go_upto_region 1 with fail
    obtain ⟨W2, hW2⟩ : ∃ W2, W2 = (w.alloc (.cells Ca 41)).alloc (.cells Cb 41) := ⟨_, rfl⟩
    rw [← hW2] at XA XB XW HC ⊢
    clear hW2
    go_wp2_with (first
      | (refine wl_load rfl (.tmp 3) rfl w.heap.size rfl a XA.out ha20 ?_)
      | (refine wl_load rfl (.tmp 5) rfl (w.heap.size + 1) rfl b XB.out hb20 ?_)
      | (go_at_call 32; unfold idv; rw [hCa, hCb]; refine HC.out.mono ?_; rintro e w1 ⟨rfl, hb1⟩))
    go_ret
    exact ⟨ret_val (by rw [HR.out]; rfl), XW.out.trans (hb1.mono XW.out.size)⟩
  | true =>
    cases hd : decide ((n : Int) = i)
    all_goals
      have HD := Lib.hid hd
      rw [hd] at hbeq
      clear hd
      go_enter Try.func30, Try.ntmps30
      go_upto_region 1 with fail
      obtain ⟨W2, hW2⟩ : ∃ W2, W2 = (w.alloc (.cells Ca 41)).alloc (.cells Cb 41) := ⟨_, rfl⟩
      rw [← hW2] at XA XB XW HC ⊢
      clear hW2
      go_wp2_with (first
        | (refine wl_load rfl (.tmp 3) rfl w.heap.size rfl a XA.out ha20 ?_)
        | (refine wl_load rfl (.tmp 5) rfl (w.heap.size + 1) rfl b XB.out hb20 ?_)
        | (go_at_call 32; unfold idv; rw [hCa, hCb]; refine HC.out.mono ?_; rintro e w1 ⟨rfl, hb1⟩))
      go_ret
      exact ⟨ret_val (by rw [HR.out, HD.out]; first | rfl | simp_all), XW.out.trans (hb1.mono XW.out.size)⟩
end Go.Proofs.Ytcgfednoolkhkaa
