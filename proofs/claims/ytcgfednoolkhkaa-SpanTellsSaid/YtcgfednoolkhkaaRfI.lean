/-
  The document's Index, Has.
-/
import Derived.Test.YtcgfednoolkhkaaRfP
namespace Go.Proofs.Ytcgfednoolkhkaa
open Go.RowKit
set_option linter.unusedVariables false
set_option linter.unusedSimpArgs false
set_option maxRecDepth 20000
theorem findex (a b : List Nat) (w : World) (ha : Id a) (hb : Id b) :
    Calls Try.prog 33 #[idv a, idv b] w fun e w' => e = .returned (.tuple #[.int .i64 (idxN a b : Nat), .bool (idxB a b)]) ∧ Below w.heap.size w w' := by
  obtain ⟨hA2, hB2, hb2⟩ := r2_new w a b
  have XA := Lib.hid hA2
  have XB := Lib.hid hB2
  have XW := Lib.hid hb2
  have HC := Lib.hid (fprefix a b ((w.alloc (.cells (idc a).toArray 56)).alloc (.cells (idc b).toArray 56)) ha hb)
  have ha20 := ha.1
  have hb20 := hb.1
  have hple := pref_le (xorL a b)
  clear hA2 hB2 hb2
  by_cases hab : a = b
  · have h160 := (pref_same ha hb).2 hab
    have HN : Hid (idxN a b = 0) := if_pos hab
    have HB : Hid (idxB a b = false) := by show (!decide (a = b)) = false; rw [decide_eq_true hab]; rfl
    rw [h160] at HC
    clear hab ha hb h160 hple
    unfold idv at *
    generalize hCa : (idc a).toArray = Ca at *
    generalize hCb : (idc b).toArray = Cb at *
    go_enter Try.func33, Try.ntmps33
    go_upto_region 1 with fail
    obtain ⟨W2, hW2⟩ : ∃ W2, W2 = (w.alloc (.cells Ca 56)).alloc (.cells Cb 56) := ⟨_, rfl⟩
    rw [← hW2] at XA XB XW HC ⊢
    clear hW2
    go_wp2_with (first
      | (refine wl_loadr rfl (.tmp 2) rfl w.heap.size rfl a XA.out ha20 ?_)
      | (refine wl_loadr rfl (.tmp 3) rfl (w.heap.size + 1) rfl b XB.out hb20 ?_)
      | (go_at_call 50; unfold idv; rw [hCa, hCb]; refine HC.out.mono ?_; rintro e w1 ⟨rfl, hb1⟩))
    go_ret2
    exact ⟨ret_val (by rw [HN.out, HB.out]; rfl), XW.out.trans (hb1.mono XW.out.size)⟩
  · have h160 : ¬ pref (xorL a b) = 160 := fun h => hab ((pref_same ha hb).1 h)
    have HN : Hid (idxN a b = pref (xorL a b)) := if_neg hab
    have HB : Hid (idxB a b = true) := by show (!decide (a = b)) = true; rw [decide_eq_false hab]; rfl
    have hbe : ((pref (xorL a b) : Int) == 160) = false := beq_eq_false_iff_ne.2 (by omega)
    clear hab ha hb h160 hple
    generalize pref (xorL a b) = n at *
    unfold idv at *
    generalize hCa : (idc a).toArray = Ca at *
    generalize hCb : (idc b).toArray = Cb at *
    go_enter Try.func33, Try.ntmps33
    go_upto_region 1 with fail
    obtain ⟨W2, hW2⟩ : ∃ W2, W2 = (w.alloc (.cells Ca 56)).alloc (.cells Cb 56) := ⟨_, rfl⟩
    rw [← hW2] at XA XB XW HC ⊢
    clear hW2
    go_wp2_with (first
      | (refine wl_loadr rfl (.tmp 2) rfl w.heap.size rfl a XA.out ha20 ?_)
      | (refine wl_loadr rfl (.tmp 3) rfl (w.heap.size + 1) rfl b XB.out hb20 ?_)
      | (go_at_call 50; unfold idv; rw [hCa, hCb]; refine HC.out.mono ?_; rintro e w1 ⟨rfl, hb1⟩))
    go_ret2
    exact ⟨ret_val (by rw [HN.out, HB.out]; first | rfl | done), XW.out.trans (hb1.mono XW.out.size)⟩
theorem fhas (a b : List Nat) (i : Int) (w : World) (ha : Id a) (hb : Id b) :
    Calls Try.prog 37 #[idv a, .int .i64 i, idv b] w fun e w' => e = .returned (.bool (hasB a i b)) ∧ Below w.heap.size w w' := by
  obtain ⟨hA2, hB2, hb2⟩ := r2_new w a b
  have XA := Lib.hid hA2
  have XB := Lib.hid hB2
  have XW := Lib.hid hb2
  have HC := Lib.hid (findex a b ((w.alloc (.cells (idc a).toArray 56)).alloc (.cells (idc b).toArray 56)) ha hb)
  have ha20 := ha.1
  have hb20 := hb.1
  have HR : Hid (hasB a i b = (idxB a b && decide ((idxN a b : Int) = i))) := rfl
  clear hA2 hB2 hb2 ha hb
  generalize hasB a i b = r at *
  generalize idxB a b = c at *
  generalize idxN a b = n at *
  unfold idv at *
  generalize hCa : (idc a).toArray = Ca at *
  generalize hCb : (idc b).toArray = Cb at *
  have hbeq : ((n : Int) == i) = decide ((n : Int) = i) := rfl
  cases c with
  | false =>
    clear hbeq
    go_enter Try.func37, Try.ntmps37
    go_upto_region 1 with fail
    obtain ⟨W2, hW2⟩ : ∃ W2, W2 = (w.alloc (.cells Ca 56)).alloc (.cells Cb 56) := ⟨_, rfl⟩
    rw [← hW2] at XA XB XW HC ⊢
    clear hW2
    go_wp2_with (first
      | (refine wl_loadr rfl (.tmp 3) rfl w.heap.size rfl a XA.out ha20 ?_)
      | (refine wl_loadr rfl (.tmp 5) rfl (w.heap.size + 1) rfl b XB.out hb20 ?_)
      | (go_at_call 33; unfold idv; rw [hCa, hCb]; refine HC.out.mono ?_; rintro e w1 ⟨rfl, hb1⟩))
    go_ret
    exact ⟨ret_val (by rw [HR.out]; rfl), XW.out.trans (hb1.mono XW.out.size)⟩
  | true =>
    cases hd : decide ((n : Int) = i)
    all_goals
      have HD := Lib.hid hd
      rw [hd] at hbeq
      clear hd
      go_enter Try.func37, Try.ntmps37
      go_upto_region 1 with fail
      obtain ⟨W2, hW2⟩ : ∃ W2, W2 = (w.alloc (.cells Ca 56)).alloc (.cells Cb 56) := ⟨_, rfl⟩
      rw [← hW2] at XA XB XW HC ⊢
      clear hW2
      go_wp2_with (first
        | (refine wl_loadr rfl (.tmp 3) rfl w.heap.size rfl a XA.out ha20 ?_)
        | (refine wl_loadr rfl (.tmp 5) rfl (w.heap.size + 1) rfl b XB.out hb20 ?_)
        | (go_at_call 33; unfold idv; rw [hCa, hCb]; refine HC.out.mono ?_; rintro e w1 ⟨rfl, hb1⟩))
      go_ret
      exact ⟨ret_val (by rw [HR.out, HD.out]; first | rfl | simp_all), XW.out.trans (hb1.mono XW.out.size)⟩
end Go.Proofs.Ytcgfednoolkhkaa
