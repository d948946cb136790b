/-
  A reader that no call made: nil, or never opened.
-/
import Derived.Test.YtnkbbmfhdabbkaaTxt
namespace Go.Proofs.Ytnkbbmfhdabbkaa
open Go.RowKit Go.Proofs.YtnkbbmfhdabbkaaW.PrintWords
set_option linter.unusedVariables false

/-- No call made it. -/
def NoRd (w : World) (p : Option Addr) : Prop := p = none ∨ ∃ g, p = some ⟨g, 0, none⟩ ∧ w.cell? ⟨g, 1, none⟩ = some (.bool false)
theorem nrnone (p : Option Addr) (w : World) (h : NoRd w p) : Calls Try.prog 43 #[.pointer p] w fun e w' => e = .returned (.bool true) ∧ w = w' := by
  rcases h with rfl | ⟨g, rfl, hc⟩
  · go_enter Try.func43, Try.ntmps43
    go_wp2
    go_ret
    exact ⟨rfl, rfl⟩
  · go_enter Try.func43, Try.ntmps43
    go_wp2
    go_ret
    exact ⟨rfl, rfl⟩
theorem nrnum (p : Option Addr) (n : Int) (w : World) (h : NoRd w p) : Calls Try.prog 28 #[.pointer p, .int .i64 n] w fun e w' => e = .returned (.int .u64 0) ∧ w = w' := by
  have H := Lib.hid (nrnone p w h)
  clear h
  go_enter Try.func28, Try.ntmps28
  go_wp2_with (go_at_call 43; refine H.out.mono ?_; rintro e w1 ⟨rfl, rfl⟩)
  go_ret
  exact ⟨rfl, rfl⟩
theorem nrtake (p : Option Addr) (n : Int) (w : World) (h : NoRd w p) : Calls Try.prog 31 #[.pointer p, .int .i64 n] w fun e w' => e = .returned (.slice none 0 0) ∧ w = w' := by
  have H := Lib.hid (nrnone p w h)
  clear h
  go_enter Try.func31, Try.ntmps31
  go_wp2_with (go_at_call 43; refine H.out.mono ?_; rintro e w1 ⟨rfl, rfl⟩)
  go_ret
  exact ⟨rfl, rfl⟩
theorem nrtext (p : Option Addr) (n : Int) (w : World) (h : NoRd w p) : Calls Try.prog 29 #[.pointer p, .int .i64 n] w fun e w' => e = .returned (.string ⟨#[]⟩) ∧ w = w' := by
  have H := Lib.hid (nrnone p w h)
  clear h
  go_enter Try.func29, Try.ntmps29
  go_wp2_with (go_at_call 43; refine H.out.mono ?_; rintro e w1 ⟨rfl, rfl⟩)
  go_ret
  exact ⟨rfl, rfl⟩
theorem nrleft (p : Option Addr) (w : World) (h : NoRd w p) : Calls Try.prog 32 #[.pointer p] w fun e w' => e = .returned (.int .i64 0) ∧ w = w' := by
  have H := Lib.hid (nrnone p w h)
  clear h
  go_enter Try.func32, Try.ntmps32
  go_wp2_with (go_at_call 43; refine H.out.mono ?_; rintro e w1 ⟨rfl, rfl⟩)
  go_ret
  exact ⟨rfl, rfl⟩
theorem nrbad (p : Option Addr) (w : World) (h : NoRd w p) : Calls Try.prog 33 #[.pointer p] w fun e w' => e = .returned (.bool true) ∧ w = w' := by
  have H := Lib.hid (nrnone p w h)
  clear h
  go_enter Try.func33, Try.ntmps33
  go_wp2_with (go_at_call 43; refine H.out.mono ?_; rintro e w1 ⟨rfl, rfl⟩)
  go_ret
  exact ⟨rfl, rfl⟩
theorem nrdone (p : Option Addr) (w : World) (h : NoRd w p) : Calls Try.prog 30 #[.pointer p] w fun e w' => e = .returned (.int .i64 1) ∧ w = w' := by
  have H := Lib.hid (nrnone p w h)
  clear h
  go_enter Try.func30, Try.ntmps30
  go_wp2_with (go_at_call 43; refine H.out.mono ?_; rintro e w1 ⟨rfl, rfl⟩)
  go_ret
  exact ⟨rfl, rfl⟩
end Go.Proofs.Ytnkbbmfhdabbkaa
