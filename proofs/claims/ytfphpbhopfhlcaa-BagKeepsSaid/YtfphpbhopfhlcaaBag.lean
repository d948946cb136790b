/-
  bag: its state; the functions of a bag that no call made.
-/
import Derived.Test.YtfphpbhopfhlcaaRingDQ
namespace Go.Proofs.Ytfphpbhopfhlcaa.D
open Go.RowKit
set_option linter.unusedVariables false
set_option linter.unusedSimpArgs false
/-- No call made it. -/
def NoBag (w : World) (p : Option Addr) : Prop := p = none ∨ ∃ g, p = some ⟨g, 0, none⟩ ∧ w.cell? ⟨g, 0, none⟩ = some (.pointer none)
theorem bnone_nobody (p : Option Addr) (w : World) (h : NoBag w p) : Calls Try.prog 37 #[.pointer p] w fun e w' => e = .returned (.bool true) ∧ w = w' := by
  rcases h with rfl | ⟨g, rfl, hc⟩
  · go_enter Try.func37, Try.ntmps37
    go_wp2
    go_ret
    exact ⟨rfl, rfl⟩
  · go_enter Try.func37, Try.ntmps37
    go_wp2
    go_ret
    exact ⟨rfl, rfl⟩
theorem nobag_below {w w' : World} {p : Option Addr} (h : NoBag w p) (hb : Below w.heap.size w w') : NoBag w' p := by
  rcases h with rfl | ⟨g, rfl, hc⟩
  · exact .inl rfl
  · exact .inr ⟨g, rfl, cell_below hb hc⟩
theorem bclone_nil (w : World) : Calls Try.prog 25 #[.pointer none] w fun e w' => e = .returned (.pointer none) ∧ w = w' := by
  go_enter Try.func25, Try.ntmps25
  go_wp2
  go_ret
  exact ⟨rfl, rfl⟩
theorem blen_nobody (p : Option Addr) (w : World) (h : NoBag w p) : Calls Try.prog 24 #[.pointer p] w fun e w' => e = .returned (.int .i64 0) ∧ w = w' := by
  have H := Lib.hid (bnone_nobody p w h)
  clear h
  go_enter Try.func24, Try.ntmps24
  go_wp2_with (go_at_call 37; refine H.out.mono ?_; rintro e w1 ⟨rfl, rfl⟩)
  go_ret
  exact ⟨rfl, rfl⟩
theorem blost_nobody (p : Option Addr) (w : World) (h : NoBag w p) : Calls Try.prog 26 #[.pointer p] w fun e w' => e = .returned (.int .i64 0) ∧ w = w' := by
  have H := Lib.hid (bnone_nobody p w h)
  clear h
  go_enter Try.func26, Try.ntmps26
  go_wp2_with (go_at_call 37; refine H.out.mono ?_; rintro e w1 ⟨rfl, rfl⟩)
  go_ret
  exact ⟨rfl, rfl⟩
theorem bdouble_nobody (p : Option Addr) (i : Int) (w : World) (h : NoBag w p) : Calls Try.prog 23 #[.pointer p, .int .i64 i] w fun e w' => e = .returned (.int .i64 1) ∧ w = w' := by
  have H := Lib.hid (bnone_nobody p w h)
  clear h
  go_enter Try.func23, Try.ntmps23
  go_wp2_with (go_at_call 37; refine H.out.mono ?_; rintro e w1 ⟨rfl, rfl⟩)
  go_ret
  exact ⟨rfl, rfl⟩
theorem bput_nobody (p : Option Addr) (d : Dg) (w : World) (h : NoBag w p) : Calls Try.prog 20 #[.pointer p, dv d] w fun e w' => e = .returned (.int .i64 1) ∧ Below w.heap.size w w' := by
  have H := Lib.hid (bnone_nobody p _ (nobag_below h ((Below.refl w.heap.size w).alloc (Nat.le_refl _) (B49 d))))
  clear h
  unfold dv cs5
  go_enter Try.func20, Try.ntmps20
  go_wp2_with (go_at_call 37; refine H.out.mono ?_; rintro e w1 ⟨rfl, rfl⟩)
  go_ret
  exact ⟨rfl, by go_grown⟩
theorem bat_nobody (p : Option Addr) (i : Int) (w : World) (h : NoBag w p) : Calls Try.prog 22 #[.pointer p, .int .i64 i] w fun e w' => e = .returned (.tuple #[dv d0, .bool false]) ∧ Below w.heap.size w w' := by
  have H := Lib.hid (bnone_nobody p _ (nobag_below h ((Below.refl w.heap.size w).alloc (Nat.le_refl _) Z49)))
  clear h
  go_enter Try.func22, Try.ntmps22
  go_wp2_with (go_at_call 37; refine H.out.mono ?_; rintro e w1 ⟨rfl, rfl⟩)
  go_returns
  exact ⟨rfl, by go_grown⟩
theorem btake_nobody (p : Option Addr) (i : Int) (w : World) (h : NoBag w p) : Calls Try.prog 21 #[.pointer p, .int .i64 i] w fun e w' => e = .returned (.tuple #[dv d0, .bool false]) ∧ Below w.heap.size w w' := by
  have H := Lib.hid (bnone_nobody p _ (nobag_below h ((Below.refl w.heap.size w).alloc (Nat.le_refl _) Z49)))
  clear h
  go_enter Try.func21, Try.ntmps21
  go_wp2_with (go_at_call 37; refine H.out.mono ?_; rintro e w1 ⟨rfl, rfl⟩)
  go_returns
  exact ⟨rfl, by go_grown⟩
theorem bto_nobody (p : Option Addr) (h1 p1 : Int) (w : World) (h : NoBag w p) : Calls Try.prog 27 #[.pointer p, .agg #[.int .u32 h1, .int .u16 p1]] w fun e w' => e = .returned (.slice none 0 0) ∧ Below w.heap.size w w' := by
  have HN := Lib.hid h
  clear h
  go_enter Try.func27, Try.ntmps27
  go_wp2_with (go_at_call 37; refine (bnone_nobody p _ (nobag_below HN.out (by go_grown))).mono ?_; rintro e w1 ⟨rfl, rfl⟩)
  go_returns
  exact ⟨rfl, by go_grown⟩
end Go.Proofs.Ytfphpbhopfhlcaa.D
