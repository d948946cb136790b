/-
  The reference's reader of bytes: its cells, 'fail', 'Left', 'Done'.
-/
import Derived.Test.YtnkbbmfhdabbkaaRdX3
import Derived.Deep.DrawnRows
import Derived.Deep.RegionHeld3
namespace Go.Proofs.Ytnkbbmfhdabbkaa
open Go.RowKit Go.Proofs.YtnkbbmfhdabbkaaW.PrintWords
set_option linter.unusedVariables false
set_option linter.unusedSimpArgs false

theorem rr_set_other {w : World} {a b : Addr} {u v : Value} (h : w.cell? b = some v) (hne : a ≠ b) : (w.setCell a u).cell? b = some v := (World.cell?_setCell_other _ _ _ _ hne).trans h
theorem rr_set_same {w : World} {a : Addr} {u v : Value} (h : w.cell? a = some v) : (w.setCell a u).cell? a = some u := World.cell?_setCell_same _ _ _ h
theorem rr_grown_set (w : World) (g j : Nat) (u : Value) : w.grownBy (w.setCell ⟨g, j, none⟩ u) (some g) :=
  ⟨rfl, rfl, rfl, by simp [World.setCell], fun i _ hne => Below.heap_setCell _ _ _ _ (fun e => hne (by rw [e]))⟩
/-- The cells of the reference's reader at block g: its bytes, the place, whether it is bad. -/
def Rr (W : World) (g : Nat) (A : Option Addr) (n c at_ : Nat) (bad : Bool) : Prop :=
  W.cell? ⟨g, 0, none⟩ = some (.slice A n c) ∧ W.cell? ⟨g, 1, none⟩ = some (.int .i64 at_) ∧ W.cell? ⟨g, 2, none⟩ = some (.bool bad) ∧
    W.frozen? ⟨g, 1, none⟩ = false ∧ W.frozen? ⟨g, 2, none⟩ = false
theorem rr_fail (g : Nat) (A : Option Addr) (n c at_ : Nat) (bad : Bool) (w : World) (h : Rr w g A n c at_ bad) :
    Calls Try.prog 47 #[.pointer (some ⟨g, 0, none⟩)] w fun e w' => (∃ r, e = .returned r) ∧ Rr w' g A n c n true ∧ w.grownBy w' (some g) := by
  obtain ⟨h0, h1, h2, f1, f2⟩ := h
  have n1 : (⟨g, 2, none⟩ : Addr) ≠ ⟨g, 0, none⟩ := by simp
  have n2 : (⟨g, 2, none⟩ : Addr) ≠ ⟨g, 1, none⟩ := by simp
  have n3 : (⟨g, 1, none⟩ : Addr) ≠ ⟨g, 0, none⟩ := by simp
  have n4 : (⟨g, 1, none⟩ : Addr) ≠ ⟨g, 2, none⟩ := by simp
  go_enter Try.func47, Try.ntmps47
  go_wp2
  go_end0
  exact ⟨⟨_, rfl⟩, ⟨rr_set_other (rr_set_other h0 n1) n3, rr_set_same (rr_set_other h1 n2), rr_set_other (rr_set_same h2) n4, by simp [f1], by simp [f2]⟩, World.grownBy.trans (rr_grown_set _ _ _ _) (rr_grown_set _ _ _ _)⟩
theorem rr_left (g : Nat) (A : Option Addr) (n c at_ : Nat) (bad : Bool) (w : World) (h : Rr w g A n c at_ bad) (ha : at_ ≤ n) (hn : n ≤ 9223372036854775807) :
    Calls Try.prog 37 #[.pointer (some ⟨g, 0, none⟩)] w fun e w' => e = .returned (.int .i64 ((n : Int) - at_)) ∧ Below w.heap.size w w' := by
  obtain ⟨h0, h1, h2, f1, f2⟩ := h
  have hg := Below.refl w.heap.size w
  go_enter Try.func37, Try.ntmps37
  go_wp2
  go_quiet (fail)
  go_wp2
  go_ret
  exact ⟨rfl, below_drewN (by go_grown) _⟩
def rrDone (n at_ : Nat) (bad : Bool) : Int := if bad = true ∨ at_ < n then 10 else 0
theorem rr_done (g : Nat) (A : Option Addr) (n c at_ : Nat) (bad : Bool) (w : World) (h : Rr w g A n c at_ bad) (ha : at_ ≤ n) (hn : n ≤ 9223372036854775807) :
    Calls Try.prog 38 #[.pointer (some ⟨g, 0, none⟩)] w fun e w' => e = .returned (.int .i64 (rrDone n at_ bad)) ∧ Below w.heap.size w w' := by
  have H := Lib.hid (rr_left g A n c at_ bad w h ha hn)
  obtain ⟨h0, h1, h2, f1, f2⟩ := h
  have hg := Below.refl w.heap.size w
  clear h0 h1 f1 f2
  cases bad with
  | true =>
    have hd : rrDone n at_ true = 10 := by simp [rrDone]
    rw [hd]
    clear hd
    go_enter Try.func38, Try.ntmps38
    go_wp2_with (go_at_call 37; refine H.out.mono ?_; rintro e w1 ⟨rfl, hg1⟩)
    go_ret
    exact ⟨rfl, by assumption⟩
  | false =>
    by_cases hl : at_ < n
    · have hd : rrDone n at_ false = 10 := by simp [rrDone, hl]
      have hl2 : (at_ : Int) < (n : Int) := by omega
      rw [hd]
      clear hd hl
      go_enter Try.func38, Try.ntmps38
      go_wp2_with (go_at_call 37; refine H.out.mono ?_; rintro e w1 ⟨rfl, hg1⟩)
      go_ret
      exact ⟨rfl, by assumption⟩
    · have hd : rrDone n at_ false = 0 := by simp [rrDone, hl]
      obtain rfl : at_ = n := by omega
      rw [hd]
      clear hd hl ha
      go_enter Try.func38, Try.ntmps38
      go_wp2_with (go_at_call 37; refine H.out.mono ?_; rintro e w1 ⟨rfl, hg1⟩)
      go_ret
      exact ⟨rfl, by assumption⟩
end Go.Proofs.Ytnkbbmfhdabbkaa
