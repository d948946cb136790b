/-
  ring's example.
-/
import Derived.Test.YtfphpbhopfhlcaaRingF
namespace Go.Proofs.Ytfphpbhopfhlcaa
open Go.RowKit
set_option linter.unusedVariables false
set_option linter.unusedSimpArgs false
theorem ring_lives (w : World) : Calls Try.prog 7 #[] w fun e w' => e = .returned (.bool true) ∧ Below w.heap.size w w' := by
  have HN := Lib.hid (rnew_yes (fun k => k < w.heap.size) 2 w (by decide) (by decide) (fun k h => h))
  go_enter Try.func7, Try.ntmps7
  go_wp2_with (go_at_call 8; refine HN.out.mono ?_; rintro e w1 ⟨rfl, hr1, hb1⟩)
  have hw1 := hb1.size
  have hr2 : Ring (fun k => k < w.heap.size ∨ k = w1.heap.size) (w1.alloc (Obj.cells #[Value.int IntKind.i64 1, Value.int IntKind.i64 2, Value.int IntKind.i64 3] 3)) w.heap.size 2 [] :=
    ring_widen hr1 ((Below.refl _ w1).alloc (Nat.le_refl _) _) (fun k hk => hk.elim .inl (fun e => .inr (by omega)))
  have hR : ReadsI (w1.alloc (Obj.cells #[Value.int IntKind.i64 1, Value.int IntKind.i64 2, Value.int IntKind.i64 3] 3)) (some ⟨w1.heap.size, 0, none⟩) [1, 2, 3] := fun _ => by
    refine ⟨_, rfl, fun j hj => ?_⟩
    have : j = 0 ∨ j = 1 ∨ j = 2 := by simp at hj; omega
    rcases this with rfl | rfl | rfl <;> simp [Addr.add]
  have HF := Lib.hid (rfill_any _ w.heap.size 2 3 [] [1, 2, 3] _ _ hr2 (fun k hk => by simp; exact hk.elim (fun h => by omega) (fun h => by omega)) hR (fun ad e _ => by cases e; exact .inr rfl) (by decide))
  have e1 : fillN 2 [] [1, 2, 3] = 2 := rfl
  have e2 : fillL 2 [] [1, 2, 3] = [1, 2] := rfl
  have hk1 : Kept (fun k => k < w.heap.size) w (w1.alloc (Obj.cells #[Value.int IntKind.i64 1, Value.int IntKind.i64 2, Value.int IntKind.i64 3] 3)) :=
    Kept.trans (Kept.trans (Kept.refl _ _) ⟨hb1.os, hb1.tape, hb1.output, hb1.size, fun k hk _ => hb1.block k hk⟩) (Kept.of_below ((Below.refl _ _).alloc (Nat.le_refl _) _))
  rw [e1, e2] at HF
  have HK1 := Lib.hid hk1
  clear hr2 hR hr1 hb1 e1 e2 hk1
  refine HF.out.mono ?_
  rintro e w2 ⟨rfl, hr2, hk2⟩
  have hr2' : Ring (fun k => k < w.heap.size) w2 w.heap.size 2 [1, 2] := ring_narrow hr2 (fun k h => .inl h)
  have HK2 := Lib.hid (HK1.out.trans (hk2.mono (fun k h => .inl h)))
  have HP := Lib.hid (rpop_any _ _ _ _ w2 hr2')
  clear hr2 hk2 hr2'
  go_wp2_with fail
  refine HP.out.mono ?_
  rintro e w3 ⟨rfl, hr3, hk3⟩
  have e1 : atV [1, 2] 0 = 1 := rfl
  have e2 : atOk [1, 2] 0 = true := rfl
  have e3 : cutL [1, 2] 0 = [2] := rfl
  rw [e1, e2]
  rw [e3] at hr3
  have HK3 := Lib.hid (HK2.out.trans hk3)
  have hs3 := HK3.out.size
  have HQ := Lib.hid (rpush_any _ _ _ _ 4 w3 hr3 (fun k hk => by omega))
  have e4 : pushE 2 [2] = 0 := rfl
  have e5 : pushL 2 [2] 4 = [2, 4] := rfl
  rw [e4, e5] at HQ
  clear hr3 hk3 e1 e2 e3 e4 e5
  go_wp2_with fail
  refine HQ.out.mono ?_
  rintro e w4 ⟨rfl, hr4, hk4⟩
  have HK4 := Lib.hid (HK3.out.trans hk4)
  have HC := Lib.hid (rcut_any _ _ _ _ 0 w4 hr4)
  clear hr4 hk4
  go_wp2_with fail
  refine HC.out.mono ?_
  rintro e w5 ⟨rfl, hr5, hk5⟩
  have e1 : atV [2, 4] 0 = 2 := rfl
  have e2 : atOk [2, 4] 0 = true := rfl
  have e3 : cutL [2, 4] 0 = [4] := rfl
  rw [e1, e2]
  rw [e3] at hr5
  have HK5 := Lib.hid (HK4.out.trans hk5)
  have HL := Lib.hid (rlen _ _ _ _ w5 hr5)
  clear hr5 hk5 e1 e2 e3
  go_wp2_with (go_at_call 11; refine HL.out.mono ?_; rintro e w6 ⟨rfl, rfl⟩)
  go_ret
  exact ⟨rfl, HK5.out.below (fun k h => h) (Nat.le_refl _)⟩
end Go.Proofs.Ytfphpbhopfhlcaa
