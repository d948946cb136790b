/-
  addr: the chapter's example.
-/
import Derived.Test.YtnkbbmfhdabbkaaDoorD
namespace Go.Proofs.YtnkbbmfhdabbkaaDoor
open Go.RowKit Go.Proofs.YtnkbbmfhdabbkaaDoorW.PrintWords
set_option linter.unusedVariables false
set_option linter.unusedSimpArgs false
set_option maxRecDepth 100000
@[go_sem high] theorem build25n (w : World) : (Instr.build 25 #[]).run Tryd.prog w = .ok (.agg #[.int .u32 0, .int .u16 0]) w := run_build w 25 _ _ (by kernel_rfl)
@[go_sem high] theorem build25 (a b : Int) (w : World) : (Instr.build 25 #[(0, .int .u32 a), (1, .int .u16 b)]).run Tryd.prog w = .ok (.agg #[.int .u32 a, .int .u16 b]) w := run_build w 25 _ _ (by kernel_rfl)
theorem live_text : str (aText 167772161 80) = ⟨#[49, 48, 46, 48, 46, 48, 46, 49, 58, 56, 48]⟩ := by
  have h0 : hb 167772161 0 = 10 := by decide
  have h1 : hb 167772161 1 = 0 := by decide
  have h2 : hb 167772161 2 = 0 := by decide
  have h3 : hb 167772161 3 = 1 := by decide
  have d10 := Lib.decDigits_two (i := 10) (by decide) (by decide)
  have d0 := Lib.decDigits_one (i := 0) (by decide)
  have d1 := Lib.decDigits_one (i := 1) (by decide)
  have d80 := Lib.decDigits_two (i := 80) (by decide) (by decide)
  simp only [aText, preT, h0, h1, h2, h3, d10, d0, d1, d80]
  rfl
set_option maxHeartbeats 400000 in
theorem alives (w : World) (ht : TabAt w) : Calls Tryd.prog 14 #[] w fun e w' => e = .returned (.bool true) ∧ Below w.heap.size w w' := by
  have HB := Lib.hid ((Below.refl w.heap.size w).alloc (Nat.le_refl _) (.cells #[.int .u32 167772161, .int .u16 80] 25))
  have BK := Lib.hid (blk_new w (.cells #[.int .u32 167772161, .int .u16 80] 25))
  have HT := Lib.hid (tab_on ht HB.out)
  have hx : ∀ W, TabAt W → Calls Tryd.prog 8 #[.agg #[.int .u32 167772161, .int .u16 80]] W fun e w' => e = .returned (.string (str (aText 167772161 80))) ∧ Below W.heap.size W w' := fun W hW => atext 167772161 80 W (by decide) (by decide) hW
  rw [live_text] at hx
  have HX := Lib.hid hx
  clear hx
  have HG1 := Lib.hid (fun W => PA.addr_Good.calls 167772161 80 true W (by rfl))
  have HG2 := Lib.hid (fun W => PA.addr_Good.calls 0 0 false W (by rfl))
  clear ht
  go_enter Tryd.func14, Tryd.ntmps14
  go_upto_region 2 with fail
  generalize hg : w.heap.size = g at *
  generalize (167772161 : Int) = hv at *
  generalize (80 : Int) = pv at *
  generalize World.alloc w _ = W0 at *
  generalize (⟨#[49, 48, 46, 48, 46, 48, 46, 49, 58, 56, 48]⟩ : ByteArray) = st at *
  have c0 : W0.cell? ⟨g, 0, none⟩ = some (.int .u32 hv) := (blk_cell BK.out 0).trans rfl
  have c1 : W0.cell? ⟨g, 1, none⟩ = some (.int .u16 pv) := (blk_cell BK.out 1).trans rfl
  go_wp2_with (first
    | (go_at_call 8; refine (HX.out W0 HT.out).mono ?_; rintro e w1 ⟨rfl, hb1⟩; have d0 : w1.cell? ⟨g, 0, none⟩ = some (.int .u32 hv) := (blk_cell (blk_below BK.out hb1) 0).trans rfl; have d1 : w1.cell? ⟨g, 1, none⟩ = some (.int .u16 pv) := (blk_cell (blk_below BK.out hb1) 1).trans rfl)
    | (go_at_call 6; with_reducible refine (HG1.out _).mono ?_; rintro e w2 ⟨rfl, hb2⟩)
    | (go_at_call 6; with_reducible refine (HG2.out _).mono ?_; rintro e w3 ⟨rfl, hb3⟩))
  go_ret
  exact ⟨rfl, hg ▸ HB.out.trans ((hb1.trans ((hb2.trans (hb3.mono hb2.size)).mono hb1.size)).mono (by have := HB.out.size; omega))⟩
end Go.Proofs.YtnkbbmfhdabbkaaDoor
