/-
  Addresses that came in; the listed table.
-/
import Derived.Test.YtnkbbmfhdabbkaaDoorKit
import Derived.Test.YtnkbbmfhdabbkaaDoorSh
import Derived.Test.YtnkbbmfhdabbkaaDoorRows
import Derived.Lib.SmallJoins
import Derived.Lib.LaidTab
namespace Go.Proofs.YtnkbbmfhdabbkaaDoor
open Go.RowKit Go.Joins
set_option linter.unusedVariables false
set_option linter.unusedSimpArgs false
theorem cells25 : Tryd.prog.cellsOf 25 = 2 := by kernel_rfl
theorem open_addr {H : Type} {enc : TypeId × Value → H} {w : World} {base : Nat} {spare : Nat → Bool} {held : Bool} {r : Reach} {b0 : Nat} {v : Value} {d : DataW H} {p : List MemPlace}
    (hv : Value.okWide Tryd.prog w r b0 25 v) (h : DataW.Trod enc Tryd.prog w base spare held 25 v d p) : ∃ a b : Nat, v = .agg #[.int .u32 (a : Int), .int .u16 (b : Int)] ∧ a < 4294967296 ∧ b < 65536 := by
  obtain ⟨c0, c1, y0, y1, m, rfl, rfl, rfl, hy0, hy1⟩ := open_agg2 Tryd.underlying25 (by kernel_rfl) cells25 hv h
  obtain ⟨a, e0, rfl, wa⟩ := DataW.trod_int Tryd.underlying22 hy0
  obtain ⟨b, e1, rfl, wb⟩ := DataW.trod_int Tryd.underlying23 hy1
  simp at e0 e1
  subst e0 e1
  simp [Lit.wf] at wa wb
  have q1 : IntKind.u32.min = 0 := by decide
  have q2 : IntKind.u32.max = 4294967295 := by decide
  have q3 : IntKind.u16.min = 0 := by decide
  have q4 : IntKind.u16.max = 65535 := by decide
  refine ⟨a.toNat, b.toNat, ?_, by omega, by omega⟩
  rw [show ((a.toNat : Nat) : Int) = a by omega, show ((b.toNat : Nat) : Int) = b by omega]
theorem gTabType : (Tryd.prog.globals[1]?).map (·.type) = some 77 := by kernel_rfl
theorem gTab : Tryd.prog.globalNamed "internal/strconv.uint64pow10" = some 1 := by kernel_rfl
theorem tab_of_vars {W : World} {ps : List MemPlace} (h : DataW.LaidVars Tryd.prog W [("internal/strconv.uint64pow10", Rows.laid_internal_strconv_uint64pow10)] ps) : Lib.TabIs Tryd.prog W "internal/strconv.uint64pow10" .u64 Lib.pow10Tab := by
  have e : (Rows.laid_internal_strconv_uint64pow10 : DataW Unit) = Lib.tabData .u64 Lib.pow10Tab := by rfl
  rw [e] at h
  obtain ⟨g', t', cs, fuel, p, q, hg', ht', hvar, hd, _, _⟩ := h
  obtain rfl := Option.some.inj (gTab.symm.trans hg')
  obtain rfl := Option.some.inj (gTabType.symm.trans ht')
  unfold Lib.TabIs
  rw [hvar, ← Lib.cells_of_tab Tryd.underlying77 Tryd.underlying50 (by kernel_rfl) (by kernel_rfl) hd]
end Go.Proofs.YtnkbbmfhdabbkaaDoor
