/-
  A header that came in by value: its six numbers.
-/
import Derived.Test.YtnkbbmfhdabbkaaProg
import Derived.Lib.SmallJoins
import Derived.Deep.Fields
import Derived.OpenShut
import Derived.KernelRfl
namespace Go.Proofs.Ytnkbbmfhdabbkaa
open Go.Joins Go.ChangeShapes Go.WideShapes Go.RowKit Go.Deep
set_option linter.unusedVariables false
section
variable {H : Type} {enc : TypeId × Value → H} {P : Program} {w : World} {base : Nat} {spare : Nat → Bool} {held : Bool}
theorem open_agg6 {r : Reach} {b0 : Nat} {t : TypeId} {f0 f1 f2 f3 f4 f5 : Field} {v : Value} {d : DataW H} {p : List MemPlace} (hs : P.underlying t = some (.struct #[f0, f1, f2, f3, f4, f5])) (hone : oneCellFields P #[f0, f1, f2, f3, f4, f5] = true) (hC : P.cellsOf t = 6)
    (hv : Value.okWide P w r b0 t v) (h : DataW.Trod enc P w base spare held t v d p) :
    ∃ (v0 v1 v2 v3 v4 v5 : Value) (y0 y1 y2 y3 y4 y5 : DataW H × List MemPlace) (n : Nat), v = .agg #[v0, v1, v2, v3, v4, v5] ∧ d = .agg [y0.1, y1.1, y2.1, y3.1, y4.1, y5.1] ∧ p = y0.2 ++ (y1.2 ++ (y2.2 ++ (y3.2 ++ (y4.2 ++ y5.2)))) ∧
      DataW.trod enc P w base spare held n f0.type [v0] = some y0 ∧ DataW.trod enc P w base spare held n f1.type [v1] = some y1 ∧ DataW.trod enc P w base spare held n f2.type [v2] = some y2 ∧ DataW.trod enc P w base spare held n f3.type [v3] = some y3 ∧ DataW.trod enc P w base spare held n f4.type [v4] = some y4 ∧ DataW.trod enc P w base spare held n f5.type [v5] = some y5 := by
  obtain ⟨cs, rfl, hsz⟩ := okWide_struct hs hv
  obtain ⟨l⟩ := cs
  match l, hsz.trans hC with
  | [c0, c1, c2, c3, c4, c5], _ =>
    obtain ⟨fuel, hf⟩ := h
    obtain ⟨xs, n, _, hx, _, hlen, hg⟩ := DataW.trod_struct hs hf
    obtain ⟨o0, k0⟩ := hone_of hone 0 f0 rfl
    obtain ⟨o1, k1⟩ := hone_of hone 1 f1 rfl
    obtain ⟨o2, k2⟩ := hone_of hone 2 f2 rfl
    obtain ⟨o3, k3⟩ := hone_of hone 3 f3 rfl
    obtain ⟨o4, k4⟩ := hone_of hone 4 f4 rfl
    obtain ⟨o5, k5⟩ := hone_of hone 5 f5 rfl
    match xs, hlen with
    | [y0, y1, y2, y3, y4, y5], _ =>
      simp only [Prod.mk.injEq] at hx
      exact ⟨c0, c1, c2, c3, c4, c5, y0, y1, y2, y3, y4, y5, n, rfl, by simpa using hx.1, by simpa using hx.2, by simpa [Value.cells, o0, k0] using hg 0 f0 rfl, by simpa [Value.cells, o1, k1] using hg 1 f1 rfl, by simpa [Value.cells, o2, k2] using hg 2 f2 rfl, by simpa [Value.cells, o3, k3] using hg 3 f3 rfl, by simpa [Value.cells, o4, k4] using hg 4 f4 rfl, by simpa [Value.cells, o5, k5] using hg 5 f5 rfl⟩
end
theorem cells36 : Try.prog.cellsOf 36 = 6 := by kernel_rfl
theorem open_hdr {H : Type} {enc : TypeId × Value → H} {w : World} {base : Nat} {spare : Nat → Bool} {held : Bool} {r : Reach} {b0 : Nat} {v : Value} {d : DataW H} {p : List MemPlace}
    (hv : Value.okWide Try.prog w r b0 36 v) (h : DataW.Trod enc Try.prog w base spare held 36 v d p) :
    ∃ a f q n u e : Int, v = .agg #[.int .u16 a, .int .u16 f, .int .u16 q, .int .u16 n, .int .u16 u, .int .u16 e] ∧ (Lit.int .u16 a).wf = true ∧ (Lit.int .u16 f).wf = true ∧ (Lit.int .u16 q).wf = true ∧
      (Lit.int .u16 n).wf = true ∧ (Lit.int .u16 u).wf = true ∧ (Lit.int .u16 e).wf = true := by
  obtain ⟨v0, v1, v2, v3, v4, v5, y0, y1, y2, y3, y4, y5, m, rfl, -, -, h0, h1, h2, h3, h4, h5⟩ := open_agg6 Try.underlying36 (by kernel_rfl) cells36 hv h
  obtain ⟨a, e0, -, w0⟩ := DataW.trod_int Try.underlying34 h0
  obtain ⟨f, e1, -, w1⟩ := DataW.trod_int Try.underlying34 h1
  obtain ⟨q, e2, -, w2⟩ := DataW.trod_int Try.underlying34 h2
  obtain ⟨n, e3, -, w3⟩ := DataW.trod_int Try.underlying34 h3
  obtain ⟨u, e4, -, w4⟩ := DataW.trod_int Try.underlying34 h4
  obtain ⟨e, e5, -, w5⟩ := DataW.trod_int Try.underlying34 h5
  simp at e0 e1 e2 e3 e4 e5
  exact ⟨a, f, q, n, u, e, by rw [e0, e1, e2, e3, e4, e5], w0, w1, w2, w3, w4, w5⟩
end Go.Proofs.Ytnkbbmfhdabbkaa
