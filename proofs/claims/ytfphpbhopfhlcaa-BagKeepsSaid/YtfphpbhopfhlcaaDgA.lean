/-
  A datagram that came in by value.
-/
import Derived.Test.YtfphpbhopfhlcaaBagL
import Derived.Lib.SmallJoins
import Derived.Deep.Fields
import Derived.OpenShut
import Derived.KernelRfl
namespace Go.Proofs.Ytfphpbhopfhlcaa.D
open Go.Joins Go.ChangeShapes Go.WideShapes Go.RowKit Go.Deep
set_option linter.unusedVariables false
theorem cells49 : Try.prog.cellsOf 49 = 5 := by kernel_rfl
theorem cells47 : Try.prog.cellsOf 47 = 2 := by kernel_rfl
theorem cells44 : Try.prog.cellsOf 44 = 1 := by kernel_rfl
theorem cells45 : Try.prog.cellsOf 45 = 1 := by kernel_rfl
theorem cells9 : Try.prog.cellsOf 9 = 1 := by kernel_rfl
theorem open_addr {H : Type} {enc : TypeId × Value → H} {w : World} {base : Nat} {spare : Nat → Bool} {held : Bool} {n : Nat} {c0 c1 : Value} {x : DataW H × List MemPlace}
    (h : DataW.trod enc Try.prog w base spare held n 47 [c0, c1] = some x) : ∃ a b, c0 = .int .u32 a ∧ c1 = .int .u16 b ∧ (Lit.int .u32 a).wf = true ∧ (Lit.int .u16 b).wf = true := by
  obtain ⟨xs, n, _, hx, _, hlen, hg⟩ := DataW.trod_struct Try.underlying47 h
  match xs, hlen with
  | [y0, y1], _ =>
    have g0 := hg 0 _ rfl
    have g1 := hg 1 _ rfl
    simp [cells44] at g0
    simp [cells45] at g1
    obtain ⟨a, e0, -, w0⟩ := DataW.trod_int Try.underlying44 g0
    obtain ⟨b, e1, -, w1⟩ := DataW.trod_int Try.underlying45 g1
    simp at e0 e1
    exact ⟨a, b, e0, e1, w0, w1⟩
theorem open_cells {H : Type} {enc : TypeId × Value → H} {w : World} {base : Nat} {spare : Nat → Bool} {held : Bool} {n : Nat} {c0 c1 c2 c3 c4 : Value} {x : DataW H × List MemPlace}
    (h : DataW.trod enc Try.prog w base spare held n 49 [c0, c1, c2, c3, c4] = some x) :
    ∃ d : Dg, c0 = .int .u32 d.h1 ∧ c1 = .int .u16 d.p1 ∧ c2 = .int .u32 d.h2 ∧ c3 = .int .u16 d.p2 ∧ c4 = .string d.s ∧ d.s.size ≤ maxLen ∧ (Lit.int .u32 d.h1).wf = true ∧ (Lit.int .u16 d.p1).wf = true ∧ (Lit.int .u32 d.h2).wf = true ∧ (Lit.int .u16 d.p2).wf = true := by
  obtain ⟨xs, n, _, hx, _, hlen, hg⟩ := DataW.trod_struct Try.underlying49 h
  match xs, hlen with
  | [y0, y1, y2], _ =>
    have g0 := hg 0 _ rfl
    have g1 := hg 1 _ rfl
    have g2 := hg 2 _ rfl
    simp [cells47] at g0
    simp [cells47] at g1
    simp [cells9] at g2
    obtain ⟨a, b, rfl, rfl, wa, wb⟩ := open_addr g0
    obtain ⟨a', b', rfl, rfl, wa', wb'⟩ := open_addr g1
    obtain ⟨s, e, -, hs⟩ := DataW.trod_string Try.underlying9 g2
    simp at e
    exact ⟨⟨a, b, a', b', s⟩, rfl, rfl, rfl, rfl, e, hs, wa, wb, wa', wb'⟩
theorem open_dg {H : Type} {enc : TypeId × Value → H} {w : World} {base : Nat} {spare : Nat → Bool} {held : Bool} {r : Reach} {b0 : Nat} {v : Value} {d : DataW H} {p : List MemPlace}
    (hv : Value.okWide Try.prog w r b0 49 v) (h : DataW.Trod enc Try.prog w base spare held 49 v d p) : ∃ x : Dg, v = dv x ∧ x.s.size ≤ maxLen := by
  obtain ⟨cs, rfl, hsz⟩ := okWide_struct Try.underlying49 hv
  obtain ⟨l⟩ := cs
  match l, hsz.trans cells49 with
  | [c0, c1, c2, c3, c4], _ =>
    obtain ⟨fuel, hf⟩ := h
    obtain ⟨x, rfl, rfl, rfl, rfl, rfl, hs, -⟩ := open_cells hf
    exact ⟨x, rfl, hs⟩
end Go.Proofs.Ytfphpbhopfhlcaa.D
