/-
  Small words for walks, the same for each seat: contracts whose world has only new blocks, and their chaining.
-/
import Derived.WalkKit
import Derived.Lib.Hide
import Derived.Handy
import Derived.Deep.QuietTactic
import Derived.BigQuiet
import Derived.WalkSpells
import Derived.OpenShut
import Derived.Below
import Derived.Deep.Draws
namespace Go.Proofs.YtnkbbmfhdabbkaaDoor
open Go.RowKit
set_option linter.unusedVariables false

theorem ret_int {k : IntKind} {a b : Int} (h : a = b) : Ending.returned (.int k a) = .returned (.int k b) := by rw [h]
theorem ret_val {a b : Value} (h : a = b) : Ending.returned a = .returned b := by rw [h]
theorem below_drewN {B : Nat} {a w : World} (h : Below B a w) (n : Nat) : Below B a (w.drewN n) := ⟨h.os, h.tape, h.output, h.size, h.block⟩
/-- A contract whose world has grown since 'base'. -/
theorem based {P : Program} {f : FuncId} {args : Array Value} {w base : World} {v : Ending} (h : Calls P f args w fun e w' => e = v ∧ Below w.heap.size w w') (hb : Below base.heap.size base w) :
    Calls P f args w fun e w' => e = v ∧ Below base.heap.size base w' := h.mono fun _ _ ⟨h1, h2⟩ => ⟨h1, hb.trans (h2.mono hb.size)⟩
theorem basedN {P : Program} {f : FuncId} {args : Array Value} {w base : World} {v : Ending} {B : Nat} (h : Calls P f args w fun e w' => e = v ∧ Below w.heap.size w w') (hb : Below B base w) (hB : B ≤ w.heap.size) :
    Calls P f args w fun e w' => e = v ∧ Below B base w' := h.mono fun _ _ ⟨h1, h2⟩ => ⟨h1, hb.trans (h2.mono hB)⟩
theorem same_below {P : Program} {f : FuncId} {args : Array Value} {w : World} {v : Ending} (h : Calls P f args w fun e w' => e = v ∧ w = w') :
    Calls P f args w fun e w' => e = v ∧ Below w.heap.size w w' := h.mono fun _ _ ⟨h1, h2⟩ => ⟨h1, h2 ▸ Below.refl _ _⟩
theorem flip_same {P : Program} {f : FuncId} {args : Array Value} {w : World} {v : Ending} (h : Calls P f args w fun e w' => e = v ∧ w = w') :
    Calls P f args w fun e w' => e = v ∧ w' = w := h.mono fun _ _ ⟨h1, h2⟩ => ⟨h1, h2.symm⟩
theorem bnd_u64 {n : Int} (h : (Lit.int .u64 n).wf = true) : 0 ≤ n ∧ n ≤ 18446744073709551615 := bounds_u64 h

/-- A slice of integers that came in: nil, or a row of cells. -/
def IsRow (k : IntKind) (w : World) (a : Option Addr) (len cap : Nat) (zs : List Int) : Prop :=
  (a = none ∧ len = 0 ∧ cap = 0 ∧ zs = []) ∨
  ∃ x, a = some x ∧ len ≤ cap ∧ cap ≤ maxLen ∧ zs.length = cap ∧ (∀ i, i < zs.length → w.cell? (x.add i) = some (.int k (zs.getD i 0))) ∧ ∀ n ∈ zs, (Lit.int k n).wf = true
end Go.Proofs.YtnkbbmfhdabbkaaDoor
