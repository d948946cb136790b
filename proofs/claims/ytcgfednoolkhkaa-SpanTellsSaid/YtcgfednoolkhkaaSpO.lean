/-
  An id that came in by value: its twenty bytes.
-/
import Derived.Test.YtcgfednoolkhkaaSp
import Derived.Lib.SmallJoins
import Derived.OpenShut
import Derived.KernelRfl
namespace Go.Proofs.Ytcgfednoolkhkaa
open Go.Joins Go.ChangeShapes Go.WideShapes Go.RowKit
set_option linter.unusedVariables false
theorem cells41 : Try.prog.cellsOf 41 = 20 := by kernel_rfl
theorem cellsOf5 : Try.prog.cellsOf 5 = 1 := by kernel_rfl
def byteOf : Value → Nat
  | .int _ n => n.toNat
  | _ => 0
theorem open_id {H : Type} {enc : TypeId × Value → H} {w : World} {base : Nat} {spare : Nat → Bool} {held : Bool} {r : Reach} {b0 : Nat} {v : Value} {d : DataW H} {p : List MemPlace}
    (hv : Value.okWide Try.prog w r b0 41 v) (h : DataW.Trod enc Try.prog w base spare held 41 v d p) : ∃ l : List Nat, v = idv l ∧ Id l := by
  have hv' := hv
  unfold Value.okWide at hv'
  rw [Try.underlying41] at hv'
  obtain ⟨cs, rfl, hsz, -⟩ := hv'
  rw [cells41] at hsz
  obtain ⟨fuel, hf⟩ := h
  obtain ⟨xs, m, -, -, -, hlen, hg⟩ := DataW.trod_array Try.underlying41 hf
  have key : ∀ i, i < 20 → ∃ n : Nat, cs.toList[i]? = some (.int .u8 (n : Int)) ∧ n < 256 := by
    intro i hi
    have hx := hg i hi
    rw [cellsOf5, List.getElem?_eq_getElem (by omega)] at hx
    obtain ⟨a, e0, -, wf⟩ := DataW.trod_int Try.underlying5 hx
    have e1 : IntKind.u8.min = 0 := by decide
    have e2 : IntKind.u8.max = 255 := by decide
    simp [Lit.wf] at wf
    refine ⟨a.toNat, ?_, by omega⟩
    rw [show ((a.toNat : Nat) : Int) = a by omega]
    have := congrArg (fun l : List Value => l[0]?) e0
    simpa [List.getElem?_take, List.getElem?_drop, Value.cells] using this
  refine ⟨cs.toList.map byteOf, ?_, by simpa using hsz, ?_⟩
  · unfold idv
    congr 1
    apply Array.toList_inj.1
    rw [List.toList_toArray]
    apply List.ext_getElem?
    intro i
    by_cases hi : i < 20
    · obtain ⟨n, hn, -⟩ := key i hi
      simp only [idc, List.getElem?_map, hn]
      simp [byteOf]
    · rw [List.getElem?_eq_none (by simpa using (by omega : cs.size ≤ i)), List.getElem?_eq_none (by simp [idc]; omega)]
  · intro b hb
    obtain ⟨u, hu, rfl⟩ := List.mem_map.1 hb
    obtain ⟨i, hi, rfl⟩ := List.mem_iff_getElem.1 hu
    obtain ⟨n, hn, hlt⟩ := key i (by simp at hi; omega)
    rw [List.getElem?_eq_getElem hi] at hn
    cases hn' : cs.toList[i]
    all_goals (rw [hn'] at hn; simp at hn)
    simp [byteOf]; omega
end Go.Proofs.Ytcgfednoolkhkaa
