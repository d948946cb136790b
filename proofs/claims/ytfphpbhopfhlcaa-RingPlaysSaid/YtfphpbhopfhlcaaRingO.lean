/-
  Rows of bools that came in; runs of numbers.
-/
import Derived.Test.YtfphpbhopfhlcaaRingL
import Derived.Deep.Grids
namespace Go.Proofs.Ytfphpbhopfhlcaa
open Go.RowKit
set_option linter.unusedVariables false
set_option linter.unusedSimpArgs false
def ReadsB (w : World) (A : Option Addr) (n : Nat) (B : Nat → Bool) : Prop := 0 < n → ∃ ad, A = some ad ∧ ∀ j, j < n → w.cell? (ad.add j) = some (.bool (B j))
theorem open_boolsR {H : Type} {enc : TypeId × Value → H} {w : World} {base : Nat} {held : Bool} {t e : TypeId} {A : Option Addr} {len cap : Nat} {x : DataW H × List MemPlace}
    (ht : Try.prog.underlying t = some (.slice e)) (he : Try.prog.underlying e = some .bool) (hc : Try.prog.cellsOf e = 1)
    (h : ∃ fuel, DataW.trod enc Try.prog w base (fun _ => true) held fuel t (Value.slice A len cap).cells.toList = some x) : ∃ B, ReadsB w A len B := by
  obtain ⟨fuel, hf⟩ := h
  rcases Go.Deep.open_bools ht he hc hf with ⟨hcs, _⟩ | ⟨a, l, c, B, hcs, _, hl, hm, _, hcell⟩
  · simp [Value.cells] at hcs
    obtain ⟨rfl, rfl, rfl⟩ := hcs
    exact ⟨fun _ => false, fun h => absurd h (by omega)⟩
  · simp [Value.cells] at hcs
    obtain ⟨rfl, rfl, rfl⟩ := hcs
    exact ⟨B, fun hn => ⟨_, rfl, fun j hj => hcell j (by omega)⟩⟩
theorem readsB_below {w w' : World} {A : Option Addr} {n : Nat} {B : Nat → Bool} (h : ReadsB w A n B) (hb : Below w.heap.size w w') : ReadsB w' A n B := fun hn => by
  obtain ⟨ad, e, hc⟩ := h hn
  exact ⟨ad, e, fun j hj => cell_below hb (hc j hj)⟩
theorem cell_below' {B : Nat} {w w' : World} {p : Addr} {v : Value} (hb : Below B w w') (h : w.cell? p = some v) (hB : B = w.heap.size := by rfl) : w'.cell? p = some v := cell_below (hB ▸ hb) h
/-- The numbers from o on, below i. -/
def seqL (o i : Nat) : List Int := (List.range (i - o)).map fun t => ((o + t : Nat) : Int)
theorem seq_len (o i : Nat) : (seqL o i).length = i - o := by simp [seqL]
theorem seq_getD (o i t : Nat) (h : t < i - o) : (seqL o i).getD t 0 = ((o + t : Nat) : Int) := by simp [seqL, List.getD, h]
theorem seq_push (most o i : Nat) (h : o ≤ i) (hm : i - o < most) : pushL most (seqL o i) i = seqL o (i + 1) := by
  rw [pushL, seq_len, if_pos hm, seqL, seqL, show i + 1 - o = (i - o) + 1 by omega, List.range_succ, List.map_append]
  congr 1
  simp; omega
theorem seq_cut (o i : Nat) (h : o < i) : cutL (seqL o i) 0 = seqL (o + 1) i := by
  have hok : atOk (seqL o i) 0 = true := decide_eq_true ⟨by omega, by rw [seq_len]; omega⟩
  rw [cutL, if_pos hok]
  refine ext_getD (by rw [List.length_eraseIdx, seq_len, seq_len]; simp only [Int.toNat_zero]; split <;> omega) fun t ht => ?_
  rw [List.length_eraseIdx, seq_len] at ht
  simp only [Int.toNat_zero] at ht
  have ht' : t < i - o - 1 := by split at ht <;> omega
  rw [seq_getD _ _ _ (by omega)]
  have : ((seqL o i).eraseIdx (0 : Int).toNat).getD t 0 = (seqL o i).getD (t + 1) 0 := by simp [List.getD, List.getElem?_eraseIdx]
  rw [this, seq_getD _ _ _ (by omega)]
  congr 1; omega
end Go.Proofs.Ytfphpbhopfhlcaa
