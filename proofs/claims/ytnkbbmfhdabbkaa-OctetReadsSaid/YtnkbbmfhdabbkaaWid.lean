/-
  The law's width by a list, and slices of texts.
-/
import Derived.Test.YtnkbbmfhdabbkaaProg
import Derived.Test.YtnkbbmfhdabbkaaKit
import Derived.Test.YtnkbbmfhdabbkaaWWords
import Derived.SliceStrings
namespace Go.Proofs.Ytnkbbmfhdabbkaa
open Go.RowKit Go.Proofs.YtnkbbmfhdabbkaaW.PrintWords
set_option linter.unusedVariables false
set_option linter.unusedSimpArgs false

/-- The width at i. -/
def wdt (W : List Int) (i : Nat) : Nat := if i < W.length then 1 + (W.getD i 0 % 8).toNat else 4
theorem wdt_bd (W : List Int) (i : Nat) : 1 ≤ wdt W i ∧ wdt W i ≤ 8 := by unfold wdt; split <;> omega
theorem wdt_in {W : List Int} {i : Nat} (h : i < W.length) : (wdt W i : Int) = 1 + (W.getD i 0) % 8 := by unfold wdt; rw [if_pos h]; omega
theorem wdt_out {W : List Int} {i : Nat} (h : ¬ i < W.length) : (wdt W i : Int) = 4 := by unfold wdt; rw [if_neg h]; rfl
theorem wid_wrap (x : Int) (h0 : -9223372036854775808 ≤ x) (h1 : x ≤ 9223372036854775807) : IntKind.u64.wrap x = if 0 ≤ x then x else x + 18446744073709551616 := by
  simp only [IntKind.wrap, IntKind.signed, IntKind.bits, Bool.false_and, Bool.false_eq_true, if_false]
  split <;> omega
theorem width_any (A : Option Addr) (c : Nat) (W : List Int) (i : Nat) (w : World) (HR : ReadsInt w .i64 A W.length W) (hi : i ≤ 9223372036854775807) (hW : ∀ x ∈ W, -9223372036854775808 ≤ x ∧ x ≤ 9223372036854775807) :
    Calls Try.prog 26 #[.slice A W.length c, .int .i64 i] w fun e w' => e = .returned (.int .i64 (wdt W i)) ∧ w = w' := by
  by_cases h : i < W.length
  · have hd := wdt_in h
    have hb := hW (W.getD i 0) (by rw [List.getD_eq_getElem?_getD, List.getElem?_eq_getElem h]; exact List.getElem_mem h)
    obtain ⟨ad, rfl, hc⟩ := HR.at_ i (by omega) (by omega)
    have hw := wid_wrap _ hb.1 hb.2
    have hlen := HR.2.1
    simp only [rd, Int.toNat_natCast] at hc
    generalize W.getD i 0 = x at *
    generalize (wdt W i : Int) = d at *
    have hD : (IntKind.u64.wrap x).tmod 8 = x % 8 := by
      rw [hw, Int.tmod_eq_emod_of_nonneg (by split <;> omega)]
      split <;> omega
    have HD := Lib.hid hD
    have Hd := Lib.hid hd
    clear HR hW hw hD hd
    go_enter Try.func26, Try.ntmps26
    go_wp2
    go_ret
    refine ⟨ret_val ?_, rfl⟩
    show Value.int .i64 (wrap64 (1 + wrap64 ((IntKind.u64.wrap x).tmod 8))) = _
    rw [HD.out, Hd.out, show wrap64 (x % 8) = x % 8 by unfold wrap64; omega, show wrap64 (1 + x % 8) = 1 + x % 8 by unfold wrap64; omega]
  · have hd := wdt_out h
    have hlen := HR.2.1
    clear HR hW
    rw [hd]
    clear hd
    go_enter Try.func26, Try.ntmps26
    go_wp2
    go_ret
    exact ⟨rfl, rfl⟩
/-- A slice of texts that is read. -/
def ReadsStr (w : World) (A : Option Addr) (n c : Nat) (ss : List ByteArray) : Prop :=
  ss.length = n ∧ n ≤ c ∧ c ≤ maxLen ∧ (0 < n → ∃ ad, A = some ad ∧ ∀ j, j < n → w.cell? (ad.add j) = some (.string (ss.getD j ByteArray.empty))) ∧ ∀ s ∈ ss, s.size ≤ maxLen
theorem ReadsStr.below {w w1 : World} {A : Option Addr} {n c : Nat} {ss : List ByteArray} (h : ReadsStr w A n c ss) (hb : Below w.heap.size w w1) : ReadsStr w1 A n c ss :=
  ⟨h.1, h.2.1, h.2.2.1, fun hn => by
    obtain ⟨ad, e, hc⟩ := h.2.2.2.1 hn
    exact ⟨ad, e, fun j hj => pw_cell_below hb (hc j hj)⟩, h.2.2.2.2⟩
theorem open_strs {H : Type} {enc : TypeId × Value → H} {w : World} {base : Nat} {spare : Nat → Bool} {held : Bool} {t e : TypeId} {A : Option Addr} {len cap : Nat} {x : DataW H × List MemPlace}
    (ht : Try.prog.underlying t = some (.slice e)) (he : Try.prog.underlying e = some .string) (hc : Try.prog.cellsOf e = 1)
    (h : ∃ fuel, DataW.trod enc Try.prog w base spare held fuel t (Value.slice A len cap).cells.toList = some x) : ∃ ss, ReadsStr w A len cap ss := by
  obtain ⟨fuel, hf⟩ := h
  rcases Go.ChangeShapes.open_strings ht he hc hf with ⟨hcs, _⟩ | ⟨a, l, c, ss, hcs, _, hl, hm, hz, _, hcell, hwz⟩
  · simp [Value.cells] at hcs
    obtain ⟨rfl, rfl, rfl⟩ := hcs
    exact ⟨[], rfl, Nat.le_refl _, Nat.zero_le _, fun h => absurd h (by omega), fun s hs => by simp at hs⟩
  · simp [Value.cells] at hcs
    obtain ⟨rfl, rfl, rfl⟩ := hcs
    have hlen : len ≤ ss.length := by rw [hz]; split <;> omega
    refine ⟨ss.take len, by simp; omega, hl, hm, fun hn => ⟨_, rfl, fun j hj => ?_⟩, fun s hs => hwz s (List.mem_of_mem_take hs)⟩
    rw [hcell j (by omega)]
    congr 2
    simp [List.getD_eq_getElem?_getD, List.getElem?_take, hj]
end Go.Proofs.Ytnkbbmfhdabbkaa
