/-
  span: a row of integers that is read; where ways meet whose new block is not known; a number reduced to a place.
-/
import Derived.Test.YtcgfednoolkhkaaSpG
namespace Go.Proofs.Ytcgfednoolkhkaa
open Go.RowKit
set_option linter.unusedVariables false
/-- A row of integers, at its cells. -/
def RowI (w : World) (a : Option Addr) (xs : List Int) : Prop := xs ≠ [] → ∃ g, a = some ⟨g, 0, none⟩ ∧ ∀ j x, xs[j]? = some x → w.cell? ⟨g, j, none⟩ = some (.int .i64 x)
theorem rowI_below {w w' : World} {a : Option Addr} {xs : List Int} (h : RowI w a xs) (hb : Below w.heap.size w w') : RowI w' a xs := fun hne => by
  obtain ⟨g, e, hc⟩ := h hne
  exact ⟨g, e, fun j x hx => cell_below hb (hc j x hx)⟩
theorem rowI_own {w : World} {base : Nat} {v : Value} {xs : List Int} (h : w.ownsRow base 3 1 v xs.length (Go.Proofs.YtcgfednoolkhkaaW.PrintWords.nums .i64 xs)) : ∃ a cap, v = .slice a xs.length cap ∧ RowI w a xs := by
  rcases h.2 with ⟨e, hn⟩ | ⟨g, cap, cur, e, -⟩
  · obtain rfl : xs = [] := List.eq_nil_of_length_eq_zero hn
    exact ⟨none, 0, e, fun h => absurd rfl h⟩
  · subst e
    refine ⟨_, cap, rfl, fun hne => ⟨g, rfl, fun j x hx => ?_⟩⟩
    have hj : j < xs.length := by
      rcases Nat.lt_or_ge j xs.length with h1 | h1
      · exact h1
      · simp [List.getElem?_eq_none h1] at hx
    rw [h.cellAt j (by omega)]
    simp [Go.Proofs.YtcgfednoolkhkaaW.PrintWords.nums, hx]
theorem rnearer2 (o t : List Nat) (w : World) (ho : Id o) (ht : Id t) :
    Calls Try.prog 25 #[idv o, idv t] w fun e w' => ∃ a cap, e = .returned (.slice a (nearK (xorL o t) 160).length cap) ∧ RowI w' a (nearK (xorL o t) 160) ∧ Below w.heap.size w w' :=
  (rnearer o t w ho ht).mono fun e w' ⟨v, he, hv, hb⟩ => by
    obtain ⟨a, cap, rfl, hr⟩ := rowI_own hv
    exact ⟨a, cap, he, hr, hb⟩
/-- All ways through a region meet here; the number of what is made new hangs on the way. -/
theorem wp_meetB {s : Code} {Q : Exit → Act → World → Prop} {a : Act} {w : World} (f : Nat → Act → Act) (p : Nat → World → Prop)
    (rest : ∀ n w', p n w' → Q .normal (f n a) w') (first : ∀ K' : Act → World → Prop, (∀ n w', p n w' → K' (f n a) w') → s.wp Try.prog (Exit.then K' Q) a w) : s.wp Try.prog Q a w := by
  refine wp_mono (first (fun a' w' => ∃ n, a' = f n a ∧ p n w') (fun n w' h => ⟨n, rfl, h⟩)) ?_
  intro e a' w' hq
  cases e with
  | normal => obtain ⟨n, rfl, h⟩ := hq; exact rest _ _ h
  | exit id => exact hq
  | goto l => exact hq
  | ret => exact hq
  | panic ch => exact hq
  | outgrown => exact hq
/-- A number reduced to a place below n. -/
def umod (i : Int) (n : Nat) : Nat := (IntKind.u64.wrap i % (n : Int)).toNat
theorem umod_lt (i : Int) (n : Nat) (h : 0 < n) : umod i n < n := by
  unfold umod
  have h1 := Int.emod_nonneg (IntKind.u64.wrap i) (show (n : Int) ≠ 0 by omega)
  have h2 := Int.emod_lt_of_pos (IntKind.u64.wrap i) (show (0 : Int) < n by omega)
  omega
theorem umod_eq (i : Int) (n : Nat) (h : 0 < n) : IntKind.u64.wrap i % (n : Int) = (umod i n : Nat) := by
  unfold umod
  have h1 := Int.emod_nonneg (IntKind.u64.wrap i) (show (n : Int) ≠ 0 by omega)
  omega
theorem umod_tmod (i : Int) (n : Nat) (h : 0 < n) : (IntKind.u64.wrap i).tmod (n : Int) = (umod i n : Nat) := by
  have h0 : 0 ≤ IntKind.u64.wrap i := by rw [IntKind.wrap_u64]; omega
  rw [Int.tmod_eq_emod_of_nonneg h0, umod_eq i n h]
theorem small_u64 (n : Nat) (h : n ≤ 160) : IntKind.u64.wrap (n : Int) = (n : Int) := by rw [IntKind.wrap_u64]; omega
theorem small_i64 (n : Nat) (h : n ≤ 160) : IntKind.i64.wrap (n : Int) = (n : Int) := by rw [IntKind.wrap_i64]; omega
theorem zero_new {B : Nat} {w0 w : World} (h : Below B w0 w) : IdAt (w.alloc Z41) w.heap.size zero20 := idAt_zero w
end Go.Proofs.Ytcgfednoolkhkaa
