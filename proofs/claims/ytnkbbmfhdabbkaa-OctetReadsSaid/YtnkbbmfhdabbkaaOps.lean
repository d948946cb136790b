/-
  A slice of calls that came in.
-/
import Derived.Test.YtnkbbmfhdabbkaaRr4
import Derived.Deep.SlicePairs
namespace Go.Proofs.Ytnkbbmfhdabbkaa
open Go.RowKit Go.Proofs.YtnkbbmfhdabbkaaW.PrintWords
set_option linter.unusedVariables false
set_option linter.unusedSimpArgs false
def ReadsP (w : World) (A : Option Addr) (n : Nat) (K N : Nat → Int) : Prop :=
  0 < n → ∃ b off, A = some ⟨b, off, none⟩ ∧ ∀ i, i < n → w.cell? ⟨b, off + i * 2, none⟩ = some (.int .i64 (K i)) ∧ w.cell? ⟨b, off + i * 2 + 1, none⟩ = some (.int .i64 (N i)) ∧
    (Lit.int .i64 (K i)).wf = true ∧ (Lit.int .i64 (N i)).wf = true
theorem readsP_below {w w' : World} {A : Option Addr} {n : Nat} {K N : Nat → Int} (h : ReadsP w A n K N) (hb : Below w.heap.size w w') : ReadsP w' A n K N := fun hn => by
  obtain ⟨b, off, e, hc⟩ := h hn
  exact ⟨b, off, e, fun i hi => ⟨pw_cell_below hb (hc i hi).1, pw_cell_below hb (hc i hi).2.1, (hc i hi).2.2⟩⟩
theorem cells70 : Try.prog.cellsOf 70 = 2 := by kernel_rfl
theorem open_ops {H : Type} {enc : TypeId × Value → H} {w : World} {base : Nat} {held : Bool} {A : Option Addr} {len cap : Nat} {x : DataW H × List MemPlace}
    (h : ∃ fuel, DataW.trod enc Try.prog w base (fun _ => true) held fuel 65 (Value.slice A len cap).cells.toList = some x) : ∃ K N, ReadsP w A len K N := by
  obtain ⟨fuel, hf⟩ := h
  rcases Go.Deep.open_slice_pairs Try.underlying65 Try.underlying70 cells70 (by kernel_rfl) (by kernel_rfl) (by kernel_rfl) (by kernel_rfl) hf with ⟨hcs, _⟩ | ⟨a, l, c, m, n, V0, V1, D0, D1, P0, P1, hcs, _, hl, hm, hmm, _, hx⟩
  · simp [Value.cells] at hcs
    obtain ⟨rfl, rfl, rfl⟩ := hcs
    exact ⟨fun _ => 0, fun _ => 0, fun h => absurd h (by omega)⟩
  · simp [Value.cells] at hcs
    obtain ⟨rfl, rfl, rfl⟩ := hcs
    simp only [if_true] at hmm
    subst hmm
    have each : ∀ i, i < m → ∃ q : Int × Int, V0 i = .int .i64 q.1 ∧ V1 i = .int .i64 q.2 ∧ (Lit.int .i64 q.1).wf = true ∧ (Lit.int .i64 q.2).wf = true := by
      intro i hi
      obtain ⟨c0, c1, t0, t1⟩ := hx i hi
      obtain ⟨u, e0, -, w0⟩ := DataW.trod_int Try.underlying3 t0
      obtain ⟨v, e1, -, w1⟩ := DataW.trod_int Try.underlying3 t1
      simp at e0 e1
      exact ⟨(u, v), e0, e1, w0, w1⟩
    obtain ⟨q, hq⟩ := Go.Deep.choose_lt each
    refine ⟨fun i => (q i).1, fun i => (q i).2, fun hn => ?_⟩
    obtain ⟨b, off, spot⟩ := a
    have hspot : spot = none := by simpa [Addr.add] using World.cell?_spot (hx 0 (by omega)).1
    subst hspot
    refine ⟨b, off, rfl, fun i hi => ?_⟩
    obtain ⟨c0, c1, -⟩ := hx i (by omega)
    rw [Go.WideShapes.add_plain] at c0 c1
    rw [(hq i (by omega)).1] at c0
    rw [(hq i (by omega)).2.1] at c1
    exact ⟨c0, by rw [Nat.add_assoc]; exact c1, (hq i (by omega)).2.2⟩
theorem cell_below' {B : Nat} {w w' : World} {p : Addr} {v : Value} (hb : Below B w w') (h : w.cell? p = some v) (hB : B = w.heap.size := by rfl) : w'.cell? p = some v := pw_cell_below (hB ▸ hb) h
theorem cell_apart2 {w w' : World} {s j g : Nat} {v : Value} (h : w.cell? ⟨s, j, none⟩ = some v) (hg : w.grownBy w' (some g)) (hne : g ≠ s) : w'.cell? ⟨s, j, none⟩ = some v :=
  (World.cell?_of_block (a := ⟨s, j, none⟩) (hg.block s (World.block_lt_of_cell? _ _ h) (fun e => hne (Option.some.inj e).symm))).trans h
theorem own_apart2 {w w' : World} {base g n : Nat} {e : TypeId} {v : Value} {xs : List Value} (h : w.ownsRow base e 1 v n xs) (hg : w.grownBy w' (some g)) (hb : g < base) : w'.ownsRow base e 1 v n xs := by
  obtain ⟨h1, h2⟩ := h
  refine ⟨h1, ?_⟩
  rcases h2 with h2 | ⟨k, cap, cur, rfl, hk, hc, r⟩
  · exact .inl h2
  · have hlt : k < w.heap.size := by
      rcases Nat.lt_or_ge k w.heap.size with h | h
      · exact h
      · rw [Array.getElem?_eq_none h] at hc; cases hc
    exact .inr ⟨k, cap, cur, rfl, hk, (hg.block k hlt (fun e => by cases e; omega)).trans hc, r⟩
theorem grown2_below {w W0 W1 w3 w4 : World} {g1 g2 : Nat} (h0 : W0.grownBy W1 (some g1)) (h1 : W1.grownBy w3 (some g1)) (h2 : w3.grownBy w4 (some g2)) (a1 : w.heap.size ≤ g1) (a2 : w.heap.size ≤ g2) (hs : w.heap.size ≤ W0.heap.size := by first | assumption | omega) : Below w.heap.size W0 w4 :=
  ⟨h2.os.trans (h1.os.trans h0.os), h2.tape.trans (h1.tape.trans h0.tape), h2.output.trans (h1.output.trans h0.output), Nat.le_trans h0.size (Nat.le_trans h1.size h2.size), fun k hk =>
    (h2.block k (Nat.lt_of_lt_of_le hk (Nat.le_trans hs (Nat.le_trans h0.size h1.size))) (fun e => by cases e; omega)).trans ((h1.block k (Nat.lt_of_lt_of_le hk (Nat.le_trans hs h0.size)) (fun e => by cases e; omega)).trans (h0.block k (Nat.lt_of_lt_of_le hk hs) (fun e => by cases e; omega)))⟩
namespace X
theorem bytes_takeL (l : List Int) (bad : Bool) (x : Int) (hB : Bytes l) : Bytes (takeL l bad x) := by
  unfold takeL; split
  · exact bytes_drop hB _
  · intro x hx; simp at hx
theorem takeL_len (l : List Int) (bad : Bool) (x : Int) : (takeL l bad x).length ≤ l.length := by
  unfold takeL; split <;> simp
theorem bytes_txtL (l : List Int) (bad : Bool) (x : Int) (hB : Bytes l) : Bytes (txtL l bad x) := by
  unfold txtL; split
  · exact bytes_takeL _ _ _ (bytes_numL _ _ _ hB)
  · intro x hx; simp at hx
theorem txtL_len (l : List Int) (bad : Bool) (x : Int) : (txtL l bad x).length ≤ l.length := by
  unfold txtL; split
  · exact Nat.le_trans (takeL_len _ _ _) (numL_len _ _ _)
  · simp
/-- The two readers: of block g1, and the reference's of block g2, over the same. -/
def Two (G : Nat) (w : World) (g1 g2 : Nat) (B l : List Int) (bad : Bool) : Prop := Rdr g2 w g1 l bad ∧ RR G w g2 B l bad ∧ Bytes l ∧ l.length ≤ 4000
theorem two_below {G g1 g2 : Nat} {w w' : World} {B l : List Int} {bad : Bool} (h : Two G w g1 g2 B l bad) (hb : Below w.heap.size w w') : Two G w' g1 g2 B l bad :=
  ⟨rdr_grown h.1 hb, rR_below h.2.1 hb, h.2.2⟩
end X
end Go.Proofs.Ytnkbbmfhdabbkaa
