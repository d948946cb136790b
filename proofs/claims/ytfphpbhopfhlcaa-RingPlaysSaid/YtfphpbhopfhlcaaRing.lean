/-
  ring of ints: its state, and the functions that only look.
-/
import Derived.Test.YtfphpbhopfhlcaaKit
import Derived.Test.YtfphpbhopfhlcaaRows
import Derived.Laws.CopyOwn
import Derived.Laws.OwnMore
import Derived.BigRegion
namespace Go.Proofs.Ytfphpbhopfhlcaa
open Go.RowKit
set_option linter.unusedVariables false
set_option linter.unusedSimpArgs false

theorem set_other {w : World} {a b : Addr} {u v : Value} (h : w.cell? b = some v) (hne : a ≠ b) : (w.setCell a u).cell? b = some v := (World.cell?_setCell_other _ _ _ _ hne).trans h
theorem set_same {w : World} {a : Addr} {u v : Value} (h : w.cell? a = some v) : (w.setCell a u).cell? a = some u := World.cell?_setCell_same _ _ _ h
theorem cell_below {w w' : World} {p : Addr} {v : Value} (hb : Below w.heap.size w w') (h : w.cell? p = some v) : w'.cell? p = some v := (hb.cell (p := p) (World.block_lt_of_cell? _ _ h)).trans h
/-- What lay in the blocks of X lies there still. -/
structure Kept (X : Nat → Prop) (w w' : World) : Prop where
  os : w'.os = w.os
  tape : w'.tape = w.tape
  output : w'.output = w.output
  size : w.heap.size ≤ w'.heap.size
  block : ∀ k, X k → k < w.heap.size → w'.heap[k]? = w.heap[k]?
theorem Kept.refl (X : Nat → Prop) (w : World) : Kept X w w := ⟨rfl, rfl, rfl, Nat.le_refl _, fun _ _ _ => rfl⟩
theorem Kept.trans {X : Nat → Prop} {a b c : World} (h : Kept X a b) (k : Kept X b c) : Kept X a c :=
  ⟨k.os.trans h.os, k.tape.trans h.tape, k.output.trans h.output, Nat.le_trans h.size k.size, fun i hx hi => (k.block i hx (Nat.lt_of_lt_of_le hi h.size)).trans (h.block i hx hi)⟩
theorem Kept.of_below {X : Nat → Prop} {a b : World} (h : Below a.heap.size a b) : Kept X a b := ⟨h.os, h.tape, h.output, h.size, fun i _ hi => h.block i hi⟩
theorem Kept.below {X : Nat → Prop} {a b : World} {B : Nat} (h : Kept X a b) (hX : ∀ k, k < B → X k) (hB : B ≤ a.heap.size) : Below B a b := ⟨h.os, h.tape, h.output, h.size, fun i hi => h.block i (hX i hi) (Nat.lt_of_lt_of_le hi hB)⟩
theorem Kept.mono {X Y : Nat → Prop} {a b : World} (h : Kept X a b) (hX : ∀ k, Y k → X k) : Kept Y a b := ⟨h.os, h.tape, h.output, h.size, fun i hi => h.block i (hX i hi)⟩
theorem Kept.set {X : Nat → Prop} {a b : World} (h : Kept X a b) (g j : Nat) (u : Value) (hg : ¬ X g) : Kept X a (b.setCell ⟨g, j, none⟩ u) :=
  h.trans ⟨rfl, rfl, rfl, by simp [World.setCell], fun i hx _ => Below.heap_setCell _ _ _ _ (fun e => hg (by rw [← show i = g from e.symm ▸ rfl]; exact hx))⟩
theorem Kept.drewN {X : Nat → Prop} {a b : World} (h : Kept X a b) (n : Nat) : Kept X a (b.drewN n) := ⟨h.os, h.tape, h.output, h.size, h.block⟩
/-- The four cells of a ring at block g. -/
def RingC (W : World) (g most f many : Nat) (v : Value) : Prop :=
  W.cell? ⟨g, 0, none⟩ = some (.int .i64 most) ∧ W.cell? ⟨g, 1, none⟩ = some (.int .i64 f) ∧ W.cell? ⟨g, 2, none⟩ = some (.int .i64 many) ∧ W.cell? ⟨g, 3, none⟩ = some v ∧
    W.frozen? ⟨g, 1, none⟩ = false ∧ W.frozen? ⟨g, 2, none⟩ = false ∧ W.frozen? ⟨g, 3, none⟩ = false
theorem ringC_lt {W : World} {g most f many : Nat} {v : Value} (h : RingC W g most f many v) : g < W.heap.size := World.block_lt_of_cell? _ _ h.1
theorem ringC_block {w w' : World} {g most f many : Nat} {v : Value} (h : RingC w g most f many v) (hk : w'.heap[g]? = w.heap[g]?) : RingC w' g most f many v := by
  obtain ⟨h0, h1, h2, h3, f1, f2, f3⟩ := h
  have hc : ∀ j, w'.cell? ⟨g, j, none⟩ = w.cell? ⟨g, j, none⟩ := fun j => World.cell?_of_block (a := ⟨g, j, none⟩) hk
  have hf : ∀ j, w'.frozen? ⟨g, j, none⟩ = w.frozen? ⟨g, j, none⟩ := fun j => World.frozen?_of_block (a := ⟨g, j, none⟩) hk
  exact ⟨(hc 0).trans h0, (hc 1).trans h1, (hc 2).trans h2, (hc 3).trans h3, (hf 1).trans f1, (hf 2).trans f2, (hf 3).trans f3⟩
theorem rnone_nil (w : World) : Calls Try.prog 28 #[.pointer none] w fun e w' => e = .returned (.bool true) ∧ w = w' := by
  go_enter Try.func28, Try.ntmps28
  go_wp2
  go_ret
  exact ⟨rfl, rfl⟩
theorem rnone_no (g most : Nat) (w : World) (hc : w.cell? ⟨g, 0, none⟩ = some (.int .i64 most)) (hm : 1 ≤ most) : Calls Try.prog 28 #[.pointer (some ⟨g, 0, none⟩)] w fun e w' => e = .returned (.bool false) ∧ w = w' := by
  have hm' : ((most : Int) == 0) = false := by simp; omega
  go_enter Try.func28, Try.ntmps28
  go_wp2
  go_ret
  exact ⟨ret_val (by simp [hm']), rfl⟩
theorem rcell (g most f many b N i : Nat) (w : World) (h : RingC w g most f many (.slice (some ⟨b, 0, none⟩) N N)) (hf : f < N) (hi : i < N) (hN : N ≤ 65536) :
    Calls Try.prog 30 #[.pointer (some ⟨g, 0, none⟩), .int .i64 i] w fun e w' => e = .returned (.pointer (some ⟨b, (f + i) % N, none⟩)) ∧ Below w.heap.size w w' := by
  obtain ⟨h0, h1, h2, h3, f1, f2, f3⟩ := h
  have hm : (f + i) % N < N := Nat.mod_lt _ (by omega)
  have ht : Int.tmod ((f : Int) + (i : Int)) (N : Int) = (((f + i) % N : Nat) : Int) := by rw [Int.tmod_eq_emod_of_nonneg (by omega)]; simp
  have hN0 : ¬ ((N : Int) = 0) := by omega
  generalize (f + i) % N = r at *
  have hg := Below.refl w.heap.size w
  go_enter Try.func30, Try.ntmps30
  go_wp2
  go_quiet (fail)
  go_wp2
  go_ret
  exact ⟨rfl, below_drewN (by go_grown) _⟩
/-- The row of a ring of ints. -/
def RowI (X : Nat → Prop) (W : World) (g : Nat) (v : Value) (Z : List Int) : Prop :=
  (v = .slice none 0 0 ∧ Z = []) ∨ ∃ b, v = .slice (some ⟨b, 0, none⟩) Z.length Z.length ∧ ¬ X b ∧ b ≠ g ∧ Z ≠ [] ∧ W.heap[b]? = some (.cells (Z.map (Value.int .i64)).toArray 3 (0, 0))
/-- Of the row Z, from place f on and round, L are the first ones. -/
def Lay (most f : Nat) (Z L : List Int) : Prop :=
  L.length ≤ Z.length ∧ Z.length ≤ most ∧ (Z = [] → f = 0) ∧ (Z ≠ [] → f < Z.length) ∧ ∀ i, i < L.length → Z.getD ((f + i) % Z.length) 0 = L.getD i 0
/-- The ring at block g, apart from X: at most 'most', the elements L. -/
def Ring (X : Nat → Prop) (W : World) (g most : Nat) (L : List Int) : Prop :=
  1 ≤ most ∧ most ≤ 65536 ∧ ¬ X g ∧ ∃ f v Z, RingC W g most f L.length v ∧ RowI X W g v Z ∧ Lay most f Z L
theorem row_cell {X : Nat → Prop} {W : World} {g b : Nat} {Z : List Int} (h : W.heap[b]? = some (.cells (Z.map (Value.int .i64)).toArray 3 (0, 0))) (j : Nat) (hj : j < Z.length) :
    W.cell? ⟨b, j, none⟩ = some (.int .i64 (Z.getD j 0)) ∧ W.frozen? ⟨b, j, none⟩ = false := by
  constructor
  · simp [World.cell?, h, hj]
  · simp [World.frozen?, h]
theorem ring_kept {X : Nat → Prop} {w w' : World} {g most : Nat} {L : List Int} (h : Ring X w g most L) (hk : ∀ k, k < w.heap.size → ¬ X k → w'.heap[k]? = w.heap[k]?) : Ring X w' g most L := by
  obtain ⟨m1, m2, hx, f, v, Z, hc, hr, hl⟩ := h
  refine ⟨m1, m2, hx, f, v, Z, ringC_block hc (hk g (ringC_lt hc) hx), ?_, hl⟩
  rcases hr with h | ⟨b, hv, hb, hne, hz, hh⟩
  · exact .inl h
  · have hlt : b < w.heap.size := by
      rcases Nat.lt_or_ge b w.heap.size with h | h
      · exact h
      · rw [Array.getElem?_eq_none h] at hh; cases hh
    exact .inr ⟨b, hv, hb, hne, hz, (hk b hlt hb).trans hh⟩
theorem ring_below {X : Nat → Prop} {w w' : World} {g most : Nat} {L : List Int} (h : Ring X w g most L) (hb : Below w.heap.size w w') : Ring X w' g most L :=
  ring_kept h (fun k hk _ => hb.block k hk)
theorem ring_len {X : Nat → Prop} {w : World} {g most : Nat} {L : List Int} (h : Ring X w g most L) : L.length ≤ most ∧ most ≤ 65536 := by
  obtain ⟨m1, m2, hx, f, v, Z, hc, hr, hl⟩ := h
  exact ⟨Nat.le_trans hl.1 hl.2.1, m2⟩
/-- The cell of a place that is there. -/
theorem ring_at {X : Nat → Prop} {w : World} {g most i : Nat} {L : List Int} (h : Ring X w g most L) (hi : i < L.length) :
    ∃ b r, w.cell? ⟨b, r, none⟩ = some (.int .i64 (L.getD i 0)) ∧ Calls Try.prog 30 #[.pointer (some ⟨g, 0, none⟩), .int .i64 i] w fun e w' => e = .returned (.pointer (some ⟨b, r, none⟩)) ∧ Below w.heap.size w w' := by
  obtain ⟨m1, m2, hx, f, v, Z, hc, hr, l1, l2, l3, l4, l5⟩ := h
  rcases hr with ⟨rfl, rfl⟩ | ⟨b, rfl, hb, hne, hz, hh⟩
  · simp at l1; simp [l1] at hi
  · have hf := l4 (fun e => by simp [e] at l1; simp [l1] at hi)
    refine ⟨b, (f + i) % Z.length, ?_, rcell g most f L.length b Z.length i w hc hf (by omega) (by omega)⟩
    rw [(row_cell (X := X) (g := g) hh _ (Nat.mod_lt _ (by omega))).1, l5 i hi]
theorem rlen (X : Nat → Prop) (g most : Nat) (L : List Int) (w : World) (h : Ring X w g most L) : Calls Try.prog 11 #[.pointer (some ⟨g, 0, none⟩)] w fun e w' => e = .returned (.int .i64 L.length) ∧ w = w' := by
  obtain ⟨m1, m2, hx, f, v, Z, ⟨h0, h1, h2, h3, f1, f2, f3⟩, hr, hl⟩ := h
  have H := Lib.hid (rnone_no g most w h0 m1)
  clear hr hl h0 h1 h3 f1 f2 f3
  generalize L.length = n at *
  go_enter Try.func11, Try.ntmps11
  go_wp2_with (go_at_call 28; refine H.out.mono ?_; rintro e w1 ⟨rfl, rfl⟩)
  go_ret
  exact ⟨rfl, rfl⟩
def atOk (L : List Int) (i : Int) : Bool := decide (0 ≤ i ∧ i < L.length)
def atV (L : List Int) (i : Int) : Int := if atOk L i = true then L.getD i.toNat 0 else 0
theorem rat_any (X : Nat → Prop) (g most : Nat) (L : List Int) (i : Int) (w : World) (h : Ring X w g most L) :
    Calls Try.prog 32 #[.pointer (some ⟨g, 0, none⟩), .int .i64 i] w fun e w' => e = .returned (.tuple #[.int .i64 (atV L i), .bool (atOk L i)]) ∧ Below w.heap.size w w' := by
  have HH := h
  obtain ⟨m1, m2, hx, f, v, Z, ⟨h0, h1, h2, h3, f1, f2, f3⟩, hr, hl⟩ := h
  have H := Lib.hid (rnone_no g most w h0 m1)
  have hg := Below.refl w.heap.size w
  by_cases hi : 0 ≤ i
  · by_cases hn : i < L.length
    · obtain ⟨k, rfl⟩ := Int.eq_ofNat_of_zero_le hi
      have hok : atOk L (k : Int) = true := decide_eq_true ⟨hi, hn⟩
      have hv : atV L (k : Int) = L.getD k 0 := by simp [atV, hok]
      obtain ⟨b, r, hcell, hcall⟩ := ring_at HH (i := k) (by omega)
      have HC := Lib.hid hcall
      have hcell2 := Lib.hid hcell
      rw [hok, hv]
      clear hr hl h0 h1 h3 f1 f2 f3 hok hv HH hcall hcell
      generalize L.getD k 0 = x at *
      generalize L.length = n at *
      go_enter Try.func32, Try.ntmps32
      go_wp2_with (first | (go_at_call 28; refine H.out.mono ?_; rintro e w1 ⟨rfl, rfl⟩) | (go_at_call 30; refine HC.out.mono ?_; rintro e w1 ⟨rfl, hg1⟩; have hce := cell_below hg1 hcell2.out))
      go_ret2
      exact ⟨rfl, hg1⟩
    · have hok : atOk L i = false := decide_eq_false (by omega)
      have hv : atV L i = 0 := by simp [atV, hok]
      rw [hok, hv]
      clear hr hl h0 h1 h3 f1 f2 f3 hok hv HH
      generalize L.length = n at *
      go_enter Try.func32, Try.ntmps32
      go_wp2_with (first | (go_at_call 28; refine H.out.mono ?_; rintro e w1 ⟨rfl, rfl⟩))
      go_ret2
      exact ⟨rfl, hg⟩
  · have hok : atOk L i = false := decide_eq_false (by omega)
    have hv : atV L i = 0 := by simp [atV, hok]
    rw [hok, hv]
    clear hr hl h0 h1 h3 f1 f2 f3 hok hv HH
    generalize L.length = n at *
    go_enter Try.func32, Try.ntmps32
    go_wp2_with (first | (go_at_call 28; refine H.out.mono ?_; rintro e w1 ⟨rfl, rfl⟩))
    go_ret2
    exact ⟨rfl, hg⟩
end Go.Proofs.Ytfphpbhopfhlcaa
