/-
  A slice of calls of a bag that came in.
-/
import Derived.Test.YtfphpbhopfhlcaaDgA
import Derived.Deep.Slices
namespace Go.Proofs.Ytfphpbhopfhlcaa.D
open Go.RowKit
set_option linter.unusedVariables false
set_option linter.unusedSimpArgs false
structure OpB where
  k : Int
  i : Int
  d : Dg
def OpAt (w : World) (b o : Nat) (x : OpB) : Prop :=
  w.cell? ⟨b, o, none⟩ = some (.int .i64 x.k) ∧ w.cell? ⟨b, o + 1, none⟩ = some (.int .i64 x.i) ∧ w.cell? ⟨b, o + 2, none⟩ = some (.int .u32 x.d.h1) ∧ w.cell? ⟨b, o + 3, none⟩ = some (.int .u16 x.d.p1) ∧
    w.cell? ⟨b, o + 4, none⟩ = some (.int .u32 x.d.h2) ∧ w.cell? ⟨b, o + 5, none⟩ = some (.int .u16 x.d.p2) ∧ w.cell? ⟨b, o + 6, none⟩ = some (.string x.d.s) ∧ x.d.s.size ≤ maxLen
theorem opAt_below {w w' : World} {b o : Nat} {x : OpB} (h : OpAt w b o x) (hb : Below w.heap.size w w') : OpAt w' b o x := by
  obtain ⟨h0, h1, h2, h3, h4, h5, h6, h7⟩ := h
  exact ⟨cell_below hb h0, cell_below hb h1, cell_below hb h2, cell_below hb h3, cell_below hb h4, cell_below hb h5, cell_below hb h6, h7⟩
def ReadsOp (w : World) (A : Option Addr) (n : Nat) (F : Nat → OpB) : Prop := 0 < n → ∃ b off, A = some ⟨b, off, none⟩ ∧ ∀ i, i < n → OpAt w b (off + i * 7) (F i)
theorem readsOp_below {w w' : World} {A : Option Addr} {n : Nat} {F : Nat → OpB} (h : ReadsOp w A n F) (hb : Below w.heap.size w w') : ReadsOp w' A n F := fun hn => by
  obtain ⟨b, off, e, hc⟩ := h hn
  exact ⟨b, off, e, fun i hi => opAt_below (hc i hi) hb⟩
theorem cells54 : Try.prog.cellsOf 54 = 7 := by kernel_rfl
theorem cells3 : Try.prog.cellsOf 3 = 1 := by kernel_rfl
instance : Inhabited OpB := ⟨⟨0, 0, d0⟩⟩
theorem open_opsB {H : Type} {enc : TypeId × Value → H} {w : World} {base : Nat} {held : Bool} {A : Option Addr} {len cap : Nat} {x : DataW H × List MemPlace}
    (h : ∃ fuel, DataW.trod enc Try.prog w base (fun _ => true) held fuel 43 (Value.slice A len cap).cells.toList = some x) : ∃ F, ReadsOp w A len F := by
  obtain ⟨fuel, hf⟩ := h
  rcases Go.Deep.open_slice Try.underlying43 hf with ⟨hcs, _⟩ | ⟨a, l, c, m, n, D, Pl, hcs, _, hl, hm, hmm, _, hx⟩
  · simp [Value.cells] at hcs
    obtain ⟨rfl, rfl, rfl⟩ := hcs
    exact ⟨fun _ => default, fun h => absurd h (by omega)⟩
  · simp [Value.cells] at hcs
    obtain ⟨rfl, rfl, rfl⟩ := hcs
    simp only [if_true] at hmm
    subst hmm
    obtain ⟨b, off, spot⟩ := a
    by_cases hm0 : m = 0
    · exact ⟨fun _ => default, fun h => by omega⟩
    have hspot : spot = none := by
      obtain ⟨cs, hc, -⟩ := hx 0 (by omega)
      obtain ⟨_, hcl, hat⟩ := World.cells?_some hc
      have := hat 0 (by rw [cells54]; omega)
      match cs, hcl.trans cells54 with
      | v0 :: _, _ => simpa [Addr.add] using World.cell?_spot this
    subst hspot
    have each : ∀ i, i < m → ∃ q : OpB, OpAt w b (off + i * 7) q := by
      intro i hi
      obtain ⟨cs, hc, ht⟩ := hx i hi
      rw [cells54] at hc
      obtain ⟨_, hcl, hat⟩ := World.cells?_some hc
      match cs, hcl with
      | [v0, v1, v2, v3, v4, v5, v6], _ =>
        have hs0 := hat 0 (by omega)
        obtain ⟨xs, n', _, _, _, hlen, hg⟩ := DataW.trod_struct Try.underlying54 ht
        match xs, hlen with
        | [y0, y1, y2], _ =>
          have g0 := hg 0 _ rfl
          have g1 := hg 1 _ rfl
          have g2 := hg 2 _ rfl
          simp [cells3] at g0
          simp [cells3] at g1
          simp [cells49] at g2
          obtain ⟨u, e0, -, _⟩ := DataW.trod_int Try.underlying3 g0
          obtain ⟨v, e1, -, _⟩ := DataW.trod_int Try.underlying3 g1
          simp at e0 e1
          obtain ⟨d, rfl, rfl, rfl, rfl, rfl, hsz, -⟩ := open_cells g2
          subst e0 e1
          refine ⟨⟨u, v, d⟩, ?_⟩
          have hk : ∀ j, (((⟨b, off, none⟩ : Addr).add (i * 7)).add j) = ⟨b, off + i * 7 + j, none⟩ := fun j => by
            rw [Go.WideShapes.add_plain, Go.WideShapes.add_plain]
          refine ⟨?_, ?_, ?_, ?_, ?_, ?_, ?_, hsz⟩
          · have := hat 0 (by omega); rw [hk] at this; exact this
          · have := hat 1 (by omega); rw [hk] at this; exact this
          · have := hat 2 (by omega); rw [hk] at this; exact this
          · have := hat 3 (by omega); rw [hk] at this; exact this
          · have := hat 4 (by omega); rw [hk] at this; exact this
          · have := hat 5 (by omega); rw [hk] at this; exact this
          · have := hat 6 (by omega); rw [hk] at this; exact this
    obtain ⟨q, hq⟩ := Go.Deep.choose_lt each
    exact ⟨q, fun hn => ⟨b, off, rfl, fun i hi => hq i (by omega)⟩⟩
theorem open_opsL {H : Type} {enc : TypeId × Value → H} {w : World} {base : Nat} {held : Bool} {A : Option Addr} {len cap : Nat} {x : DataW H × List MemPlace}
    (h : ∃ fuel, DataW.trod enc Try.prog w base (fun _ => true) held fuel 43 (Value.slice A len cap).cells.toList = some x) : ∃ F, ReadsOp w A len F ∧ len ≤ maxLen := by
  obtain ⟨F, hF⟩ := open_opsB h
  refine ⟨F, hF, ?_⟩
  obtain ⟨fuel, hf⟩ := h
  rcases Go.Deep.open_slice Try.underlying43 hf with ⟨hcs, _⟩ | ⟨a, l, c, m, n, D, Pl, hcs, _, hl, hm, _⟩
  · simp [Value.cells] at hcs
    obtain ⟨rfl, rfl, rfl⟩ := hcs
    exact Nat.zero_le _
  · simp [Value.cells] at hcs
    obtain ⟨rfl, rfl, rfl⟩ := hcs
    exact Nat.le_trans hl hm
end Go.Proofs.Ytfphpbhopfhlcaa.D
