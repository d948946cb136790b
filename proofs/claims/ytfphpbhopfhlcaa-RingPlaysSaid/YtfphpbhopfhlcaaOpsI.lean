/-
  A slice of calls of a queue that came in.
-/
import Derived.Test.YtfphpbhopfhlcaaSt
import Derived.Deep.Slices
import Derived.Lib.SmallJoins
import Derived.ChangeSlices
namespace Go.Proofs.Ytfphpbhopfhlcaa
open Go.RowKit Go.Proofs.YtfphpbhopfhlcaaW.PrintWords
set_option linter.unusedVariables false
set_option linter.unusedSimpArgs false
structure OpI where
  k : Int
  n : Int
  A : Option Addr
  c : Nat
  l : List Int
def OpIAt (w : World) (b o : Nat) (x : OpI) : Prop :=
  w.cell? ⟨b, o, none⟩ = some (.int .i64 x.k) ∧ w.cell? ⟨b, o + 1, none⟩ = some (.int .i64 x.n) ∧ w.cell? ⟨b, o + 2, none⟩ = some (.slice x.A x.l.length x.c) ∧ SlI w x.A x.l.length x.c x.l
theorem opIAt_below {w w' : World} {b o : Nat} {x : OpI} (h : OpIAt w b o x) (hb : Below w.heap.size w w') : OpIAt w' b o x := by
  obtain ⟨h0, h1, h2, h3⟩ := h
  exact ⟨cell_below hb h0, cell_below hb h1, cell_below hb h2, slI_below h3 hb⟩
def ReadsOpI (w : World) (A : Option Addr) (n : Nat) (F : Nat → OpI) : Prop := 0 < n → ∃ b off, A = some ⟨b, off, none⟩ ∧ ∀ i, i < n → OpIAt w b (off + i * 3) (F i)
theorem cells35 : Try.prog.cellsOf 35 = 3 := by kernel_rfl
theorem cellsI : Try.prog.cellsOf 3 = 1 := by kernel_rfl
theorem cells33 : Try.prog.cellsOf 33 = 1 := by kernel_rfl
instance : Inhabited OpI := ⟨⟨0, 0, none, 0, []⟩⟩
theorem open_opsI {H : Type} {enc : TypeId × Value → H} {w : World} {base : Nat} {held : Bool} {A : Option Addr} {len cap : Nat} {x : DataW H × List MemPlace}
    (h : ∃ fuel, DataW.trod enc Try.prog w base (fun _ => true) held fuel 32 (Value.slice A len cap).cells.toList = some x) : ∃ F, ReadsOpI w A len F := by
  obtain ⟨fuel, hf⟩ := h
  rcases Go.Deep.open_slice Try.underlying32 hf with ⟨hcs, _⟩ | ⟨a, l, c, m, n, D, Pl, hcs, _, hl, hm, hmm, _, hx⟩
  · simp [Value.cells] at hcs
    obtain ⟨rfl, rfl, rfl⟩ := hcs
    exact ⟨fun _ => default, fun h => absurd h (by omega)⟩
  · simp [Value.cells] at hcs
    obtain ⟨rfl, rfl, rfl⟩ := hcs
    simp only [if_true] at hmm
    subst hmm
    obtain ⟨b, off, spot⟩ := a
    by_cases hm0 : m = 0
    · exact ⟨fun _ => default, fun h => by omega⟩
    have hspot : spot = none := by
      obtain ⟨cs, hc, -⟩ := hx 0 (by omega)
      obtain ⟨_, hcl, hat⟩ := World.cells?_some hc
      have := hat 0 (by rw [cells35]; omega)
      match cs, hcl.trans cells35 with
      | v0 :: _, _ => simpa [Addr.add] using World.cell?_spot this
    subst hspot
    have each : ∀ i, i < m → ∃ q : OpI, OpIAt w b (off + i * 3) q := by
      intro i hi
      obtain ⟨cs, hc, ht⟩ := hx i hi
      rw [cells35] at hc
      obtain ⟨_, hcl, hat⟩ := World.cells?_some hc
      match cs, hcl with
      | [v0, v1, v2], _ =>
        obtain ⟨xs, n', _, _, _, hlen, hg⟩ := DataW.trod_struct Try.underlying35 ht
        match xs, hlen with
        | [y0, y1, y2], _ =>
          have g0 := hg 0 _ rfl
          have g1 := hg 1 _ rfl
          have g2 := hg 2 _ rfl
          simp [cellsI] at g0
          simp [cellsI] at g1
          simp [cells33] at g2
          obtain ⟨u, e0, -, _⟩ := DataW.trod_int Try.underlying3 g0
          obtain ⟨v, e1, -, _⟩ := DataW.trod_int Try.underlying3 g1
          simp at e0 e1
          subst e0 e1
          have hk : ∀ j, (((⟨b, off, none⟩ : Addr).add (i * 3)).add j) = ⟨b, off + i * 3 + j, none⟩ := fun j => by
            rw [Go.WideShapes.add_plain, Go.WideShapes.add_plain]
          have c0 := hat 0 (by omega)
          have c1 := hat 1 (by omega)
          have c2 := hat 2 (by omega)
          rw [hk] at c0 c1 c2
          rcases Go.ChangeShapes.open_ints Try.underlying33 Try.underlying3 cellsI g2 with ⟨e2, _⟩ | ⟨ad, ln, cp, zs, e2, _, hln, hcp, hz, _, hcell, _⟩
          · simp at e2
            subst e2
            exact ⟨⟨u, v, none, 0, []⟩, c0, c1, c2, ⟨rfl, by simp, fun h => absurd h (by simp)⟩, Nat.le_refl _⟩
          · simp at e2
            subst e2
            simp at hz
            have hlz : (zs.take ln).length = ln := by simp; omega
            refine ⟨⟨u, v, some ad, cp, zs.take ln⟩, c0, c1, by rw [hlz]; exact c2, ⟨rfl, by rw [hlz]; simp [maxLen] at hcp; omega, fun h => ⟨ad, rfl, fun j hj => ?_⟩⟩, by rw [hlz]; exact hln⟩
            rw [hlz] at hj
            rw [hcell j (by omega)]
            simp [List.getD_eq_getElem?_getD, List.getElem?_take, hj]
    obtain ⟨q, hq⟩ := Go.Deep.choose_lt each
    exact ⟨q, fun hn => ⟨b, off, rfl, fun i hi => hq i (by omega)⟩⟩
end Go.Proofs.Ytfphpbhopfhlcaa
