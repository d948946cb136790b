/-
  Datagrams in memory: five cells each.
-/
import Derived.Test.YtfphpbhopfhlcaaRingP
namespace Go.Proofs.Ytfphpbhopfhlcaa
open Go.RowKit
set_option linter.unusedVariables false
set_option linter.unusedSimpArgs false
structure Dg where
  h1 : Int
  p1 : Int
  h2 : Int
  p2 : Int
  s : ByteArray
namespace D
def d0 : Dg := ⟨0, 0, 0, 0, ⟨#[]⟩⟩
def c (d : Dg) (i : Nat) : Value := match i with
  | 0 => .int .u32 d.h1
  | 1 => .int .u16 d.p1
  | 2 => .int .u32 d.h2
  | 3 => .int .u16 d.p2
  | _ => .string d.s
def cs5 (d : Dg) : Array Value := #[.int .u32 d.h1, .int .u16 d.p1, .int .u32 d.h2, .int .u16 d.p2, .string d.s]
def dv (d : Dg) : Value := .agg (cs5 d)
def dcs (Z : List Dg) : List Value := (List.range (Z.length * 5)).map fun j => c (Z.getD (j / 5) d0) (j % 5)
theorem dcs_len (Z : List Dg) : (dcs Z).length = Z.length * 5 := by simp [dcs]
theorem dcs_at (Z : List Dg) (j : Nat) (h : j < Z.length * 5) : (dcs Z)[j]? = some (c (Z.getD (j / 5) d0) (j % 5)) := by simp [dcs, h]
theorem dcs_out (Z : List Dg) (j : Nat) (h : ¬ j < Z.length * 5) : (dcs Z)[j]? = none := List.getElem?_eq_none (by rw [dcs_len]; omega)
theorem dcs_append (A B : List Dg) : dcs (A ++ B) = dcs A ++ dcs B := by
  refine List.ext_getElem? fun j => ?_
  by_cases h1 : j < A.length * 5
  · rw [List.getElem?_append_left (by rw [dcs_len]; exact h1), dcs_at _ _ h1, dcs_at _ _ (by simp; omega)]
    congr 2
    simp [List.getD, List.getElem?_append_left (show j / 5 < A.length by omega)]
  · rw [List.getElem?_append_right (by rw [dcs_len]; omega), dcs_len]
    by_cases h2 : j < (A ++ B).length * 5
    · have h3 : j - A.length * 5 < B.length * 5 := by simp at h2; omega
      rw [dcs_at _ _ h2, dcs_at _ _ h3]
      have e1 : (j - A.length * 5) / 5 = j / 5 - A.length := by omega
      have e2 : (j - A.length * 5) % 5 = j % 5 := by omega
      rw [e1, e2]
      congr 2
      simp [List.getD, List.getElem?_append_right (show A.length ≤ j / 5 by omega)]
    · rw [dcs_out _ _ h2, dcs_out _ _ (by simp at h2; omega)]
theorem dcs_take (Z : List Dg) (f : Nat) (h : f ≤ Z.length) : dcs (Z.take f) = (dcs Z).take (f * 5) := by
  have := dcs_append (Z.take f) (Z.drop f)
  rw [List.take_append_drop] at this
  have hl : (dcs (Z.take f)).length = f * 5 := by rw [dcs_len, List.length_take]; omega
  conv => rhs; rw [this, ← hl]
  simp
theorem dcs_drop (Z : List Dg) (f : Nat) (h : f ≤ Z.length) : dcs (Z.drop f) = (dcs Z).drop (f * 5) := by
  have := dcs_append (Z.take f) (Z.drop f)
  rw [List.take_append_drop] at this
  have hl : (dcs (Z.take f)).length = f * 5 := by rw [dcs_len, List.length_take]; omega
  conv => rhs; rw [this, ← hl]
  simp
theorem one_cell (Z : List Dg) : ∀ v ∈ dcs Z, v.oneCell' = true := by
  intro v hv
  obtain ⟨j, _, rfl⟩ := List.mem_map.1 hv
  have : j % 5 = 0 ∨ j % 5 = 1 ∨ j % 5 = 2 ∨ j % 5 = 3 ∨ j % 5 = 4 := by omega
  rcases this with h | h | h | h | h <;> rw [h] <;> rfl
theorem made5 (n : Nat) : madeCells (cs5 d0) (n * 5) = (dcs (List.replicate n d0)).toArray := by
  apply Array.toList_inj.1
  refine List.ext_getElem? fun j => ?_
  by_cases h : j < n * 5
  · rw [dcs_at _ _ (by simpa using h)]
    have e : (List.replicate n d0).getD (j / 5) d0 = d0 := by simp [List.getD, List.getElem?_replicate]; split <;> simp
    rw [e]
    have : j % 5 = 0 ∨ j % 5 = 1 ∨ j % 5 = 2 ∨ j % 5 = 3 ∨ j % 5 = 4 := by omega
    rcases this with h5 | h5 | h5 | h5 | h5 <;> simp [madeCells, h, cs5, c, h5]
  · rw [dcs_out _ _ (by simpa using h)]
    simp [madeCells]; omega
/-- A datagram's five cells laid over the row. -/
def lay5 (L : List Value) (o : Nat) (d : Dg) : List Value := ((((L.set o (c d 0)).set (o + 1) (c d 1)).set (o + 2) (c d 2)).set (o + 3) (c d 3)).set (o + 4) (c d 4)
theorem getD_setD (l : List Dg) (j i : Nat) (x : Dg) : (l.set j x).getD i d0 = if i = j ∧ j < l.length then x else l.getD i d0 := by
  simp only [List.getD, List.getElem?_set]
  by_cases h1 : i = j
  · subst h1
    by_cases h2 : i < l.length <;> simp [h2]
  · simp [h1, Ne.symm h1]
theorem lay_set (Z : List Dg) (j : Nat) (d : Dg) (h : j < Z.length) : lay5 (dcs Z) (j * 5) d = dcs (Z.set j d) := by
  refine List.ext_getElem? fun t => ?_
  unfold lay5
  by_cases ht : t < Z.length * 5
  · rw [dcs_at _ _ (by simpa using ht)]
    by_cases hj : t / 5 = j
    · have e : (Z.set j d).getD (t / 5) d0 = d := by rw [getD_setD, if_pos ⟨hj, h⟩]
      rw [e]
      simp only [List.getElem?_set, List.length_set, dcs_len]
      have : t % 5 = 0 ∨ t % 5 = 1 ∨ t % 5 = 2 ∨ t % 5 = 3 ∨ t % 5 = 4 := by omega
      rcases this with h5 | h5 | h5 | h5 | h5
      · obtain rfl : t = j * 5 := by omega
        simp [ht, h5]
      · obtain rfl : t = j * 5 + 1 := by omega
        simp [ht, h5]
      · obtain rfl : t = j * 5 + 2 := by omega
        simp [ht, h5]
      · obtain rfl : t = j * 5 + 3 := by omega
        simp [ht, h5]
      · obtain rfl : t = j * 5 + 4 := by omega
        simp [ht, h5]
    · have e : (Z.set j d).getD (t / 5) d0 = Z.getD (t / 5) d0 := by rw [getD_setD, if_neg (fun h => hj h.1)]
      rw [e]
      simp only [List.getElem?_set, List.length_set, dcs_len]
      rw [if_neg (by omega), if_neg (by omega), if_neg (by omega), if_neg (by omega), if_neg (by omega), dcs_at _ _ ht]
  · rw [dcs_out _ _ (by simpa using ht)]
    refine List.getElem?_eq_none ?_
    simp [dcs_len]; omega
/-- The five stores. -/
def put5 (W : World) (b o : Nat) (d : Dg) : World :=
  ((((W.setCell ⟨b, o, none⟩ (.int .u32 d.h1)).setCell ⟨b, o + 1, none⟩ (.int .u16 d.p1)).setCell ⟨b, o + 2, none⟩ (.int .u32 d.h2)).setCell ⟨b, o + 3, none⟩ (.int .u16 d.p2)).setCell ⟨b, o + 4, none⟩ (.string d.s)
theorem row_set5 {W : World} {b j : Nat} {Z : List Dg} {d : Dg} {e : TypeId} (hj : j < Z.length) (h : W.heap[b]? = some (.cells (dcs Z).toArray e (0, 0))) :
    (put5 W b (j * 5) d).heap[b]? = some (.cells (dcs (Z.set j d)).toArray e (0, 0)) := by
  have step : ∀ {W : World} {L : List Value} {o : Nat} {v : Value}, W.heap[b]? = some (.cells L.toArray e (0, 0)) → (W.setCell ⟨b, o, none⟩ v).heap[b]? = some (.cells (L.set o v).toArray e (0, 0)) := by
    intro W L o v h
    rw [setCell_eq_setRow W b o _ e (0, 0) _ h, setRow_heap W b _ _ e _ h]
    simp
  rw [← lay_set Z j d hj]
  exact step (step (step (step (step h))))
theorem heap_put_other {W : World} {g o b : Nat} {d : Dg} {ob : Obj} (h : W.heap[b]? = some ob) (hne : b ≠ g) : (put5 W g o d).heap[b]? = some ob :=
  heap_set_other (heap_set_other (heap_set_other (heap_set_other (heap_set_other h hne) hne) hne) hne) hne
theorem Kept.put5 {X : Nat → Prop} {a b : World} (h : Kept X a b) (g o : Nat) (d : Dg) (hg : ¬ X g) : Kept X a (D.put5 b g o d) :=
  ((((h.set _ _ _ hg).set _ _ _ hg).set _ _ _ hg).set _ _ _ hg).set _ _ _ hg
/-- The cells of a datagram at ⟨b, o⟩, unfrozen. -/
def At5 (W : World) (b o : Nat) (d : Dg) : Prop :=
  (W.cell? ⟨b, o, none⟩ = some (.int .u32 d.h1) ∧ W.cell? ⟨b, o + 1, none⟩ = some (.int .u16 d.p1) ∧ W.cell? ⟨b, o + 2, none⟩ = some (.int .u32 d.h2) ∧ W.cell? ⟨b, o + 3, none⟩ = some (.int .u16 d.p2) ∧ W.cell? ⟨b, o + 4, none⟩ = some (.string d.s)) ∧
  (W.frozen? ⟨b, o, none⟩ = false ∧ W.frozen? ⟨b, o + 1, none⟩ = false ∧ W.frozen? ⟨b, o + 2, none⟩ = false ∧ W.frozen? ⟨b, o + 3, none⟩ = false ∧ W.frozen? ⟨b, o + 4, none⟩ = false)
theorem at5_block {w w' : World} {b o : Nat} {d : Dg} (h : At5 w b o d) (hk : w'.heap[b]? = w.heap[b]?) : At5 w' b o d := by
  have hc : ∀ j, w'.cell? ⟨b, j, none⟩ = w.cell? ⟨b, j, none⟩ := fun j => World.cell?_of_block (a := ⟨b, j, none⟩) hk
  have hf : ∀ j, w'.frozen? ⟨b, j, none⟩ = w.frozen? ⟨b, j, none⟩ := fun j => World.frozen?_of_block (a := ⟨b, j, none⟩) hk
  unfold At5 at *
  simp only [hc, hf]
  exact h
theorem at5_lt {w : World} {b o : Nat} {d : Dg} (h : At5 w b o d) : b < w.heap.size := World.block_lt_of_cell? _ _ h.1.1
theorem at5_below {w w' : World} {b o : Nat} {d : Dg} (h : At5 w b o d) (hb : Below w.heap.size w w') : At5 w' b o d := at5_block h (hb.block b (at5_lt h))
theorem row_at5 {W : World} {b j : Nat} {Z : List Dg} {e : TypeId} (h : W.heap[b]? = some (.cells (dcs Z).toArray e (0, 0))) (hj : j < Z.length) : At5 W b (j * 5) (Z.getD j d0) := by
  have hc : ∀ i, i < 5 → W.cell? ⟨b, j * 5 + i, none⟩ = some (c (Z.getD j d0) i) := by
    intro i hi
    have := dcs_at Z (j * 5 + i) (by omega)
    rw [show (j * 5 + i) / 5 = j by omega, show (j * 5 + i) % 5 = i by omega] at this
    simp only [World.cell?, h]
    simpa using this
  have hf : ∀ i, W.frozen? ⟨b, j * 5 + i, none⟩ = false := fun i => by simp [World.frozen?, h]
  exact ⟨⟨hc 0 (by omega), hc 1 (by omega), hc 2 (by omega), hc 3 (by omega), hc 4 (by omega)⟩, hf 0, hf 1, hf 2, hf 3, hf 4⟩
theorem put5_at {W : World} {b o : Nat} {d' : Dg} (h : At5 W b o d') (d : Dg) : At5 (put5 W b o d) b o d := by
  obtain ⟨⟨c0, c1, c2, c3, c4⟩, f0, f1, f2, f3, f4⟩ := h
  have n : ∀ i j : Nat, i ≠ j → (⟨b, o + i, none⟩ : Addr) ≠ ⟨b, o + j, none⟩ := fun i j h e => h (by injection e with e1 e2 e3; omega)
  have n0 : ∀ j : Nat, 0 ≠ j → (⟨b, o, none⟩ : Addr) ≠ ⟨b, o + j, none⟩ := fun j h e => h (by injection e with e1 e2 e3; omega)
  have n0' : ∀ j : Nat, 0 ≠ j → (⟨b, o + j, none⟩ : Addr) ≠ ⟨b, o, none⟩ := fun j h e => h (by injection e with e1 e2 e3; omega)
  refine ⟨⟨?_, ?_, ?_, ?_, ?_⟩, ?_, ?_, ?_, ?_, ?_⟩
  · exact set_other (set_other (set_other (set_other (set_same c0) (n0' 1 (by omega))) (n0' 2 (by omega))) (n0' 3 (by omega))) (n0' 4 (by omega))
  · exact set_other (set_other (set_other (set_same (set_other c1 (n0 1 (by omega)))) (n 2 1 (by omega))) (n 3 1 (by omega))) (n 4 1 (by omega))
  · exact set_other (set_other (set_same (set_other (set_other c2 (n0 2 (by omega))) (n 1 2 (by omega)))) (n 3 2 (by omega))) (n 4 2 (by omega))
  · exact set_other (set_same (set_other (set_other (set_other c3 (n0 3 (by omega))) (n 1 3 (by omega))) (n 2 3 (by omega)))) (n 4 3 (by omega))
  · exact set_same (set_other (set_other (set_other (set_other c4 (n0 4 (by omega))) (n 1 4 (by omega))) (n 2 4 (by omega))) (n 3 4 (by omega)))
  all_goals simp [put5, f0, f1, f2, f3, f4]
theorem put5_below {B : Nat} {w W : World} (h : Below B w W) (b o : Nat) (d : Dg) (hb : B ≤ b) : Below B w (put5 W b o d) :=
  ((((h.setCell (p := ⟨b, o, none⟩) hb _).setCell (p := ⟨b, o + 1, none⟩) hb _).setCell (p := ⟨b, o + 2, none⟩) hb _).setCell (p := ⟨b, o + 3, none⟩) hb _).setCell (p := ⟨b, o + 4, none⟩) hb _
/-- What lies in a block of its own. -/
theorem new_at5 (w : World) (d : Dg) (e : TypeId) : At5 (w.alloc (.cells (cs5 d) e)) w.heap.size 0 d := by
  refine ⟨⟨?_, ?_, ?_, ?_, ?_⟩, ?_, ?_, ?_, ?_, ?_⟩ <;> simp [cs5]
end D
end Go.Proofs.Ytfphpbhopfhlcaa
