/-
  ring of ints: 'grow'.
-/
import Derived.Test.YtfphpbhopfhlcaaRing
namespace Go.Proofs.Ytfphpbhopfhlcaa
open Go.RowKit
set_option linter.unusedVariables false
set_option linter.unusedSimpArgs false
/-- The same, with room for one more. -/
def RingRoom (X : Nat → Prop) (W : World) (g most : Nat) (L : List Int) : Prop :=
  1 ≤ most ∧ most ≤ 65536 ∧ ¬ X g ∧ ∃ f b Z, RingC W g most f L.length (.slice (some ⟨b, 0, none⟩) Z.length Z.length) ∧ ¬ X b ∧ b ≠ g ∧ W.heap[b]? = some (.cells (Z.map (Value.int .i64)).toArray 3 (0, 0)) ∧ Lay most f Z L ∧ L.length < Z.length
theorem alloc_cell {w : World} {p : Addr} {v : Value} (h : w.cell? p = some v) (n : Nat) (o : Obj) : ((w.drewN n).alloc o).cell? p = some v :=
  cell_below (w := w) (Below.alloc (below_drewN (Below.refl _ w) n) (Nat.le_refl _) o) h
theorem alloc_frozen {w : World} {p : Addr} {v : Value} (hc : w.cell? p = some v) (h : w.frozen? p = false) (n : Nat) (o : Obj) : ((w.drewN n).alloc o).frozen? p = false :=
  ((Below.alloc (below_drewN (Below.refl w.heap.size w) n) (Nat.le_refl _) o).frozen (p := p) (World.block_lt_of_cell? _ _ hc)).trans h
theorem info3 : (Try.prog.info? 3).map (fun i => (i.zero, i.size, i.bytes)) = some (some (.int .i64 0), 1, 8) := by kernel_rfl
theorem rgrow_not (X : Nat → Prop) (g most f many N : Nat) (v : Option Addr) (w : World) (h : RingC w g most f many (.slice v N N)) (hl : many < N) :
    Calls Try.prog 29 #[.pointer (some ⟨g, 0, none⟩)] w fun e w' => (∃ r, e = .returned r) ∧ Below w.heap.size w w' := by
  obtain ⟨h0, h1, h2, h3, f1, f2, f3⟩ := h
  have hg := Below.refl w.heap.size w
  go_enter Try.func29, Try.ntmps29
  go_wp2
  go_quiet (fail)
  go_wp2
  refine bodyPost_ret (results_none rfl _ _ _) rfl ?_
  exact ⟨⟨_, rfl⟩, below_drewN (by go_grown) _⟩
theorem wrap64_of (x : Int) (h : -9223372036854775808 ≤ x) (h' : x ≤ 9223372036854775807) : wrap64 x = x := by unfold wrap64; omega
theorem made_one (z : Value) (n : Nat) : madeCells #[z] n = (List.replicate n z).toArray := by rw [← toList_madeCells_one]
theorem ringC_grown {W : World} {g most f many : Nat} {v : Value} (h : RingC W g most f many v) (v' : Value) : RingC ((W.setCell ⟨g, 3, none⟩ v').setCell ⟨g, 1, none⟩ (.int .i64 0)) g most 0 many v' := by
  obtain ⟨h0, h1, h2, h3, f1, f2, f3⟩ := h
  exact ⟨set_other (set_other h0 (by simp)) (by simp), set_same (set_other h1 (by simp)), set_other (set_other h2 (by simp)) (by simp), set_other (set_same h3) (by simp), by simp [f1], by simp [f2], by simp [f3]⟩
theorem heap_set_other {W : World} {g j b : Nat} {u : Value} {o : Obj} (h : W.heap[b]? = some o) (hne : b ≠ g) : (W.setCell ⟨g, j, none⟩ u).heap[b]? = some o :=
  (Below.heap_setCell _ _ _ _ (fun e => hne e)).trans h
theorem rgrow_none (X : Nat → Prop) (g most : Nat) (w : World) (h : RingC w g most 0 0 (.slice none 0 0)) (h1 : 1 ≤ most) (h2 : most ≤ 65536) (hx : ¬ X g) :
    Calls Try.prog 29 #[.pointer (some ⟨g, 0, none⟩)] w fun e w' => (∃ r, e = .returned r) ∧ RingC w' g most 0 0 (.slice (some ⟨w.heap.size, 0, none⟩) 1 1) ∧ w'.heap[w.heap.size]? = some (.cells ([(0 : Int)].map (Value.int .i64)).toArray 3 (0, 0)) ∧ Kept X w w' := by
  have HH := Lib.hid h
  have hlt := ringC_lt h
  obtain ⟨h0, h1, h2, h3, f1, f2, f3⟩ := h
  have hg := Below.refl w.heap.size w
  obtain ⟨i0, hi, hz0, hz1, hz2⟩ := info_parts info3
  have hK : (if (1 : Int) < (most : Int) then (1 : Int) else (most : Int)) = 1 := by split <;> omega
  have hmk : ∀ W : World, (Instr.makeSlice 33 (.int .i64 1) (.int .i64 1)).run Try.prog W = .ok (.slice (some ⟨W.heap.size, 0, none⟩) 1 1) (W.alloc (.cells (madeCells (Value.int .i64 0).cells 1) 3)) := by
    intro W
    have := run_make (P := Try.prog) W 33 3 i0 (.int .i64 0) Try.underlying33 hi hz0 .i64 .i64 1 1 (by decide) (by decide) (by rw [hz2]; decide) (by decide)
    rw [hz1] at this
    exact this
  have a1 := alloc_cell h1
  have a2 := alloc_cell h2
  have a3 := alloc_cell h3
  have b1 := alloc_frozen h1 f1
  have b3 := alloc_frozen h3 f3
  go_enter Try.func29, Try.ntmps29
  go_wp2
  go_quiet (fail)
  go_wp2
  go_region
  go_wp2
  go_end0
  have hbl : Below w.heap.size w ((w.drewN (nq + 1)).alloc (Obj.cells (madeCells #[Value.int IntKind.i64 0] 1) 3)) := Below.alloc (below_drewN (Below.refl _ w) _) (Nat.le_refl _) _
  refine ⟨⟨_, rfl⟩, ringC_grown (ringC_block HH.out (hbl.block g hlt)) _, ?_, ((Kept.of_below hbl).set _ _ _ hx).set _ _ _ hx⟩
  exact heap_set_other (heap_set_other (by rw [made_one]; simp [World.alloc, World.drewN]) (by omega)) (by omega)
/-- A copy into a row that is known whole, from cells that lie in a row that is known whole. -/
theorem copy_rows (W : World) (nb b o f dL dC sL sC : Nat) (R Z : List Value) (cs : List Value) (hr : W.heap[nb]? = some (.cells R.toArray 3 (0, 0))) (hz : W.heap[b]? = some (.cells Z.toArray 3 (0, 0)))
    (hcs : cs = (Z.drop f).take cs.length) (hn : cs.length = Nat.min sL dL) (hfit : o + cs.length ≤ R.length) (h1 : ∀ v ∈ cs, v.oneCell' = true) :
    (Builtin.copy_ #[33, 33] 3 #[.slice (some ⟨nb, o, none⟩) dL dC, .slice (some ⟨b, f, none⟩) sL sC]).run Try.prog W = .ok (goInt cs.length) (W.setRow nb (R.take o ++ cs ++ R.drop (o + cs.length)).toArray) := by
  obtain ⟨i0, hi, hz0, hz1, hz2⟩ := info_parts info3
  have := run_copy_row (P := Try.prog) W 33 33 3 3 nb o dL dC ⟨b, f, none⟩ sL sC R.toArray 3 cs Try.underlying33 (by rw [hi]; simp [hz1]) hr hn ?_ (by simpa using hfit) h1
  · simpa using this
  · intro j v hj
    have hadd : (⟨b, f, none⟩ : Addr).add j = ⟨b, f + j, none⟩ := by unfold Addr.add; split <;> simp_all
    rw [hadd]
    rw [hcs, List.getElem?_take] at hj
    split at hj
    · rw [List.getElem?_drop] at hj
      simp [World.cell?, hz, hj]
    · cases hj
theorem rgrow_full (X : Nat → Prop) (g most f a e M b : Nat) (hM : M = f + a + e) (Zt Zd : List Int) (w : World) (h : RingC w g most f (f + a) (.slice (some ⟨b, 0, none⟩) (f + a) (f + a))) (h1 : 1 ≤ most) (h2 : most ≤ 65536) (hx : ¬ X g)
    (ha : 1 ≤ a) (he : 1 ≤ e) (hZt : Zt.length = f) (hZd : Zd.length = a) (hK : (if 2 * ((f : Int) + a) + 1 < (most : Int) then 2 * ((f : Int) + a) + 1 else (most : Int)) = (M : Int)) (hne : b ≠ g)
    (hb : w.heap[b]? = some (.cells ((Zt ++ Zd).map (Value.int .i64)).toArray 3 (0, 0))) :
    Calls Try.prog 29 #[.pointer (some ⟨g, 0, none⟩)] w fun e' w' => (∃ r, e' = .returned r) ∧ RingC w' g most 0 (f + a) (.slice (some ⟨w.heap.size, 0, none⟩) M M) ∧
      w'.heap[w.heap.size]? = some (.cells ((Zd ++ Zt ++ List.replicate e 0).map (Value.int .i64)).toArray 3 (0, 0)) ∧ Kept X w w' := by
  have HH := Lib.hid h
  have hlt := ringC_lt h
  obtain ⟨h0, h1, h2, h3, f1, f2, f3⟩ := h
  have hg := Below.refl w.heap.size w
  obtain ⟨i0, hi, hz0, hz1, hz2⟩ := info_parts info3
  have hMb : M ≤ 65536 := by split at hK <;> omega
  have fa : f + a ≤ 65536 := by split at hK <;> omega
  have hw1 : wrap64 (2 * ((f : Int) + a)) = 2 * ((f : Int) + a) := wrap64_of _ (by omega) (by omega)
  have hw2 : wrap64 (2 * ((f : Int) + a) + 1) = 2 * ((f : Int) + a) + 1 := wrap64_of _ (by omega) (by omega)
  have hmk : ∀ W : World, (Instr.makeSlice 33 (.int .i64 M) (.int .i64 M)).run Try.prog W = .ok (.slice (some ⟨W.heap.size, 0, none⟩) M M) (W.alloc (.cells (madeCells #[Value.int .i64 0] M) 3)) := by
    intro W
    have := run_make (P := Try.prog) W 33 3 i0 (.int .i64 0) Try.underlying33 hi hz0 .i64 .i64 M M (by omega) (by omega) (by rw [hz2]; omega) (by omega)
    rw [hz1, Int.toNat_natCast, Nat.mul_one] at this
    exact this
  have a1 := alloc_cell h1
  have a2 := alloc_cell h2
  have a3 := alloc_cell h3
  have b1 := alloc_frozen h1 f1
  have b3 := alloc_frozen h3 f3
  obtain ⟨R0, hR0⟩ : ∃ R0 : List Value, R0 = List.replicate M (Value.int .i64 0) := ⟨_, rfl⟩
  obtain ⟨R1, hR1⟩ : ∃ R1 : List Value, R1 = R0.take 0 ++ Zd.map (Value.int .i64) ++ R0.drop (0 + (Zd.map (Value.int .i64)).length) := ⟨_, rfl⟩
  obtain ⟨R2, hR2⟩ : ∃ R2 : List Value, R2 = R1.take a ++ Zt.map (Value.int .i64) ++ R1.drop (a + (Zt.map (Value.int .i64)).length) := ⟨_, rfl⟩
  have hlb : b < w.heap.size := by
    rcases Nat.lt_or_ge b w.heap.size with h | h
    · exact h
    · rw [Array.getElem?_eq_none h] at hb; cases hb
  obtain ⟨W0, hW0⟩ : ∃ W0 : Nat → World, W0 = fun n => (w.drewN n).alloc (.cells (madeCells #[Value.int .i64 0] M) 3) := ⟨_, rfl⟩
  have HR1 := Lib.hid hR1
  have HR2 := Lib.hid hR2
  have hR0l : R0.length = M := by rw [hR0]; simp
  have hR1l : R1.length = M := by rw [hR1]; simp [hR0l, hZd]; omega
  have hdr : ((Zt ++ Zd).map (Value.int .i64)).drop f = Zd.map (Value.int .i64) := by rw [List.map_append, List.drop_left' (by simp [hZt])]
  have k1 : ∀ n, (Builtin.copy_ #[33, 33] 3 #[.slice (some ⟨w.heap.size, 0, none⟩) M M, .slice (some ⟨b, f, none⟩) a a]).run Try.prog (((w.drewN n).alloc (.cells (madeCells #[Value.int .i64 0] M) 3)).drew) = .ok (.int .i64 a) ((((w.drewN n).alloc (.cells (madeCells #[Value.int .i64 0] M) 3)).drew).setRow w.heap.size R1.toArray) := by
    intro n
    have := copy_rows (((w.drewN n).alloc (.cells (madeCells #[Value.int .i64 0] M) 3)).drew) w.heap.size b 0 f M M a a R0 ((Zt ++ Zd).map (Value.int .i64)) (Zd.map (Value.int .i64)) (by rw [made_one, hR0]; simp [World.alloc, World.drew, World.drewN]) (((Below.alloc (below_drewN (Below.refl w.heap.size w) n) (Nat.le_refl _) (.cells (madeCells #[Value.int .i64 0] M) 3)).block b hlb).trans hb) (by rw [hdr, List.take_length]) (by rw [List.length_map, hZd]; exact (Nat.min_eq_left (by omega)).symm) (by simp [hR0l, hZd]; omega) (by simp [Value.oneCell'])
    rw [← hR1] at this
    simpa [hZd, goInt] using this
  have k2 : ∀ W : World, W.heap[w.heap.size]? = some (.cells R1.toArray 3 (0, 0)) → W.heap[b]? = w.heap[b]? → (Builtin.copy_ #[33, 33] 3 #[.slice (some ⟨w.heap.size, a, none⟩) (M - a) (M - a), .slice (some ⟨b, 0, none⟩) f (f + a)]).run Try.prog W = .ok (.int .i64 f) (W.setRow w.heap.size R2.toArray) := by
    intro W hW hWb
    have := copy_rows W w.heap.size b a 0 (M - a) (M - a) f (f + a) R1 ((Zt ++ Zd).map (Value.int .i64)) (Zt.map (Value.int .i64)) hW (hWb.trans hb) (by simp) (by rw [List.length_map, hZt]; exact (Nat.min_eq_left (by omega)).symm) (by simp [hR1l, hZt]; omega) (by simp [Value.oneCell'])
    rw [← hR2] at this
    simpa [hZt, goInt] using this
  have haM : a < M := by omega
  have K2 := Lib.hid k2
  have HB := Lib.hid hb
  have HMK : Hid (∀ n, Below w.heap.size w (((((w.drewN n).alloc (.cells (madeCells #[Value.int .i64 0] M) 3)).drew).setRow w.heap.size R1.toArray))) :=
    fun n => below_setRow ((Below.alloc (below_drewN (Below.refl _ w) n) (Nat.le_refl _) _).drew) (Nat.le_refl _) _
  have HNB : Hid (∀ n, (((((w.drewN n).alloc (.cells (madeCells #[Value.int .i64 0] M) 3)).drew).setRow w.heap.size R1.toArray)).heap[w.heap.size]? = some (.cells R1.toArray 3 (0, 0))) :=
    fun n => setRow_heap _ _ _ _ 3 _ (by rw [made_one]; simp [World.alloc, World.drew, World.drewN]; rfl)
  have HF : Hid (R2 = (Zd ++ Zt ++ List.replicate e 0).map (Value.int .i64)) := by
    show R2 = _
    rw [hR2, hR1, hR0]
    simp only [List.take_zero, List.nil_append, Nat.zero_add, List.length_map, hZd, hZt, List.drop_replicate, List.map_append, List.map_replicate]
    rw [List.take_append_of_le_length (by simp [hZd]), List.take_of_length_le (by simp [hZd]), List.drop_append, List.drop_eq_nil_of_le (by simp [hZd])]
    simp only [List.length_map, hZd, List.nil_append, List.drop_replicate]
    rw [show M - a - (a + f - a) = e by omega]
  clear hR1 hR2 hR0 hR0l hR1l k2 hb hdr hM
  go_enter Try.func29, Try.ntmps29
  go_wp2
  go_quiet (fail)
  go_wp2
  go_region
  go_wp2
  go_region
  have hb1 := HMK.out (nq + 1)
  have hh1 := HNB.out (nq + 1)
  generalize World.setRow _ _ _ = W1 at *
  have q1 := cell_below hb1 h1
  have q2 := cell_below hb1 h2
  have q3 := cell_below hb1 h3
  have k3 := K2.out W1.drew hh1 (hb1.block b hlb)
  go_wp2
  go_region
  have hb2 : Below w.heap.size w (W1.drew.setRow w.heap.size R2.toArray) := below_setRow hb1.drew (Nat.le_refl _) _
  have hh2 : (W1.drew.setRow w.heap.size R2.toArray).heap[w.heap.size]? = some (.cells R2.toArray 3 (0, 0)) := setRow_heap _ _ _ _ 3 _ hh1
  generalize World.setRow _ _ _ = W2 at *
  have s1 := cell_below hb2 h1
  have s3 := cell_below hb2 h3
  have t1 := (hb2.frozen (p := ⟨g, 1, none⟩) hlt).trans f1
  have t3 := (hb2.frozen (p := ⟨g, 3, none⟩) hlt).trans f3
  go_wp2
  go_end0
  refine ⟨⟨_, rfl⟩, ringC_grown (ringC_block HH.out (hb2.block g hlt)) _, ?_, ((Kept.of_below hb2).set _ _ _ hx).set _ _ _ hx⟩
  exact heap_set_other (heap_set_other (by rw [hh2, HF.out]) (by omega)) (by omega)
end Go.Proofs.Ytfphpbhopfhlcaa
