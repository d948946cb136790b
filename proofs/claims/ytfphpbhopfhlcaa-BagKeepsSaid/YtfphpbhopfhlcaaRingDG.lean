/-
  ring of datagrams: 'grow'.
-/
import Derived.Test.YtfphpbhopfhlcaaRingD
namespace Go.Proofs.Ytfphpbhopfhlcaa.D
open Go.RowKit
set_option linter.unusedVariables false
set_option linter.unusedSimpArgs false
def RingRoom (X : Nat → Prop) (W : World) (g most : Nat) (L : List Dg) : Prop :=
  1 ≤ most ∧ most ≤ 65536 ∧ ¬ X g ∧ ∃ f b Z, RingC W g most f L.length (.slice (some ⟨b, 0, none⟩) Z.length Z.length) ∧ ¬ X b ∧ b ≠ g ∧ W.heap[b]? = some (.cells (dcs Z).toArray 49 (0, 0)) ∧ Lay most f Z L ∧ L.length < Z.length
theorem info49 : (Try.prog.info? 49).map (fun i => (i.zero, i.size, i.bytes)) = some (some (dv d0), 5, 32) := by kernel_rfl
theorem rgrow_not (X : Nat → Prop) (g most f many N : Nat) (v : Option Addr) (w : World) (h : RingC w g most f many (.slice v N N)) (hl : many < N) :
    Calls Try.prog 47 #[.pointer (some ⟨g, 0, none⟩)] w fun e w' => (∃ r, e = .returned r) ∧ Below w.heap.size w w' := by
  obtain ⟨h0, h1, h2, h3, f1, f2, f3⟩ := h
  have hg := Below.refl w.heap.size w
  go_enter Try.func47, Try.ntmps47
  go_wp2
  go_quiet (fail)
  go_wp2
  refine bodyPost_ret (results_none rfl _ _ _) rfl ?_
  exact ⟨⟨_, rfl⟩, below_drewN (by go_grown) _⟩
theorem rgrow_none (X : Nat → Prop) (g most : Nat) (w : World) (h : RingC w g most 0 0 (.slice none 0 0)) (h1 : 1 ≤ most) (h2 : most ≤ 65536) (hx : ¬ X g) :
    Calls Try.prog 47 #[.pointer (some ⟨g, 0, none⟩)] w fun e w' => (∃ r, e = .returned r) ∧ RingC w' g most 0 0 (.slice (some ⟨w.heap.size, 0, none⟩) 1 1) ∧ w'.heap[w.heap.size]? = some (.cells (dcs [d0]).toArray 49 (0, 0)) ∧ Kept X w w' := by
  have HH := Lib.hid h
  have hlt := ringC_lt h
  obtain ⟨h0, h1, h2, h3, f1, f2, f3⟩ := h
  have hg := Below.refl w.heap.size w
  obtain ⟨i0, hi, hz0, hz1, hz2⟩ := info_parts info49
  have hK : (if (1 : Int) < (most : Int) then (1 : Int) else (most : Int)) = 1 := by split <;> omega
  obtain ⟨R0, hR0⟩ : ∃ R0 : List Value, R0 = dcs [d0] := ⟨_, rfl⟩
  have hmk : ∀ W : World, (Instr.makeSlice 84 (.int .i64 1) (.int .i64 1)).run Try.prog W = .ok (.slice (some ⟨W.heap.size, 0, none⟩) 1 1) (W.alloc (.cells R0.toArray 49)) := by
    intro W
    have := run_make (P := Try.prog) W 84 49 i0 (dv d0) Try.underlying84 hi hz0 .i64 .i64 1 1 (by decide) (by decide) (by rw [hz2]; decide) (by decide)
    rw [hz1] at this
    rw [hR0, show [d0] = List.replicate 1 d0 from rfl, ← made5]
    exact this
  have HR0 := Lib.hid hR0
  clear hR0 hz0 hz1 hz2 hi
  have a1 := alloc_cell h1
  have a2 := alloc_cell h2
  have a3 := alloc_cell h3
  have b1 := alloc_frozen h1 f1
  have b3 := alloc_frozen h3 f3
  go_enter Try.func47, Try.ntmps47
  go_wp2
  go_quiet (fail)
  go_wp2
  go_region
  go_wp2
  go_end0
  have hbl : Below w.heap.size w ((w.drewN (nq + 1)).alloc (Obj.cells R0.toArray 49)) := Below.alloc (below_drewN (Below.refl _ w) _) (Nat.le_refl _) _
  refine ⟨⟨_, rfl⟩, ringC_grown (ringC_block HH.out (hbl.block g hlt)) _, ?_, ((Kept.of_below hbl).set _ _ _ hx).set _ _ _ hx⟩
  exact heap_set_other (heap_set_other (by rw [← HR0.out]; simp [World.alloc, World.drewN]) (by omega)) (by omega)
theorem run_copy_row5 {P : Program} (w : World) (dT sT ty elem : TypeId) (g o dLen dCap : Nat) (a : Addr) (sLen sCap : Nat) (cur : Array Value) (t : TypeId) (cs : List Value)
    (hu : P.underlying dT = some (.slice elem)) (hs : (P.info? elem).map (·.size) = some 5)
    (hg : w.heap[g]? = some (.cells cur t (0, 0))) (hn : cs.length = Nat.min sLen dLen * 5)
    (hsrc : ∀ j v, cs[j]? = some v → w.cell? (a.add j) = some v) (hfit : o + cs.length ≤ cur.size) (h1 : ∀ v ∈ cs, v.oneCell' = true) :
    (Builtin.copy_ #[dT, sT] ty #[.slice (some ⟨g, o, none⟩) dLen dCap, .slice (some a) sLen sCap]).run P w =
      .ok (goInt (Nat.min sLen dLen)) (w.setRow g (cur.toList.take o ++ cs ++ cur.toList.drop (o + cs.length)).toArray) := by
  have hl := run_loadCells_list (P := P) w a cs hsrc
  have hst := run_storeCells_at P g o t cs 0 cur w hg (by simpa using hfit) h1
  cases hq : P.info? elem with
  | none => simp [hq] at hs
  | some i =>
    have hi : i.size = 5 := by simpa [hq] using hs
    rw [hn] at hl
    simp [Builtin.copy_, run_underlying hu, Builtin.lenOf, Builtin.firstCells, sizeOf, typeInfo, hq, hi, hl, hst]
/-- A copy into a row that is known whole, from cells that lie in a row that is known whole. -/
theorem copy_rows5 (W : World) (nb b o f dL dC sL sC : Nat) (R Z : List Value) (cs : List Value) (hr : W.heap[nb]? = some (.cells R.toArray 49 (0, 0))) (hz : W.heap[b]? = some (.cells Z.toArray 49 (0, 0)))
    (hcs : cs = (Z.drop f).take cs.length) (hn : cs.length = Nat.min sL dL * 5) (hfit : o + cs.length ≤ R.length) (h1 : ∀ v ∈ cs, v.oneCell' = true) :
    (Builtin.copy_ #[84, 84] 3 #[.slice (some ⟨nb, o, none⟩) dL dC, .slice (some ⟨b, f, none⟩) sL sC]).run Try.prog W = .ok (goInt (Nat.min sL dL)) (W.setRow nb (R.take o ++ cs ++ R.drop (o + cs.length)).toArray) := by
  obtain ⟨i0, hi, hz0, hz1, hz2⟩ := info_parts info49
  have := run_copy_row5 (P := Try.prog) W 84 84 3 49 nb o dL dC ⟨b, f, none⟩ sL sC R.toArray 49 cs Try.underlying84 (by rw [hi]; simp [hz1]) hr hn ?_ (by simpa using hfit) h1
  · simpa using this
  · intro j v hj
    have hadd : (⟨b, f, none⟩ : Addr).add j = ⟨b, f + j, none⟩ := by unfold Addr.add; split <;> simp_all
    rw [hadd]
    rw [hcs, List.getElem?_take] at hj
    split at hj
    · rw [List.getElem?_drop] at hj
      simp [World.cell?, hz, hj]
    · cases hj
theorem rgrow_full (X : Nat → Prop) (g most f a e M b : Nat) (hM : M = f + a + e) (Zt Zd : List Dg) (w : World) (h : RingC w g most f (f + a) (.slice (some ⟨b, 0, none⟩) (f + a) (f + a))) (h1 : 1 ≤ most) (h2 : most ≤ 65536) (hx : ¬ X g)
    (ha : 1 ≤ a) (he : 1 ≤ e) (hZt : Zt.length = f) (hZd : Zd.length = a) (hK : (if 2 * ((f : Int) + a) + 1 < (most : Int) then 2 * ((f : Int) + a) + 1 else (most : Int)) = (M : Int)) (hne : b ≠ g)
    (hb : w.heap[b]? = some (.cells (dcs (Zt ++ Zd)).toArray 49 (0, 0))) :
    Calls Try.prog 47 #[.pointer (some ⟨g, 0, none⟩)] w fun e' w' => (∃ r, e' = .returned r) ∧ RingC w' g most 0 (f + a) (.slice (some ⟨w.heap.size, 0, none⟩) M M) ∧
      w'.heap[w.heap.size]? = some (.cells (dcs (Zd ++ Zt ++ List.replicate e d0)).toArray 49 (0, 0)) ∧ Kept X w w' := by
  have HH := Lib.hid h
  have hlt := ringC_lt h
  obtain ⟨h0, h1, h2, h3, f1, f2, f3⟩ := h
  have hg := Below.refl w.heap.size w
  obtain ⟨i0, hi, hz0, hz1, hz2⟩ := info_parts info49
  have hMb : M ≤ 65536 := by split at hK <;> omega
  have fa : f + a ≤ 65536 := by split at hK <;> omega
  have hw1 : wrap64 (2 * ((f : Int) + a)) = 2 * ((f : Int) + a) := wrap64_of _ (by omega) (by omega)
  have hw2 : wrap64 (2 * ((f : Int) + a) + 1) = 2 * ((f : Int) + a) + 1 := wrap64_of _ (by omega) (by omega)
  obtain ⟨R0, hR0⟩ : ∃ R0 : List Value, R0 = dcs (List.replicate M d0) := ⟨_, rfl⟩
  have hmk : ∀ W : World, (Instr.makeSlice 84 (.int .i64 M) (.int .i64 M)).run Try.prog W = .ok (.slice (some ⟨W.heap.size, 0, none⟩) M M) (W.alloc (.cells R0.toArray 49)) := by
    intro W
    have := run_make (P := Try.prog) W 84 49 i0 (dv d0) Try.underlying84 hi hz0 .i64 .i64 M M (by omega) (by omega) (by rw [hz2]; omega) (by omega)
    rw [hz1, Int.toNat_natCast] at this
    rw [hR0, ← made5]
    exact this
  have a1 := alloc_cell h1
  have a2 := alloc_cell h2
  have a3 := alloc_cell h3
  have b1 := alloc_frozen h1 f1
  have b3 := alloc_frozen h3 f3
  obtain ⟨R1, hR1⟩ : ∃ R1 : List Value, R1 = R0.take 0 ++ dcs Zd ++ R0.drop (0 + (dcs Zd).length) := ⟨_, rfl⟩
  obtain ⟨R2, hR2⟩ : ∃ R2 : List Value, R2 = R1.take (a * 5) ++ dcs Zt ++ R1.drop (a * 5 + (dcs Zt).length) := ⟨_, rfl⟩
  have hlb : b < w.heap.size := by
    rcases Nat.lt_or_ge b w.heap.size with h | h
    · exact h
    · rw [Array.getElem?_eq_none h] at hb; cases hb
  have HR1 := Lib.hid hR1
  have HR2 := Lib.hid hR2
  have hR0l : R0.length = M * 5 := by rw [hR0, dcs_len]; simp
  have hR1l : R1.length = M * 5 := by rw [hR1]; simp [hR0l, hZd, dcs_len]; omega
  have hma : Nat.min a M = a := Nat.min_eq_left (by omega)
  have hmf : Nat.min f (M - a) = f := Nat.min_eq_left (by omega)
  have hdr : (dcs (Zt ++ Zd)).drop (f * 5) = dcs Zd := by rw [dcs_append, List.drop_left' (by rw [dcs_len, hZt])]
  have k1 : ∀ n, (Builtin.copy_ #[84, 84] 3 #[.slice (some ⟨w.heap.size, 0, none⟩) M M, .slice (some ⟨b, f * 5, none⟩) a a]).run Try.prog (((w.drewN n).alloc (.cells R0.toArray 49)).drew) = .ok (.int .i64 a) ((((w.drewN n).alloc (.cells R0.toArray 49)).drew).setRow w.heap.size R1.toArray) := by
    intro n
    have := copy_rows5 (((w.drewN n).alloc (.cells R0.toArray 49)).drew) w.heap.size b 0 (f * 5) M M a a R0 (dcs (Zt ++ Zd)) (dcs Zd) (by simp [World.alloc, World.drew, World.drewN]) (((Below.alloc (below_drewN (Below.refl w.heap.size w) n) (Nat.le_refl _) (.cells R0.toArray 49)).block b hlb).trans hb) (by rw [hdr, List.take_length]) (by rw [dcs_len, hZd, hma]) (by simp [hR0l, hZd, dcs_len]; omega) (one_cell _)
    rw [← hR1, hma] at this
    exact this
  have k2 : ∀ W : World, W.heap[w.heap.size]? = some (.cells R1.toArray 49 (0, 0)) → W.heap[b]? = w.heap[b]? → (Builtin.copy_ #[84, 84] 3 #[.slice (some ⟨w.heap.size, a * 5, none⟩) (M - a) (M - a), .slice (some ⟨b, 0, none⟩) f (f + a)]).run Try.prog W = .ok (.int .i64 f) (W.setRow w.heap.size R2.toArray) := by
    intro W hW hWb
    have := copy_rows5 W w.heap.size b (a * 5) 0 (M - a) (M - a) f (f + a) R1 (dcs (Zt ++ Zd)) (dcs Zt) hW (hWb.trans hb) (by rw [dcs_append]; simp) (by rw [dcs_len, hZt, hmf]) (by simp [hR1l, hZt, dcs_len]; omega) (one_cell _)
    rw [← hR2, hmf] at this
    exact this
  have haM : a < M := by omega
  have K2 := Lib.hid k2
  have HB := Lib.hid hb
  have HMK : Hid (∀ n, Below w.heap.size w (((((w.drewN n).alloc (.cells R0.toArray 49)).drew).setRow w.heap.size R1.toArray))) :=
    fun n => below_setRow ((Below.alloc (below_drewN (Below.refl _ w) n) (Nat.le_refl _) _).drew) (Nat.le_refl _) _
  have HNB : Hid (∀ n, (((((w.drewN n).alloc (.cells R0.toArray 49)).drew).setRow w.heap.size R1.toArray)).heap[w.heap.size]? = some (.cells R1.toArray 49 (0, 0))) :=
    fun n => setRow_heap _ _ _ _ 49 _ (by simp [World.alloc, World.drew, World.drewN]; rfl)
  have HF : Hid (R2 = dcs (Zd ++ Zt ++ List.replicate e d0)) := by
    show R2 = _
    have hl : (dcs Zd).length = a * 5 := by rw [dcs_len, hZd]
    have hl2 : (dcs Zt).length = f * 5 := by rw [dcs_len, hZt]
    have hd1 : R0.drop (a * 5) = dcs (List.replicate (M - a) d0) := by rw [hR0, ← dcs_drop _ _ (by simp; omega), List.drop_replicate]
    have hd2 : (dcs (List.replicate (M - a) d0)).drop (f * 5) = dcs (List.replicate e d0) := by rw [← dcs_drop _ _ (by simp; omega), List.drop_replicate, show M - a - f = e by omega]
    have e1 : R1 = dcs Zd ++ dcs (List.replicate (M - a) d0) := by rw [hR1, List.take_zero, List.nil_append, Nat.zero_add, hl, hd1]
    rw [hR2, e1, List.take_left' hl, hl2, List.drop_append, List.drop_eq_nil_of_le (by omega), List.nil_append, hl, show a * 5 + f * 5 - a * 5 = f * 5 by omega, hd2, dcs_append, dcs_append]
  clear hR1 hR2 hR0 hR0l hR1l k2 hb hdr hM hz0 hz1 hz2 hi hma hmf
  go_enter Try.func47, Try.ntmps47
  go_wp2
  go_quiet (fail)
  go_wp2
  go_region
  go_wp2
  go_region
  have hb1 := HMK.out (nq + 1)
  have hh1 := HNB.out (nq + 1)
  generalize World.setRow _ _ _ = W1 at *
  have q1 := cell_below hb1 h1
  have q2 := cell_below hb1 h2
  have q3 := cell_below hb1 h3
  have k3 := K2.out W1.drew hh1 (hb1.block b hlb)
  go_wp2
  go_region
  have hb2 : Below w.heap.size w (W1.drew.setRow w.heap.size R2.toArray) := below_setRow hb1.drew (Nat.le_refl _) _
  have hh2 : (W1.drew.setRow w.heap.size R2.toArray).heap[w.heap.size]? = some (.cells R2.toArray 49 (0, 0)) := setRow_heap _ _ _ _ 49 _ hh1
  generalize World.setRow _ _ _ = W2 at *
  have s1 := cell_below hb2 h1
  have s3 := cell_below hb2 h3
  have t1 := (hb2.frozen (p := ⟨g, 1, none⟩) hlt).trans f1
  have t3 := (hb2.frozen (p := ⟨g, 3, none⟩) hlt).trans f3
  go_wp2
  go_end0
  refine ⟨⟨_, rfl⟩, ringC_grown (ringC_block HH.out (hb2.block g hlt)) _, ?_, ((Kept.of_below hb2).set _ _ _ hx).set _ _ _ hx⟩
  exact heap_set_other (heap_set_other (by rw [hh2, HF.out]) (by omega)) (by omega)
end Go.Proofs.Ytfphpbhopfhlcaa.D
