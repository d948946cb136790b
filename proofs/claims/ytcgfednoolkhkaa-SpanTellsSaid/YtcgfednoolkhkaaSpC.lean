/-
  ident: Cmp, metric: Cmp.
-/
import Derived.Test.YtcgfednoolkhkaaSpX
import Derived.Lib.BytesEntry
import Derived.Lib.Bytealg
namespace Go.Proofs.Ytcgfednoolkhkaa
open Go.RowKit
set_option linter.unusedVariables false
set_option linter.unusedSimpArgs false
def nums (l : List Nat) : List Int := l.map fun (b : Nat) => (b : Int)
/-- Which one is below. -/
def cmpN (a b : List Nat) : Int := Lib.compareBytes (Lib.bytesOf (nums a)) (Lib.bytesOf (nums b))
theorem run_bytes {w : World} {b : Nat} {l : List Nat} (h : IdAt w b l) (c : Nat) : (Extern.Bytes.bytesOf (.slice (some ⟨b, 0, none⟩) l.length c)).run Try.prog w = .ok ⟨(Lib.bytesOf (nums l)).toArray⟩ w := by
  have := Lib.run_loadBytesX (P := Try.prog) (w := w) (nums l) ⟨b, 0, none⟩ .empty (by
    intro j x hj
    have hadd : (⟨b, 0, none⟩ : Addr).add j = ⟨b, j, none⟩ := by unfold Addr.add; split <;> simp_all
    rw [hadd]
    have hjl : j < l.length := by
      rcases Nat.lt_or_ge j l.length with h1 | h1
      · exact h1
      · simp [nums, List.getElem?_eq_none h1] at hj
    rw [(idAt_cell h j hjl).1]
    simp [nums, hjl] at hj
    simp [List.getD, hjl, hj])
  simp [nums] at this
  simpa [Extern.Bytes.bytesOf, nums] using this
theorem rcompare {w : World} {b1 b2 : Nat} {a b : List Nat} (h1 : IdAt w b1 a) (h2 : IdAt w b2 b) (c1 c2 : Nat) :
    Calls Try.prog 48 #[.slice (some ⟨b1, 0, none⟩) a.length c1, .slice (some ⟨b2, 0, none⟩) b.length c2] w fun e w' => e = .returned (.int .i64 (cmpN a b)) ∧ w = w' := by
  have r1 := run_bytes h1 c1
  have r2 := run_bytes h2 c2
  have hrun : (Extern.BytealgCompare.compare #[.slice (some ⟨b1, 0, none⟩) a.length c1, .slice (some ⟨b2, 0, none⟩) b.length c2]).run Try.prog w = .ok (.int .i64 (cmpN a b)) w := by
    change Sem.run Try.prog (do pure (goInt (Extern.BytealgCompare.cmp (← Extern.Bytes.bytesOf (.slice (some ⟨b1, 0, none⟩) a.length c1)) (← Extern.Bytes.bytesOf (.slice (some ⟨b2, 0, none⟩) b.length c2))))) w = _
    simp only [Sem.run_bind, Sem.run_pure, r1, r2, Result.andThen]
    rw [Lib.cmp_eq]
    rfl
  clear r1 r2 h1 h2
  generalize a.length = na at *
  generalize b.length = nb at *
  generalize cmpN a b = v at *
  go_enter Try.func48, Try.ntmps48
  go_wp2
  rw [run_callFunc_extern Try.func56 (by kernel_rfl) (by kernel_rfl) (by kernel_rfl) (e := Extern.BytealgCompare.compare) (by kernel_rfl), hrun]
  simp only [Result.andThen]
  rw [Oper.upon_value]
  go_wp2
  go_ret
  exact ⟨rfl, rfl⟩
theorem rcmp (a b : List Nat) (w : World) (ha : Id a) (hb : Id b) :
    Calls Try.prog 31 #[idv a, idv b] w fun e w' => e = .returned (.int .i64 (cmpN a b)) ∧ Below w.heap.size w w' := by
  have hA2 : IdAt ((w.alloc (.cells (idc a).toArray 41)).alloc (.cells (idc b).toArray 41)) w.heap.size a := idAt_below (idAt_new w a) ((Below.refl _ _).alloc (Nat.le_refl _) _)
  have hB2 : IdAt ((w.alloc (.cells (idc a).toArray 41)).alloc (.cells (idc b).toArray 41)) (w.heap.size + 1) b := by simpa using idAt_new (w.alloc (.cells (idc a).toArray 41)) b
  have hW : Below w.heap.size w ((w.alloc (.cells (idc a).toArray 41)).alloc (.cells (idc b).toArray 41)) := ((Below.refl _ w).alloc (Nat.le_refl _) _).alloc (by simp) _
  have HC : Hid (∀ W, Below ((w.alloc (.cells (idc a).toArray 41)).alloc (.cells (idc b).toArray 41)).heap.size ((w.alloc (.cells (idc a).toArray 41)).alloc (.cells (idc b).toArray 41)) W →
      Calls Try.prog 48 #[.slice (some ⟨w.heap.size, 0, none⟩) 20 20, .slice (some ⟨w.heap.size + 1, 0, none⟩) 20 20] W fun e w' => e = .returned (.int .i64 (cmpN a b)) ∧ W = w') := fun W hb' => by
    have := rcompare (idAt_below hA2 hb') (idAt_below hB2 hb') 20 20
    rwa [ha.1, hb.1] at this
  have HW := Lib.hid hW
  unfold idv
  generalize cmpN a b = v at *
  generalize (idc a).toArray = Ca at *
  generalize (idc b).toArray = Cb at *
  clear hA2 hB2 hW ha hb
  go_enter Try.func31, Try.ntmps31
  go_wp2
  generalize World.alloc _ _ = W0 at *
  go_region_held3 (fun w' => Below W0.heap.size W0 w') (first | with_reducible assumption | exact (Below.refl _ _).drew) (first
    | (go_at_call 48; refine (HC.out _ (by first | with_reducible assumption | exact (Below.refl _ _).drew)).mono ?_; rintro e w1 ⟨rfl, rfl⟩))
  go_wp2
  go_ret
  exact ⟨rfl, HW.out.drew⟩
theorem loadAt_id {w : World} {b : Nat} {l : List Nat} (h : IdAt w b l) (hl : l.length = 20) : (Instr.loadAt 41 (.pointer (some ⟨b, 0, none⟩))).run Try.prog w = .ok (.agg (idc l).toArray) w :=
  run_loadAt_mid w b 0 41 (idc l) _ (idAt_range h) Try.underlying41 rfl (by rw [info41, idc_len, hl])
theorem rmetric (t a b : List Nat) (w : World) (ht : Id t) (ha : Id a) (hb : Id b) :
    Calls Try.prog 27 #[idv t, idv a, idv b] w fun e w' => e = .returned (.int .i64 (cmpN (xorL t a) (xorL t b))) ∧ Below w.heap.size w w' := by
  have hT := idAt_new w t
  have hT2 : IdAt ((w.alloc (.cells (idc t).toArray 41)).alloc (.cells (idc a).toArray 41)) w.heap.size t := idAt_below hT ((Below.refl _ _).alloc (Nat.le_refl _) _)
  have hA2 : IdAt ((w.alloc (.cells (idc t).toArray 41)).alloc (.cells (idc a).toArray 41)) (w.heap.size + 1) a := by simpa using idAt_new (w.alloc (.cells (idc t).toArray 41)) a
  have hT3 : IdAt (((w.alloc (.cells (idc t).toArray 41)).alloc (.cells (idc a).toArray 41)).alloc (.cells (idc b).toArray 41)) w.heap.size t := idAt_below hT2 ((Below.refl _ _).alloc (Nat.le_refl _) _)
  have hA3 : IdAt (((w.alloc (.cells (idc t).toArray 41)).alloc (.cells (idc a).toArray 41)).alloc (.cells (idc b).toArray 41)) (w.heap.size + 1) a := idAt_below hA2 ((Below.refl _ _).alloc (Nat.le_refl _) _)
  have hB3 : IdAt (((w.alloc (.cells (idc t).toArray 41)).alloc (.cells (idc a).toArray 41)).alloc (.cells (idc b).toArray 41)) (w.heap.size + 1 + 1) b := by simpa using idAt_new ((w.alloc (.cells (idc t).toArray 41)).alloc (.cells (idc a).toArray 41)) b
  have hW : Below w.heap.size w (((w.alloc (.cells (idc t).toArray 41)).alloc (.cells (idc a).toArray 41)).alloc (.cells (idc b).toArray 41)) := (((Below.refl _ w).alloc (Nat.le_refl _) _).alloc (by simp) _).alloc (by simp; omega) _
  have HW := Lib.hid hW
  obtain ⟨W0, hW0⟩ : ∃ W0, W0 = ((w.alloc (.cells (idc t).toArray 41)).alloc (.cells (idc a).toArray 41)).alloc (.cells (idc b).toArray 41) := ⟨_, rfl⟩
  rw [← hW0] at hT3 hA3 hB3 HW
  have HT := Lib.hid hT3
  have HA := Lib.hid hA3
  have HB := Lib.hid hB3
  have HX1 : Hid (∀ W, Below W0.heap.size W0 W → Calls Try.prog 42 #[.agg (idc t).toArray, .agg (idc a).toArray] W fun e w' => e = .returned (.agg (idc (xorL t a)).toArray) ∧ Below W0.heap.size W0 w') := fun W hb' => (rxor t a W ht ha).mono (fun e w' h => ⟨h.1, hb'.trans (h.2.mono hb'.size)⟩)
  have HX2 : Hid (∀ W, Below W0.heap.size W0 W → Calls Try.prog 42 #[.agg (idc t).toArray, .agg (idc b).toArray] W fun e w' => e = .returned (.agg (idc (xorL t b)).toArray) ∧ Below W0.heap.size W0 w') := fun W hb' => (rxor t b W ht hb).mono (fun e w' h => ⟨h.1, hb'.trans (h.2.mono hb'.size)⟩)
  have HC : Hid (∀ W, Below W0.heap.size W0 W → Calls Try.prog 31 #[.agg (idc (xorL t a)).toArray, .agg (idc (xorL t b)).toArray] W fun e w' => e = .returned (.int .i64 (cmpN (xorL t a) (xorL t b))) ∧ Below W0.heap.size W0 w') := fun W hb' => (rcmp _ _ W (id_xor ht ha) (id_xor ht hb)).mono (fun e w' h => ⟨h.1, hb'.trans (h.2.mono hb'.size)⟩)
  have ut : Try.prog.underlying 41 = some (.array 20 5) := Try.underlying41
  have nt : (Try.prog.info? 41).map (·.size) = some (idc t).length := by rw [info41, idc_len, ht.1]
  have na : (Try.prog.info? 41).map (·.size) = some (idc a).length := by rw [info41, idc_len, ha.1]
  have nb : (Try.prog.info? 41).map (·.size) = some (idc b).length := by rw [info41, idc_len, hb.1]
  clear hT hT2 hA2 hT3 hA3 hB3 hW ht ha hb
  unfold idv
  generalize cmpN (xorL t a) (xorL t b) = v at *
  generalize (idc (xorL t a)).toArray = Xa at *
  generalize (idc (xorL t b)).toArray = Xb at *
  have kT : ∀ W, Below W0.heap.size W0 W → W.rangeAt w.heap.size 0 (idc t) := fun W h => idAt_range (idAt_below HT.out h)
  have kA : ∀ W, Below W0.heap.size W0 W → W.rangeAt (w.heap.size + 1) 0 (idc a) := fun W h => idAt_range (idAt_below HA.out h)
  have kB : ∀ W, Below W0.heap.size W0 W → W.rangeAt (w.heap.size + 1 + 1) 0 (idc b) := fun W h => idAt_range (idAt_below HB.out h)
  have KT := Lib.hid kT
  have KA := Lib.hid kA
  have KB := Lib.hid kB
  clear kT kA kB HT HA HB
  generalize idc t = Ct at *
  generalize idc a = Ca at *
  generalize idc b = Cb at *
  go_enter Try.func27, Try.ntmps27
  go_wp2
  rw [← hW0]
  clear hW0
  refine wp_region_held_drew (S := fun w' => Below W0.heap.size W0 w') (by kernel_rfl) ((Below.refl _ _).drew) (fun hHeld => ?_)
  refine wpAnyH_take (i := 0) (oi := _) (v := _) (by simp only [List.getElem?_toArray, List.getElem?_cons_succ, List.getElem?_cons_zero]; rfl) (by kernel_rfl) (by kernel_rfl) (by kernel_rfl) (by intro _ _ _ h; exact h) (yieldsIf_load_mid (by rfl) _ _ rfl _ 0 rfl Ct _ (fun W h => KT.out W h) ut rfl nt) hHeld ?_
  (try simp only [Act.put, List.setIfInBounds_toArray, List.set_cons_zero, List.set_cons_succ])
  refine wpAnyH_take (i := 1) (oi := _) (v := _) (by simp only [List.getElem?_toArray, List.getElem?_cons_succ, List.getElem?_cons_zero]; rfl) (by kernel_rfl) (by kernel_rfl) (by kernel_rfl) (by intro _ _ _ h; exact h) (yieldsIf_load_mid (by rfl) _ _ rfl _ 0 rfl Ca _ (fun W h => KA.out W h) ut rfl na) hHeld ?_
  (try simp only [Act.put, List.setIfInBounds_toArray, List.set_cons_zero, List.set_cons_succ])
  refine wpAnyH_take (i := 3) (oi := _) (v := _) (by simp only [List.getElem?_toArray, List.getElem?_cons_succ, List.getElem?_cons_zero]; rfl) (by kernel_rfl) (by kernel_rfl) (by kernel_rfl) (by intro _ _ _ h; exact h) (yieldsIf_load_mid (by rfl) _ _ rfl _ 0 rfl Ct _ (fun W h => KT.out W h) ut rfl nt) hHeld ?_
  (try simp only [Act.put, List.setIfInBounds_toArray, List.set_cons_zero, List.set_cons_succ])
  refine wpAnyH_take (i := 4) (oi := _) (v := _) (by simp only [List.getElem?_toArray, List.getElem?_cons_succ, List.getElem?_cons_zero]; rfl) (by kernel_rfl) (by kernel_rfl) (by kernel_rfl) (by intro _ _ _ h; exact h) (yieldsIf_load_mid (by rfl) _ _ rfl _ 0 rfl Cb _ (fun W h => KB.out W h) ut rfl nb) hHeld ?_
  (try simp only [Act.put, List.setIfInBounds_toArray, List.set_cons_zero, List.set_cons_succ])
  refine wpAnyH_ready (rs := [2]) (by kernel_rfl) (by simp) ?_
  refine AllReadyH.cons rfl (fun K hK => ?_) ?_
  · go_simp
    go_at_call 42
    refine (HX1.out _ hHeld).mono ?_
    rintro e w1 ⟨rfl, hb1⟩
    go_wp2_with fail
    refine hK.out _ _ (hb1) (fun hHeld => ?_)
    clear hK K
    (try simp only [Act.put, List.setIfInBounds_toArray, List.set_cons_zero, List.set_cons_succ])
    refine wpAnyH_ready (rs := [5]) (by kernel_rfl) (by simp) ?_
    refine AllReadyH.cons rfl (fun K hK => ?_) ?_
    · go_simp
      go_at_call 42
      refine (HX2.out _ hHeld).mono ?_
      rintro e w1 ⟨rfl, hb1⟩
      go_wp2_with fail
      refine hK.out _ _ (hb1) (fun hHeld => ?_)
      clear hK K
      (try simp only [Act.put, List.setIfInBounds_toArray, List.set_cons_zero, List.set_cons_succ])
      refine wpAnyH_ready (rs := [6]) (by kernel_rfl) (by simp) ?_
      refine AllReadyH.cons rfl (fun K hK => ?_) ?_
      · go_simp
        go_at_call 31
        refine (HC.out _ hHeld).mono ?_
        rintro e w1 ⟨rfl, hb1⟩
        go_wp2_with fail
        refine hK.out _ _ (hb1) (fun hHeld => ?_)
        clear hK K
        (try simp only [Act.put, List.setIfInBounds_toArray, List.set_cons_zero, List.set_cons_succ])
        refine wpAnyH_ready (rs := [7]) (by kernel_rfl) (by simp) ?_
        refine AllReadyH.cons rfl (fun K hK => ?_) ?_
        · go_simp
          refine hK.out _ _ (hHeld) (fun hHeld => ?_)
          clear hK K
          (try simp only [Act.put, List.setIfInBounds_toArray, List.set_cons_zero, List.set_cons_succ])
          refine wpAnyH_done (by kernel_rfl) ?_ _
          go_wp2
          go_ret
          exact ⟨rfl, HW.out.trans (hHeld.mono HW.out.size)⟩
        exact AllReadyH.nil
      exact AllReadyH.nil
    exact AllReadyH.nil
  exact AllReadyH.nil
end Go.Proofs.Ytcgfednoolkhkaa
