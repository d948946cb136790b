/-
  The document's Nearer; Ints.
-/
import Derived.Test.YtcgfednoolkhkaaRfE
namespace Go.Proofs.Ytcgfednoolkhkaa
open Go.RowKit Go.Proofs.YtcgfednoolkhkaaW.PrintWords
set_option linter.unusedVariables false
set_option linter.unusedSimpArgs false
set_option maxRecDepth 20000
theorem fints (A B : Option Addr) (c d : Nat) (xs : List Int) (w : World) (hA : RowI w A xs) (hB : RowI w B xs) (hn : xs.length ≤ 1000) :
    Calls Try.prog 38 #[.slice A xs.length c, .slice B xs.length d] w fun e w' => e = .returned (.bool true) ∧ Below w.heap.size w w' := by
  have HA := Lib.hid hA
  have HB := Lib.hid hB
  have hbe : ((xs.length : Int) != (xs.length : Int)) = false := by simp
  clear hA hB
  generalize hlen : xs.length = n at *
  have HN := Lib.hid hlen
  clear hlen
  go_enter Try.func38, Try.ntmps38
  go_wp2_with fail
  go_loopw [5, 13] (fun _ x wr => ∃ k : Nat, k ≤ n ∧ x = .int .i64 k ∧ Below w.heap.size w wr) (fun _ x _ => n - (intOf x).toNat)
  case atStart => exact ⟨0, by omega, rfl, Below.refl _ _⟩
  case round =>
    obtain ⟨k, hk, rfl, hb⟩ := hrel
    have HBR := Lib.hid hb
    clear hb
    by_cases hlt : k < n
    · have hlt2 : (k : Int) < (n : Int) := by omega
      have hk0 : (0 : Int) ≤ (k : Int) := by omega
      have hne : xs ≠ [] := by rintro rfl; have := HN.out; simp at this; omega
      obtain ⟨g1, rfl, hc1⟩ := HA.out hne
      obtain ⟨g2, rfl, hc2⟩ := HB.out hne
      have hx : xs[k]? = some (xs.getD k 0) := by
        have : k < xs.length := by rw [HN.out]; exact hlt
        simp [List.getD, this]
      have e1 : wr.cell? ⟨g1, k, none⟩ = some (.int .i64 (xs.getD k 0)) := cell_below HBR.out (hc1 k _ hx)
      have e2 : wr.cell? ⟨g2, k, none⟩ = some (.int .i64 (xs.getD k 0)) := cell_below HBR.out (hc2 k _ hx)
      clear hc1 hc2 hx hne
      generalize xs.getD k 0 = y at *
      have hyy : (y != y) = false := by simp
      go_wp2_with fail
      go_quiet (fail)
      go_wp2_with fail
      go_roundw
      case rel => exact ⟨k + 1, by omega, by go_num, below_drewN HBR.out _⟩
      case measure => simp [intOf]; omega
    · obtain rfl : k = n := by omega
      go_wp2_with fail
      go_ret
      exact ⟨rfl, HBR.out⟩
set_option maxHeartbeats 4000000 in
theorem fnearer (o t : List Nat) (w : World) (ho : Id o) (ht : Id t) :
    Calls Try.prog 39 #[idv o, idv t] w fun e w' => ∃ v, e = .returned v ∧ w'.ownsRow w.heap.size 3 1 v (nearK (xorL o t) 160).length (Go.Proofs.YtcgfednoolkhkaaW.PrintWords.nums .i64 (nearK (xorL o t) 160)) ∧ Below w.heap.size w w' := by
  obtain ⟨hA2, hB2, hb2⟩ := r2_new w o t
  have XA := Lib.hid hA2
  have XB := Lib.hid hB2
  have XW := Lib.hid hb2
  have HIO := Lib.hid ho
  have HIT := Lib.hid ht
  have ho20 := ho.1
  have ht20 := ht.1
  have HFAR : Hid (∀ j, j < 160 → bit (xorL o t) j = if bit o j = bit t j then 0 else 1) := fun j hj => bit_xor o t ho20 ht20 j hj
  generalize xorL o t = far at *
  clear hA2 hB2 hb2 ho ht
  unfold idv at *
  generalize hCa : (idc o).toArray = Ca at *
  generalize hCb : (idc t).toArray = Cb at *
  go_enter Try.func39, Try.ntmps39
  go_upto_region 1 with fail
  obtain ⟨W2, hW2⟩ : ∃ W2, W2 = (w.alloc (.cells Ca 56)).alloc (.cells Cb 56) := ⟨_, rfl⟩
  rw [← hW2] at XA XB XW ⊢
  clear hW2
  subst hCa hCb
  go_wp2_with fail
  go_loopw [5, 6] (fun v x wr => ∃ k : Nat, k ≤ 160 ∧ x = .int .i64 k ∧ wr.ownsRow W2.heap.size 3 1 v (nearK far k).length (Go.Proofs.YtcgfednoolkhkaaW.PrintWords.nums .i64 (nearK far k)) ∧ Below W2.heap.size W2 wr) (fun _ x _ => 160 - (intOf x).toNat)
  case atStart => exact ⟨0, by omega, rfl, by simpa [nearK, nearN, Go.Proofs.YtcgfednoolkhkaaW.PrintWords.nums] using World.ownsRow_nil W2 _ 3 1, Below.refl _ _⟩
  case round =>
    obtain ⟨k, hk, rfl, hro, hrb⟩ := hrel
    have HO := Lib.hid hro
    have HBR := Lib.hid hrb
    have YA := Lib.hid (idR_below XA.out hrb)
    have YB := Lib.hid (idR_below XB.out hrb)
    clear hro hrb
    by_cases hlt : k < 160
    · have hlt2 : (k : Int) < 160 := by omega
      have hk0 : (0 : Int) ≤ (k : Int) := by omega
      have hw1 : IntKind.i64.wrap ((k : Int) + 1) = (k : Int) + 1 := by rw [IntKind.wrap_i64]; omega
      have HCA := Lib.hid (fun W => fbit o k W HIO.out hlt)
      have HCB := Lib.hid (fun W => fbit t k W HIT.out hlt)
      have HF := HFAR.out k hlt
      have HNL := Lib.hid (near_len far k)
      by_cases hv : bit o k = bit t k
      · rw [if_pos hv] at HF
        have HY := Lib.hid (near_no far k (by omega))
        rw [hv] at HCA
        have hbe : ((bit t k : Int) != (bit t k : Int)) = false := by simp
        clear hv HF
        generalize bit t k = vb at *
        generalize nearK far k = xs at *
        go_wp2_with fail
        refine wp_meet (fun a => (((((((a.put (some 11) (idv o)).put (some 12) (.int .i64 k)).put (some 13) (.int .i64 (vb : Nat))).put (some 14) (idv t)).put (some 15) (.int .i64 k)).put (some 16) (.int .i64 (vb : Nat))).put (some 17) (.bool false))) (fun w' => Below wr.heap.size wr w') ?_ ?_
        rotate_left
        · intro K' h2
          simp only [Act.put, List.setIfInBounds_toArray, List.set_cons_zero, List.set_cons_succ] at h2
          replace h2 := Lib.hid h2
          have HB := Lib.hid (Below.refl wr.heap.size wr).drew
          refine wp_region_any (by kernel_rfl) ?_
          (try (change wpAny _ _ _ _ _ _ _ (World.drew _)))
          generalize World.drew wr = wd at *
          refine wpAny_take (i := 1) (oi := _) (v := ?_) (by simp only [List.getElem?_toArray, List.getElem?_cons_succ, List.getElem?_cons_zero]; rfl) (by kernel_rfl) (by kernel_rfl) (by kernel_rfl) (by intro _ _ _ h; exact h) (Or.inl ⟨by rfl, ?_⟩) ?_
          rotate_left
          focus (intro w; go_simp; try with_reducible rfl)
          (try simp only [Act.put, List.setIfInBounds_toArray, List.set_cons_zero, List.set_cons_succ])
          refine wpAny_take (i := 4) (oi := _) (v := ?_) (by simp only [List.getElem?_toArray, List.getElem?_cons_succ, List.getElem?_cons_zero]; rfl) (by kernel_rfl) (by kernel_rfl) (by kernel_rfl) (by intro _ _ _ h; exact h) (Or.inl ⟨by rfl, ?_⟩) ?_
          rotate_left
          focus (intro w; go_simp; try with_reducible rfl)
          (try simp only [Act.put, List.setIfInBounds_toArray, List.set_cons_zero, List.set_cons_succ])
          refine wpAny_ready (rs := [0, 3]) (by kernel_rfl) (by simp) ?_
          refine AllReady.cons rfl (fun K hK => ?_) ?_
          · rw [if_pos (by rfl)]
            refine wp_load_r (.tmp 2) rfl (w.heap.size) rfl o (idR_below YA.out HB.out) ho20 ?_
            go_simp
            refine hK _ _ ?_
            clear hK K
            (try simp only [Act.put, List.setIfInBounds_toArray, List.set_cons_zero, List.set_cons_succ])
            refine wpAny_ready (rs := [2, 3]) (by kernel_rfl) (by simp) ?_
            refine AllReady.cons rfl (fun K hK => ?_) ?_
            · go_simp
              go_at_call 52
              refine (HCA.out _).mono ?_
              rintro e w2 ⟨rfl, hb2⟩
              replace HB := Lib.hid (HB.out.trans (hb2.mono HB.out.size))
              clear hb2
              go_wp2_with fail
              (try simp only [Act.put, List.setIfInBounds_toArray, List.set_cons_zero, List.set_cons_succ])
              refine wpAny_ready (rs := [3]) (by kernel_rfl) (by simp) ?_
              refine AllReady.cons rfl (fun K hK => ?_) ?_
              · rw [if_pos (by rfl)]
                refine wp_load_r (.tmp 3) rfl (w.heap.size + 1) rfl t (idR_below YB.out HB.out) ht20 ?_
                go_simp
                refine hK _ _ ?_
                clear hK K
                (try simp only [Act.put, List.setIfInBounds_toArray, List.set_cons_zero, List.set_cons_succ])
                refine wpAny_ready (rs := [5]) (by kernel_rfl) (by simp) ?_
                refine AllReady.cons rfl (fun K hK => ?_) ?_
                · go_simp
                  go_at_call 52
                  refine (HCB.out _).mono ?_
                  rintro e w2 ⟨rfl, hb2⟩
                  replace HB := Lib.hid (HB.out.trans (hb2.mono HB.out.size))
                  clear hb2
                  go_wp2_with fail
                  (try simp only [Act.put, List.setIfInBounds_toArray, List.set_cons_zero, List.set_cons_succ])
                  refine wpAny_take (i := 6) (oi := _) (v := ?_) (by simp only [List.getElem?_toArray, List.getElem?_cons_succ, List.getElem?_cons_zero]; rfl) (by kernel_rfl) (by kernel_rfl) (by kernel_rfl) (by intro _ _ _ h; exact h) (Or.inl ⟨by rfl, ?_⟩) ?_
                  rotate_left
                  focus (intro w; go_simp; try with_reducible rfl)
                  (try simp only [Act.put, List.setIfInBounds_toArray, List.set_cons_zero, List.set_cons_succ])
                  refine wpAny_done (by kernel_rfl) ?_ _
                  exact h2.out _ HB.out
                exact AllReady.nil
              exact AllReady.nil
            refine AllReady.cons rfl (fun K hK => ?_) ?_
            · rw [if_pos (by rfl)]
              refine wp_load_r (.tmp 3) rfl (w.heap.size + 1) rfl t (idR_below YB.out HB.out) ht20 ?_
              go_simp
              refine hK _ _ ?_
              clear hK K
              (try simp only [Act.put, List.setIfInBounds_toArray, List.set_cons_zero, List.set_cons_succ])
              refine wpAny_ready (rs := [2]) (by kernel_rfl) (by simp) ?_
              refine AllReady.cons rfl (fun K hK => ?_) ?_
              · go_simp
                go_at_call 52
                refine (HCA.out _).mono ?_
                rintro e w2 ⟨rfl, hb2⟩
                replace HB := Lib.hid (HB.out.trans (hb2.mono HB.out.size))
                clear hb2
                go_wp2_with fail
                (try simp only [Act.put, List.setIfInBounds_toArray, List.set_cons_zero, List.set_cons_succ])
                refine wpAny_ready (rs := [5]) (by kernel_rfl) (by simp) ?_
                refine AllReady.cons rfl (fun K hK => ?_) ?_
                · go_simp
                  go_at_call 52
                  refine (HCB.out _).mono ?_
                  rintro e w2 ⟨rfl, hb2⟩
                  replace HB := Lib.hid (HB.out.trans (hb2.mono HB.out.size))
                  clear hb2
                  go_wp2_with fail
                  (try simp only [Act.put, List.setIfInBounds_toArray, List.set_cons_zero, List.set_cons_succ])
                  refine wpAny_take (i := 6) (oi := _) (v := ?_) (by simp only [List.getElem?_toArray, List.getElem?_cons_succ, List.getElem?_cons_zero]; rfl) (by kernel_rfl) (by kernel_rfl) (by kernel_rfl) (by intro _ _ _ h; exact h) (Or.inl ⟨by rfl, ?_⟩) ?_
                  rotate_left
                  focus (intro w; go_simp; try with_reducible rfl)
                  (try simp only [Act.put, List.setIfInBounds_toArray, List.set_cons_zero, List.set_cons_succ])
                  refine wpAny_done (by kernel_rfl) ?_ _
                  exact h2.out _ HB.out
                exact AllReady.nil
              exact AllReady.nil
            exact AllReady.nil
          refine AllReady.cons rfl (fun K hK => ?_) ?_
          · rw [if_pos (by rfl)]
            refine wp_load_r (.tmp 3) rfl (w.heap.size + 1) rfl t (idR_below YB.out HB.out) ht20 ?_
            go_simp
            refine hK _ _ ?_
            clear hK K
            (try simp only [Act.put, List.setIfInBounds_toArray, List.set_cons_zero, List.set_cons_succ])
            refine wpAny_ready (rs := [0]) (by kernel_rfl) (by simp) ?_
            refine AllReady.cons rfl (fun K hK => ?_) ?_
            · rw [if_pos (by rfl)]
              refine wp_load_r (.tmp 2) rfl (w.heap.size) rfl o (idR_below YA.out HB.out) ho20 ?_
              go_simp
              refine hK _ _ ?_
              clear hK K
              (try simp only [Act.put, List.setIfInBounds_toArray, List.set_cons_zero, List.set_cons_succ])
              refine wpAny_ready (rs := [2]) (by kernel_rfl) (by simp) ?_
              refine AllReady.cons rfl (fun K hK => ?_) ?_
              · go_simp
                go_at_call 52
                refine (HCA.out _).mono ?_
                rintro e w2 ⟨rfl, hb2⟩
                replace HB := Lib.hid (HB.out.trans (hb2.mono HB.out.size))
                clear hb2
                go_wp2_with fail
                (try simp only [Act.put, List.setIfInBounds_toArray, List.set_cons_zero, List.set_cons_succ])
                refine wpAny_ready (rs := [5]) (by kernel_rfl) (by simp) ?_
                refine AllReady.cons rfl (fun K hK => ?_) ?_
                · go_simp
                  go_at_call 52
                  refine (HCB.out _).mono ?_
                  rintro e w2 ⟨rfl, hb2⟩
                  replace HB := Lib.hid (HB.out.trans (hb2.mono HB.out.size))
                  clear hb2
                  go_wp2_with fail
                  (try simp only [Act.put, List.setIfInBounds_toArray, List.set_cons_zero, List.set_cons_succ])
                  refine wpAny_take (i := 6) (oi := _) (v := ?_) (by simp only [List.getElem?_toArray, List.getElem?_cons_succ, List.getElem?_cons_zero]; rfl) (by kernel_rfl) (by kernel_rfl) (by kernel_rfl) (by intro _ _ _ h; exact h) (Or.inl ⟨by rfl, ?_⟩) ?_
                  rotate_left
                  focus (intro w; go_simp; try with_reducible rfl)
                  (try simp only [Act.put, List.setIfInBounds_toArray, List.set_cons_zero, List.set_cons_succ])
                  refine wpAny_done (by kernel_rfl) ?_ _
                  exact h2.out _ HB.out
                exact AllReady.nil
              exact AllReady.nil
            exact AllReady.nil
          exact AllReady.nil
        intro w3 HB
        simp only [Act.put, List.setIfInBounds_toArray, List.set_cons_zero, List.set_cons_succ]
        have HB3 := Lib.hid HB
        clear HB
        go_wp2_with fail
        go_roundw
        case rel => exact ⟨k + 1, by omega, by go_num, by rw [HY.out]; exact own_below HO.out HB3.out, HBR.out.trans (HB3.out.mono HBR.out.size)⟩
        case measure => simp [intOf]; omega
      · rw [if_neg hv] at HF
        have HY := Lib.hid (near_yes far k HF)
        have hbe : ((bit o k : Int) != (bit t k : Int)) = true := by rw [bne_iff_ne]; omega
        clear hv HF
        generalize bit t k = vb at *
        generalize bit o k = va at *
        generalize nearK far k = xs at *
        go_wp2_with fail
        refine wp_meet (fun a => (((((((a.put (some 11) (idv o)).put (some 12) (.int .i64 k)).put (some 13) (.int .i64 (va : Nat))).put (some 14) (idv t)).put (some 15) (.int .i64 k)).put (some 16) (.int .i64 (vb : Nat))).put (some 17) (.bool true))) (fun w' => Below wr.heap.size wr w') ?_ ?_
        rotate_left
        · intro K' h2
          simp only [Act.put, List.setIfInBounds_toArray, List.set_cons_zero, List.set_cons_succ] at h2
          replace h2 := Lib.hid h2
          have HB := Lib.hid (Below.refl wr.heap.size wr).drew
          refine wp_region_any (by kernel_rfl) ?_
          (try (change wpAny _ _ _ _ _ _ _ (World.drew _)))
          generalize World.drew wr = wd at *
          refine wpAny_take (i := 1) (oi := _) (v := ?_) (by simp only [List.getElem?_toArray, List.getElem?_cons_succ, List.getElem?_cons_zero]; rfl) (by kernel_rfl) (by kernel_rfl) (by kernel_rfl) (by intro _ _ _ h; exact h) (Or.inl ⟨by rfl, ?_⟩) ?_
          rotate_left
          focus (intro w; go_simp; try with_reducible rfl)
          (try simp only [Act.put, List.setIfInBounds_toArray, List.set_cons_zero, List.set_cons_succ])
          refine wpAny_take (i := 4) (oi := _) (v := ?_) (by simp only [List.getElem?_toArray, List.getElem?_cons_succ, List.getElem?_cons_zero]; rfl) (by kernel_rfl) (by kernel_rfl) (by kernel_rfl) (by intro _ _ _ h; exact h) (Or.inl ⟨by rfl, ?_⟩) ?_
          rotate_left
          focus (intro w; go_simp; try with_reducible rfl)
          (try simp only [Act.put, List.setIfInBounds_toArray, List.set_cons_zero, List.set_cons_succ])
          refine wpAny_ready (rs := [0, 3]) (by kernel_rfl) (by simp) ?_
          refine AllReady.cons rfl (fun K hK => ?_) ?_
          · rw [if_pos (by rfl)]
            refine wp_load_r (.tmp 2) rfl (w.heap.size) rfl o (idR_below YA.out HB.out) ho20 ?_
            go_simp
            refine hK _ _ ?_
            clear hK K
            (try simp only [Act.put, List.setIfInBounds_toArray, List.set_cons_zero, List.set_cons_succ])
            refine wpAny_ready (rs := [2, 3]) (by kernel_rfl) (by simp) ?_
            refine AllReady.cons rfl (fun K hK => ?_) ?_
            · go_simp
              go_at_call 52
              refine (HCA.out _).mono ?_
              rintro e w2 ⟨rfl, hb2⟩
              replace HB := Lib.hid (HB.out.trans (hb2.mono HB.out.size))
              clear hb2
              go_wp2_with fail
              (try simp only [Act.put, List.setIfInBounds_toArray, List.set_cons_zero, List.set_cons_succ])
              refine wpAny_ready (rs := [3]) (by kernel_rfl) (by simp) ?_
              refine AllReady.cons rfl (fun K hK => ?_) ?_
              · rw [if_pos (by rfl)]
                refine wp_load_r (.tmp 3) rfl (w.heap.size + 1) rfl t (idR_below YB.out HB.out) ht20 ?_
                go_simp
                refine hK _ _ ?_
                clear hK K
                (try simp only [Act.put, List.setIfInBounds_toArray, List.set_cons_zero, List.set_cons_succ])
                refine wpAny_ready (rs := [5]) (by kernel_rfl) (by simp) ?_
                refine AllReady.cons rfl (fun K hK => ?_) ?_
                · go_simp
                  go_at_call 52
                  refine (HCB.out _).mono ?_
                  rintro e w2 ⟨rfl, hb2⟩
                  replace HB := Lib.hid (HB.out.trans (hb2.mono HB.out.size))
                  clear hb2
                  go_wp2_with fail
                  (try simp only [Act.put, List.setIfInBounds_toArray, List.set_cons_zero, List.set_cons_succ])
                  refine wpAny_take (i := 6) (oi := _) (v := ?_) (by simp only [List.getElem?_toArray, List.getElem?_cons_succ, List.getElem?_cons_zero]; rfl) (by kernel_rfl) (by kernel_rfl) (by kernel_rfl) (by intro _ _ _ h; exact h) (Or.inl ⟨by rfl, ?_⟩) ?_
                  rotate_left
                  focus (intro w; go_simp; try with_reducible rfl)
                  (try simp only [Act.put, List.setIfInBounds_toArray, List.set_cons_zero, List.set_cons_succ])
                  refine wpAny_done (by kernel_rfl) ?_ _
                  exact h2.out _ HB.out
                exact AllReady.nil
              exact AllReady.nil
            refine AllReady.cons rfl (fun K hK => ?_) ?_
            · rw [if_pos (by rfl)]
              refine wp_load_r (.tmp 3) rfl (w.heap.size + 1) rfl t (idR_below YB.out HB.out) ht20 ?_
              go_simp
              refine hK _ _ ?_
              clear hK K
              (try simp only [Act.put, List.setIfInBounds_toArray, List.set_cons_zero, List.set_cons_succ])
              refine wpAny_ready (rs := [2]) (by kernel_rfl) (by simp) ?_
              refine AllReady.cons rfl (fun K hK => ?_) ?_
              · go_simp
                go_at_call 52
                refine (HCA.out _).mono ?_
                rintro e w2 ⟨rfl, hb2⟩
                replace HB := Lib.hid (HB.out.trans (hb2.mono HB.out.size))
                clear hb2
                go_wp2_with fail
                (try simp only [Act.put, List.setIfInBounds_toArray, List.set_cons_zero, List.set_cons_succ])
                refine wpAny_ready (rs := [5]) (by kernel_rfl) (by simp) ?_
                refine AllReady.cons rfl (fun K hK => ?_) ?_
                · go_simp
                  go_at_call 52
                  refine (HCB.out _).mono ?_
                  rintro e w2 ⟨rfl, hb2⟩
                  replace HB := Lib.hid (HB.out.trans (hb2.mono HB.out.size))
                  clear hb2
                  go_wp2_with fail
                  (try simp only [Act.put, List.setIfInBounds_toArray, List.set_cons_zero, List.set_cons_succ])
                  refine wpAny_take (i := 6) (oi := _) (v := ?_) (by simp only [List.getElem?_toArray, List.getElem?_cons_succ, List.getElem?_cons_zero]; rfl) (by kernel_rfl) (by kernel_rfl) (by kernel_rfl) (by intro _ _ _ h; exact h) (Or.inl ⟨by rfl, ?_⟩) ?_
                  rotate_left
                  focus (intro w; go_simp; try with_reducible rfl)
                  (try simp only [Act.put, List.setIfInBounds_toArray, List.set_cons_zero, List.set_cons_succ])
                  refine wpAny_done (by kernel_rfl) ?_ _
                  exact h2.out _ HB.out
                exact AllReady.nil
              exact AllReady.nil
            exact AllReady.nil
          refine AllReady.cons rfl (fun K hK => ?_) ?_
          · rw [if_pos (by rfl)]
            refine wp_load_r (.tmp 3) rfl (w.heap.size + 1) rfl t (idR_below YB.out HB.out) ht20 ?_
            go_simp
            refine hK _ _ ?_
            clear hK K
            (try simp only [Act.put, List.setIfInBounds_toArray, List.set_cons_zero, List.set_cons_succ])
            refine wpAny_ready (rs := [0]) (by kernel_rfl) (by simp) ?_
            refine AllReady.cons rfl (fun K hK => ?_) ?_
            · rw [if_pos (by rfl)]
              refine wp_load_r (.tmp 2) rfl (w.heap.size) rfl o (idR_below YA.out HB.out) ho20 ?_
              go_simp
              refine hK _ _ ?_
              clear hK K
              (try simp only [Act.put, List.setIfInBounds_toArray, List.set_cons_zero, List.set_cons_succ])
              refine wpAny_ready (rs := [2]) (by kernel_rfl) (by simp) ?_
              refine AllReady.cons rfl (fun K hK => ?_) ?_
              · go_simp
                go_at_call 52
                refine (HCA.out _).mono ?_
                rintro e w2 ⟨rfl, hb2⟩
                replace HB := Lib.hid (HB.out.trans (hb2.mono HB.out.size))
                clear hb2
                go_wp2_with fail
                (try simp only [Act.put, List.setIfInBounds_toArray, List.set_cons_zero, List.set_cons_succ])
                refine wpAny_ready (rs := [5]) (by kernel_rfl) (by simp) ?_
                refine AllReady.cons rfl (fun K hK => ?_) ?_
                · go_simp
                  go_at_call 52
                  refine (HCB.out _).mono ?_
                  rintro e w2 ⟨rfl, hb2⟩
                  replace HB := Lib.hid (HB.out.trans (hb2.mono HB.out.size))
                  clear hb2
                  go_wp2_with fail
                  (try simp only [Act.put, List.setIfInBounds_toArray, List.set_cons_zero, List.set_cons_succ])
                  refine wpAny_take (i := 6) (oi := _) (v := ?_) (by simp only [List.getElem?_toArray, List.getElem?_cons_succ, List.getElem?_cons_zero]; rfl) (by kernel_rfl) (by kernel_rfl) (by kernel_rfl) (by intro _ _ _ h; exact h) (Or.inl ⟨by rfl, ?_⟩) ?_
                  rotate_left
                  focus (intro w; go_simp; try with_reducible rfl)
                  (try simp only [Act.put, List.setIfInBounds_toArray, List.set_cons_zero, List.set_cons_succ])
                  refine wpAny_done (by kernel_rfl) ?_ _
                  exact h2.out _ HB.out
                exact AllReady.nil
              exact AllReady.nil
            exact AllReady.nil
          exact AllReady.nil
        intro w3 HB
        simp only [Act.put, List.setIfInBounds_toArray, List.set_cons_zero, List.set_cons_succ]
        have HB3 := Lib.hid (HBR.out.trans (HB.mono HBR.out.size))
        replace HO := Lib.hid (own_below HO.out HB)
        clear HB
        go_wp2_with (at_builtin; refine print_append_num (w0 := W2) W2.heap.size rfl (.tmp 18) (.tmp 20) 43 3 .i64 8 rfl Try.underlying43 info3 (by decide) u5 xs (k : Int) rfl rfl HO.out HB3.out HB3.out.size (by have := HNL.out; omega) ?_; intro v2 w2 hown2 hbl2 hg2 hat2)
        go_roundw
        case rel => exact ⟨k + 1, by omega, by go_num, by rw [HY.out]; exact hown2, hbl2⟩
        case measure => simp [intOf]; omega
    · obtain rfl : k = 160 := by omega
      go_wp2_with fail
      go_ret
      refine ⟨_, rfl, ?_, XW.out.trans (HBR.out.mono XW.out.size)⟩
      have h := HO.out
      refine ⟨h.1, ?_⟩
      rcases h.2 with hn | ⟨g, cap, cur, e1, hbg, rest⟩
      · exact .inl hn
      · exact .inr ⟨g, cap, cur, e1, Nat.le_trans XW.out.size hbg, rest⟩
theorem fnearer2 (o t : List Nat) (w : World) (ho : Id o) (ht : Id t) :
    Calls Try.prog 39 #[idv o, idv t] w fun e w' => ∃ a cap, e = .returned (.slice a (nearK (xorL o t) 160).length cap) ∧ RowI w' a (nearK (xorL o t) 160) ∧ Below w.heap.size w w' :=
  (fnearer o t w ho ht).mono fun e w' ⟨v, he, hv, hb⟩ => by
    obtain ⟨a, cap, rfl, hr⟩ := rowI_own hv
    exact ⟨a, cap, he, hr, hb⟩
end Go.Proofs.Ytcgfednoolkhkaa
