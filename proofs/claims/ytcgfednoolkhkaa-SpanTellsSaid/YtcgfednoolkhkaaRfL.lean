/-
  The document's ids of a bucket.
-/
import Derived.Test.YtcgfednoolkhkaaRfI
namespace Go.Proofs.Ytcgfednoolkhkaa
open Go.RowKit
set_option linter.unusedVariables false
set_option linter.unusedSimpArgs false
set_option maxRecDepth 20000
def lrK (o f : List Nat) : Nat → List Nat
  | 0 => f
  | k + 1 => withL (lrK o f k) k (bit o k : Nat)
theorem id_lr {o f : List Nat} (hf : Id f) : ∀ k, Id (lrK o f k)
  | 0 => hf
  | k + 1 => id_with (id_lr hf k) _ _
theorem bit_lr {o f : List Nat} (hf : Id f) (j : Nat) (hj : j < 160) : ∀ k, k ≤ 160 → bit (lrK o f k) j = if j < k then bit o j else bit f j
  | 0, _ => by simp [lrK]
  | k + 1, hk => by
    rw [lrK, bit_with (id_lr hf k) k j _ (by omega) hj, bit_lr hf j hj k (by omega)]
    by_cases e : j = k
    · subst e
      have := bit_le o j
      rw [if_pos rfl, if_pos (show j < j + 1 by omega)]
      by_cases h : bit o j = 0
      · simp [h]
      · have h1 : bit o j = 1 := by omega
        simp [h1]
    · rw [if_neg e]
      by_cases h : j < k
      · rw [if_pos h, if_pos (show j < k + 1 by omega)]
      · rw [if_neg h, if_neg (show ¬ j < k + 1 by omega)]
/-- The document lays what the program lays. -/
theorem lr_laid {o f : List Nat} (ho : Id o) (hf : Id f) (i : Nat) (hi : i < 160) : withL (lrK o f i) i (1 - (bit o i : Nat)) = laidL o (i : Int) (fun k => (bit f k : Nat)) := by
  refine id_ext _ _ (id_with (id_lr hf i) _ _) (id_laid ho _ _) fun j hj => ?_
  rw [bit_with (id_lr hf i) i j _ hi hj, bit_lr hf j hj i (by omega), bit_laid ho i hi _ j hj, b01_bit]
  have := bit_le o i
  by_cases e : j = i
  · rw [if_pos e, if_pos e]
    by_cases h : bit o i = 0
    · simp [h]
    · have h1 : bit o i = 1 := by omega
      simp [h1]
  · rw [if_neg e, if_neg e]
    by_cases h : j < i
    · rw [if_pos h, if_neg (show ¬ i < j by omega)]
    · rw [if_neg h, if_pos (show i < j by omega)]
structure LayR (w : World) (o c : List Nat) (w' : World) : Prop where
  own : IdR w' w.heap.size o
  cur : IdR w' (w.heap.size + 1) c
  res : IdR w' (w.heap.size + 1 + 1) zero20
  low : Below w.heap.size w w'
theorem LayR.below {w w1 w2 : World} {o c : List Nat} (h : LayR w o c w1) (hb : Below w1.heap.size w1 w2) : LayR w o c w2 :=
  ⟨idR_below h.own hb, idR_below h.cur hb, idR_below h.res hb, h.low.trans (hb.mono h.low.size)⟩
theorem LayR.put {w w1 w2 : World} {o c c' : List Nat} (h : LayR w o c w1) (h2 : IdR w2 (w.heap.size + 1) c') (hg : w1.grownBy w2 (some (w.heap.size + 1))) : LayR w o c' w2 :=
  ⟨idR_grown h.own hg (by omega), h2, idR_grown h.res hg (by omega), h.low.grown hg h.low.size (fun k e => by cases e; omega)⟩
theorem LayR.drew {w w1 : World} {o c : List Nat} (h : LayR w o c w1) : LayR w o c w1.drew := ⟨h.own, h.cur, h.res, h.low.drew⟩
/-- What is told back. -/
structure LayE (w : World) (l : List Nat) (w' : World) : Prop where
  res : IdR w' (w.heap.size + 1 + 1) l
  low : Below w.heap.size w w'
theorem LayR.fin {w w1 w2 : World} {o c l : List Nat} (h : LayR w o c w1) (h2 : IdR w2 (w.heap.size + 1 + 1) l) (hg : w1.grownBy w2 (some (w.heap.size + 1 + 1))) : LayE w l w2 :=
  ⟨h2, h.low.grown hg h.low.size (fun k e => by cases e; omega)⟩
theorem layR_new (w : World) (o f : List Nat) : LayR w o f (((w.alloc (.cells (idc o).toArray 56)).alloc (.cells (idc f).toArray 56)).alloc Z56) := by
  obtain ⟨h1, h2, h3⟩ := r2_new w o f
  have hb := (Below.refl ((w.alloc (.cells (idc o).toArray 56)).alloc (.cells (idc f).toArray 56)).heap.size ((w.alloc (.cells (idc o).toArray 56)).alloc (.cells (idc f).toArray 56))).alloc (Nat.le_refl _) Z56
  exact ⟨idR_below h1 hb, idR_below h2 hb, by simpa using idR_zero ((w.alloc (.cells (idc o).toArray 56)).alloc (.cells (idc f).toArray 56)), h3.trans (hb.mono h3.size)⟩
set_option maxHeartbeats 4000000 in
theorem flaid_yes (o f : List Nat) (i : Nat) (w : World) (ho : Id o) (hf : Id f) (hi : i < 160) :
    Calls Try.prog 51 #[idv o, .int .i64 i, idv f] w fun e w' => e = .returned (.tuple #[idv (laidL o i fun k => (bit f k : Nat)), .bool true]) ∧ Below w.heap.size w w' := by
  have h3 := layR_new w o f
  have HL := Lib.hid h3
  have HO := Lib.hid ho
  have HF := Lib.hid hf
  have HI := Lib.hid hi
  have ho20 := ho.1
  have HLR := Lib.hid (lr_laid ho hf i hi)
  have h1 : (0 : Int) ≤ (i : Int) := by omega
  have h2' : (i : Int) < 160 := by omega
  have hd1 : decide ((i : Int) < 0) = false := decide_eq_false (by omega)
  have hd2 : decide ((160 : Int) ≤ (i : Int)) = false := decide_eq_false (by omega)
  clear h3 ho hf hi
  unfold idv
  generalize hCa : (idc o).toArray = Ca at *
  generalize hCb : (idc f).toArray = Cb at *
  go_enter Try.func51, Try.ntmps51
  go_upto_region 1 with fail
  obtain ⟨W3, hW3⟩ : ∃ W3, W3 = ((w.alloc (.cells Ca 56)).alloc (.cells Cb 56)).alloc Z56 := ⟨_, rfl⟩
  rw [← hW3] at HL ⊢
  clear hW3
  subst hCa hCb
  go_wp2_with fail
  go_loopw [8] (fun x wr => ∃ k : Nat, k ≤ i ∧ x = .int .i64 k ∧ LayR w o (lrK o f k) wr) (fun x _ => i - (intOf x).toNat)
  case atStart => exact ⟨0, by omega, rfl, HL.out⟩
  case round =>
    clear HL
    obtain ⟨k, hk, rfl, hl⟩ := hrel
    have HL := Lib.hid hl
    clear hl
    by_cases hlt : k < i
    · have hlt2 : (k : Int) < (i : Int) := by omega
      have hk160 : k < 160 := by have := HI.out; omega
      have HK := Lib.hid hk160
      have hk0 : (0 : Int) ≤ (k : Int) := by omega
      have hw1 : IntKind.i64.wrap ((k : Int) + 1) = (k : Int) + 1 := by rw [IntKind.wrap_i64]; omega
      have HCL := Lib.hid (id_lr (o := o) HF.out k)
      clear hk160
      go_wp2_with fail
      refine wp_meet (fun a => ((((((a.put (some 21) (idv (lrK o f k))).put (some 22) (.int .i64 k)).put (some 23) (idv o)).put (some 24) (.int .i64 k)).put (some 25) (.int .i64 (bit o k : Nat))).put (some 26) (idv (withL (lrK o f k) k (bit o k : Nat))))) (fun w' => Hid (LayR w o (lrK o f (k + 1)) w')) ?_ ?_
      rotate_left
      · intro K' h2
        simp only [Act.put, List.setIfInBounds_toArray, List.set_cons_zero, List.set_cons_succ] at h2
        replace h2 := Lib.hid h2
        replace HL := Lib.hid HL.out.drew
        refine wp_region_any (by kernel_rfl) ?_
        (try (change wpAny _ _ _ _ _ _ _ (World.drew _)))
        refine wpAny_take (i := 1) (oi := _) (v := ?_) (by simp only [List.getElem?_toArray, List.getElem?_cons_succ, List.getElem?_cons_zero]; rfl) (by kernel_rfl) (by kernel_rfl) (by kernel_rfl) (by intro _ _ _ h; exact h) (Or.inl ⟨by rfl, ?_⟩) ?_
        rotate_left
        focus (intro w; go_simp; try with_reducible rfl)
        (try simp only [Act.put, List.setIfInBounds_toArray, List.set_cons_zero, List.set_cons_succ])
        refine wpAny_take (i := 3) (oi := _) (v := ?_) (by simp only [List.getElem?_toArray, List.getElem?_cons_succ, List.getElem?_cons_zero]; rfl) (by kernel_rfl) (by kernel_rfl) (by kernel_rfl) (by intro _ _ _ h; exact h) (Or.inl ⟨by rfl, ?_⟩) ?_
        rotate_left
        focus (intro w; go_simp; try with_reducible rfl)
        (try simp only [Act.put, List.setIfInBounds_toArray, List.set_cons_zero, List.set_cons_succ])
        refine wpAny_ready (rs := [0, 2]) (by kernel_rfl) (by simp) ?_
        refine AllReady.cons rfl (fun K hK => ?_) ?_
        · rw [if_pos (by rfl)]
          refine wp_load_r (.tmp 5) rfl (w.heap.size + 1) rfl (lrK o f k) (HL.out.cur) HCL.out.1 ?_
          go_simp
          refine hK _ _ ?_
          clear hK K
          (try simp only [Act.put, List.setIfInBounds_toArray, List.set_cons_zero, List.set_cons_succ])
          refine wpAny_ready (rs := [2]) (by kernel_rfl) (by simp) ?_
          refine AllReady.cons rfl (fun K hK => ?_) ?_
          · rw [if_pos (by rfl)]
            refine wp_load_r (.tmp 3) rfl (w.heap.size) rfl o (HL.out.own) ho20 ?_
            go_simp
            refine hK _ _ ?_
            clear hK K
            (try simp only [Act.put, List.setIfInBounds_toArray, List.set_cons_zero, List.set_cons_succ])
            refine wpAny_ready (rs := [4]) (by kernel_rfl) (by simp) ?_
            refine AllReady.cons rfl (fun K hK => ?_) ?_
            · go_simp
              go_at_call 52
              refine (fbit o k _ HO.out HK.out).mono ?_
              rintro e w2 ⟨rfl, hb2⟩
              replace HL := Lib.hid (HL.out.below hb2)
              clear hb2
              go_wp2_with fail
              (try simp only [Act.put, List.setIfInBounds_toArray, List.set_cons_zero, List.set_cons_succ])
              refine wpAny_ready (rs := [5]) (by kernel_rfl) (by simp) ?_
              refine AllReady.cons rfl (fun K hK => ?_) ?_
              · go_simp
                go_at_call 58
                refine (fwith (lrK o f k) k _ _ HCL.out HK.out).mono ?_
                rintro e w2 ⟨rfl, hb2⟩
                replace HL := Lib.hid (HL.out.below hb2)
                clear hb2
                go_wp2_with fail
                (try simp only [Act.put, List.setIfInBounds_toArray, List.set_cons_zero, List.set_cons_succ])
                refine wpAny_ready (rs := [6]) (by kernel_rfl) (by simp) ?_
                refine AllReady.cons rfl (fun K hK => ?_) ?_
                · rw [if_pos (by rfl)]
                  (try simp only [List.getElem_toArray, List.getElem_cons_succ, List.getElem_cons_zero])
                  refine wp_store_r (.tmp 5) (.tmp 26) rfl (w.heap.size + 1) rfl (lrK o f k) (withL (lrK o f k) k (bit o k : Nat)) (by first | rfl | (simp [idv])) HL.out.cur HCL.out.1 (id_with HCL.out k _).1 ?_
                  intro w3 hA3 hg3
                  replace HL := Lib.hid (HL.out.put hA3 hg3)
                  clear hA3 hg3
                  go_simp
                  refine hK _ _ ?_
                  clear hK K
                  (try simp only [Act.put, List.setIfInBounds_toArray, List.set_cons_zero, List.set_cons_succ])
                  refine wpAny_done (by kernel_rfl) ?_ _
                  exact h2.out _ HL
                exact AllReady.nil
              exact AllReady.nil
            exact AllReady.nil
          exact AllReady.nil
        refine AllReady.cons rfl (fun K hK => ?_) ?_
        · rw [if_pos (by rfl)]
          refine wp_load_r (.tmp 3) rfl (w.heap.size) rfl o (HL.out.own) ho20 ?_
          go_simp
          refine hK _ _ ?_
          clear hK K
          (try simp only [Act.put, List.setIfInBounds_toArray, List.set_cons_zero, List.set_cons_succ])
          refine wpAny_ready (rs := [0, 4]) (by kernel_rfl) (by simp) ?_
          refine AllReady.cons rfl (fun K hK => ?_) ?_
          · rw [if_pos (by rfl)]
            refine wp_load_r (.tmp 5) rfl (w.heap.size + 1) rfl (lrK o f k) (HL.out.cur) HCL.out.1 ?_
            go_simp
            refine hK _ _ ?_
            clear hK K
            (try simp only [Act.put, List.setIfInBounds_toArray, List.set_cons_zero, List.set_cons_succ])
            refine wpAny_ready (rs := [4]) (by kernel_rfl) (by simp) ?_
            refine AllReady.cons rfl (fun K hK => ?_) ?_
            · go_simp
              go_at_call 52
              refine (fbit o k _ HO.out HK.out).mono ?_
              rintro e w2 ⟨rfl, hb2⟩
              replace HL := Lib.hid (HL.out.below hb2)
              clear hb2
              go_wp2_with fail
              (try simp only [Act.put, List.setIfInBounds_toArray, List.set_cons_zero, List.set_cons_succ])
              refine wpAny_ready (rs := [5]) (by kernel_rfl) (by simp) ?_
              refine AllReady.cons rfl (fun K hK => ?_) ?_
              · go_simp
                go_at_call 58
                refine (fwith (lrK o f k) k _ _ HCL.out HK.out).mono ?_
                rintro e w2 ⟨rfl, hb2⟩
                replace HL := Lib.hid (HL.out.below hb2)
                clear hb2
                go_wp2_with fail
                (try simp only [Act.put, List.setIfInBounds_toArray, List.set_cons_zero, List.set_cons_succ])
                refine wpAny_ready (rs := [6]) (by kernel_rfl) (by simp) ?_
                refine AllReady.cons rfl (fun K hK => ?_) ?_
                · rw [if_pos (by rfl)]
                  (try simp only [List.getElem_toArray, List.getElem_cons_succ, List.getElem_cons_zero])
                  refine wp_store_r (.tmp 5) (.tmp 26) rfl (w.heap.size + 1) rfl (lrK o f k) (withL (lrK o f k) k (bit o k : Nat)) (by first | rfl | (simp [idv])) HL.out.cur HCL.out.1 (id_with HCL.out k _).1 ?_
                  intro w3 hA3 hg3
                  replace HL := Lib.hid (HL.out.put hA3 hg3)
                  clear hA3 hg3
                  go_simp
                  refine hK _ _ ?_
                  clear hK K
                  (try simp only [Act.put, List.setIfInBounds_toArray, List.set_cons_zero, List.set_cons_succ])
                  refine wpAny_done (by kernel_rfl) ?_ _
                  exact h2.out _ HL
                exact AllReady.nil
              exact AllReady.nil
            exact AllReady.nil
          refine AllReady.cons rfl (fun K hK => ?_) ?_
          · go_simp
            go_at_call 52
            refine (fbit o k _ HO.out HK.out).mono ?_
            rintro e w2 ⟨rfl, hb2⟩
            replace HL := Lib.hid (HL.out.below hb2)
            clear hb2
            go_wp2_with fail
            (try simp only [Act.put, List.setIfInBounds_toArray, List.set_cons_zero, List.set_cons_succ])
            refine wpAny_ready (rs := [0]) (by kernel_rfl) (by simp) ?_
            refine AllReady.cons rfl (fun K hK => ?_) ?_
            · rw [if_pos (by rfl)]
              refine wp_load_r (.tmp 5) rfl (w.heap.size + 1) rfl (lrK o f k) (HL.out.cur) HCL.out.1 ?_
              go_simp
              refine hK _ _ ?_
              clear hK K
              (try simp only [Act.put, List.setIfInBounds_toArray, List.set_cons_zero, List.set_cons_succ])
              refine wpAny_ready (rs := [5]) (by kernel_rfl) (by simp) ?_
              refine AllReady.cons rfl (fun K hK => ?_) ?_
              · go_simp
                go_at_call 58
                refine (fwith (lrK o f k) k _ _ HCL.out HK.out).mono ?_
                rintro e w2 ⟨rfl, hb2⟩
                replace HL := Lib.hid (HL.out.below hb2)
                clear hb2
                go_wp2_with fail
                (try simp only [Act.put, List.setIfInBounds_toArray, List.set_cons_zero, List.set_cons_succ])
                refine wpAny_ready (rs := [6]) (by kernel_rfl) (by simp) ?_
                refine AllReady.cons rfl (fun K hK => ?_) ?_
                · rw [if_pos (by rfl)]
                  (try simp only [List.getElem_toArray, List.getElem_cons_succ, List.getElem_cons_zero])
                  refine wp_store_r (.tmp 5) (.tmp 26) rfl (w.heap.size + 1) rfl (lrK o f k) (withL (lrK o f k) k (bit o k : Nat)) (by first | rfl | (simp [idv])) HL.out.cur HCL.out.1 (id_with HCL.out k _).1 ?_
                  intro w3 hA3 hg3
                  replace HL := Lib.hid (HL.out.put hA3 hg3)
                  clear hA3 hg3
                  go_simp
                  refine hK _ _ ?_
                  clear hK K
                  (try simp only [Act.put, List.setIfInBounds_toArray, List.set_cons_zero, List.set_cons_succ])
                  refine wpAny_done (by kernel_rfl) ?_ _
                  exact h2.out _ HL
                exact AllReady.nil
              exact AllReady.nil
            exact AllReady.nil
          exact AllReady.nil
        exact AllReady.nil
      intro w3 HL
      simp only [Act.put, List.setIfInBounds_toArray, List.set_cons_zero, List.set_cons_succ]
      go_wp2_with fail
      go_roundw
      case rel => exact ⟨k + 1, by omega, by go_num, HL.out⟩
      case measure => simp [intOf]; omega
    · obtain rfl : k = i := by omega
      have HK := HI
      have HCL := Lib.hid (id_lr (o := o) HF.out k)
      have hwr : IntKind.i64.wrap (1 - (bit o k : Int)) = 1 - (bit o k : Int) := by have := bit_le o k; rw [IntKind.wrap_i64]; omega
      go_wp2_with fail
      refine wp_meet (fun a => ((((((((a.put (some 27) (idv (lrK o f k))).put (some 28) (.int .i64 k)).put (some 29) (idv o)).put (some 30) (.int .i64 k)).put (some 31) (.int .i64 (bit o k : Nat))).put (some 32) (.int .i64 (1 - (bit o k : Nat)))).put (some 33) (idv (withL (lrK o f k) k (1 - (bit o k : Nat))))).put (some 7) (.bool true))) (fun w' => Hid (LayE w (withL (lrK o f k) k (1 - (bit o k : Nat))) w')) ?_ ?_
      rotate_left
      · intro K' h2
        simp only [Act.put, List.setIfInBounds_toArray, List.set_cons_zero, List.set_cons_succ] at h2
        replace h2 := Lib.hid h2
        replace HL := Lib.hid HL.out.drew
        refine wp_region_any (by kernel_rfl) ?_
        (try (change wpAny _ _ _ _ _ _ _ (World.drew _)))
        refine wpAny_take (i := 1) (oi := _) (v := ?_) (by simp only [List.getElem?_toArray, List.getElem?_cons_succ, List.getElem?_cons_zero]; rfl) (by kernel_rfl) (by kernel_rfl) (by kernel_rfl) (by intro _ _ _ h; exact h) (Or.inl ⟨by rfl, ?_⟩) ?_
        rotate_left
        focus (intro w; go_simp; try with_reducible rfl)
        (try simp only [Act.put, List.setIfInBounds_toArray, List.set_cons_zero, List.set_cons_succ])
        refine wpAny_take (i := 3) (oi := _) (v := ?_) (by simp only [List.getElem?_toArray, List.getElem?_cons_succ, List.getElem?_cons_zero]; rfl) (by kernel_rfl) (by kernel_rfl) (by kernel_rfl) (by intro _ _ _ h; exact h) (Or.inl ⟨by rfl, ?_⟩) ?_
        rotate_left
        focus (intro w; go_simp; try with_reducible rfl)
        (try simp only [Act.put, List.setIfInBounds_toArray, List.set_cons_zero, List.set_cons_succ])
        refine wpAny_ready (rs := [0, 2]) (by kernel_rfl) (by simp) ?_
        refine AllReady.cons rfl (fun K hK => ?_) ?_
        · rw [if_pos (by rfl)]
          refine wp_load_r (.tmp 5) rfl (w.heap.size + 1) rfl (lrK o f k) (HL.out.cur) HCL.out.1 ?_
          go_simp
          refine hK _ _ ?_
          clear hK K
          (try simp only [Act.put, List.setIfInBounds_toArray, List.set_cons_zero, List.set_cons_succ])
          refine wpAny_ready (rs := [2]) (by kernel_rfl) (by simp) ?_
          refine AllReady.cons rfl (fun K hK => ?_) ?_
          · rw [if_pos (by rfl)]
            refine wp_load_r (.tmp 3) rfl (w.heap.size) rfl o (HL.out.own) ho20 ?_
            go_simp
            refine hK _ _ ?_
            clear hK K
            (try simp only [Act.put, List.setIfInBounds_toArray, List.set_cons_zero, List.set_cons_succ])
            refine wpAny_ready (rs := [4]) (by kernel_rfl) (by simp) ?_
            refine AllReady.cons rfl (fun K hK => ?_) ?_
            · go_simp
              go_at_call 52
              refine (fbit o k _ HO.out HK.out).mono ?_
              rintro e w2 ⟨rfl, hb2⟩
              replace HL := Lib.hid (HL.out.below hb2)
              clear hb2
              go_wp2_with fail
              (try simp only [Act.put, List.setIfInBounds_toArray, List.set_cons_zero, List.set_cons_succ])
              refine wpAny_take (i := 5) (oi := _) (v := ?_) (by simp only [List.getElem?_toArray, List.getElem?_cons_succ, List.getElem?_cons_zero]; rfl) (by kernel_rfl) (by kernel_rfl) (by kernel_rfl) (by intro _ _ _ h; exact h) (Or.inl ⟨by rfl, ?_⟩) ?_
              rotate_left
              focus (intro w; go_simp; try with_reducible rfl)
              (try simp only [Act.put, List.setIfInBounds_toArray, List.set_cons_zero, List.set_cons_succ])
              refine wpAny_ready (rs := [6]) (by kernel_rfl) (by simp) ?_
              refine AllReady.cons rfl (fun K hK => ?_) ?_
              · go_simp
                go_at_call 58
                refine (fwith (lrK o f k) k _ _ HCL.out HK.out).mono ?_
                rintro e w2 ⟨rfl, hb2⟩
                replace HL := Lib.hid (HL.out.below hb2)
                clear hb2
                go_wp2_with fail
                (try simp only [Act.put, List.setIfInBounds_toArray, List.set_cons_zero, List.set_cons_succ])
                refine wpAny_ready (rs := [7]) (by kernel_rfl) (by simp) ?_
                refine AllReady.cons rfl (fun K hK => ?_) ?_
                · rw [if_pos (by rfl)]
                  (try simp only [List.getElem_toArray, List.getElem_cons_succ, List.getElem_cons_zero])
                  refine wp_store_r (.tmp 6) (.tmp 33) rfl (w.heap.size + 1 + 1) rfl zero20 (withL (lrK o f k) k (1 - (bit o k : Nat))) (by first | rfl | (simp [idv])) HL.out.res rfl (id_with HCL.out k _).1 ?_
                  intro w3 hA3 hg3
                  replace HL := Lib.hid (HL.out.fin hA3 hg3)
                  clear hA3 hg3
                  go_simp
                  refine hK _ _ ?_
                  clear hK K
                  (try simp only [Act.put, List.setIfInBounds_toArray, List.set_cons_zero, List.set_cons_succ])
                  refine wpAny_take (i := 8) (oi := _) (v := ?_) (by simp only [List.getElem?_toArray, List.getElem?_cons_succ, List.getElem?_cons_zero]; rfl) (by kernel_rfl) (by kernel_rfl) (by kernel_rfl) (by intro _ _ _ h; exact h) (Or.inl ⟨by rfl, ?_⟩) ?_
                  rotate_left
                  focus (intro w; go_simp; try with_reducible rfl)
                  (try simp only [Act.put, List.setIfInBounds_toArray, List.set_cons_zero, List.set_cons_succ])
                  refine wpAny_done (by kernel_rfl) ?_ _
                  exact h2.out _ HL
                exact AllReady.nil
              exact AllReady.nil
            exact AllReady.nil
          exact AllReady.nil
        refine AllReady.cons rfl (fun K hK => ?_) ?_
        · rw [if_pos (by rfl)]
          refine wp_load_r (.tmp 3) rfl (w.heap.size) rfl o (HL.out.own) ho20 ?_
          go_simp
          refine hK _ _ ?_
          clear hK K
          (try simp only [Act.put, List.setIfInBounds_toArray, List.set_cons_zero, List.set_cons_succ])
          refine wpAny_ready (rs := [0, 4]) (by kernel_rfl) (by simp) ?_
          refine AllReady.cons rfl (fun K hK => ?_) ?_
          · rw [if_pos (by rfl)]
            refine wp_load_r (.tmp 5) rfl (w.heap.size + 1) rfl (lrK o f k) (HL.out.cur) HCL.out.1 ?_
            go_simp
            refine hK _ _ ?_
            clear hK K
            (try simp only [Act.put, List.setIfInBounds_toArray, List.set_cons_zero, List.set_cons_succ])
            refine wpAny_ready (rs := [4]) (by kernel_rfl) (by simp) ?_
            refine AllReady.cons rfl (fun K hK => ?_) ?_
            · go_simp
              go_at_call 52
              refine (fbit o k _ HO.out HK.out).mono ?_
              rintro e w2 ⟨rfl, hb2⟩
              replace HL := Lib.hid (HL.out.below hb2)
              clear hb2
              go_wp2_with fail
              (try simp only [Act.put, List.setIfInBounds_toArray, List.set_cons_zero, List.set_cons_succ])
              refine wpAny_take (i := 5) (oi := _) (v := ?_) (by simp only [List.getElem?_toArray, List.getElem?_cons_succ, List.getElem?_cons_zero]; rfl) (by kernel_rfl) (by kernel_rfl) (by kernel_rfl) (by intro _ _ _ h; exact h) (Or.inl ⟨by rfl, ?_⟩) ?_
              rotate_left
              focus (intro w; go_simp; try with_reducible rfl)
              (try simp only [Act.put, List.setIfInBounds_toArray, List.set_cons_zero, List.set_cons_succ])
              refine wpAny_ready (rs := [6]) (by kernel_rfl) (by simp) ?_
              refine AllReady.cons rfl (fun K hK => ?_) ?_
              · go_simp
                go_at_call 58
                refine (fwith (lrK o f k) k _ _ HCL.out HK.out).mono ?_
                rintro e w2 ⟨rfl, hb2⟩
                replace HL := Lib.hid (HL.out.below hb2)
                clear hb2
                go_wp2_with fail
                (try simp only [Act.put, List.setIfInBounds_toArray, List.set_cons_zero, List.set_cons_succ])
                refine wpAny_ready (rs := [7]) (by kernel_rfl) (by simp) ?_
                refine AllReady.cons rfl (fun K hK => ?_) ?_
                · rw [if_pos (by rfl)]
                  (try simp only [List.getElem_toArray, List.getElem_cons_succ, List.getElem_cons_zero])
                  refine wp_store_r (.tmp 6) (.tmp 33) rfl (w.heap.size + 1 + 1) rfl zero20 (withL (lrK o f k) k (1 - (bit o k : Nat))) (by first | rfl | (simp [idv])) HL.out.res rfl (id_with HCL.out k _).1 ?_
                  intro w3 hA3 hg3
                  replace HL := Lib.hid (HL.out.fin hA3 hg3)
                  clear hA3 hg3
                  go_simp
                  refine hK _ _ ?_
                  clear hK K
                  (try simp only [Act.put, List.setIfInBounds_toArray, List.set_cons_zero, List.set_cons_succ])
                  refine wpAny_take (i := 8) (oi := _) (v := ?_) (by simp only [List.getElem?_toArray, List.getElem?_cons_succ, List.getElem?_cons_zero]; rfl) (by kernel_rfl) (by kernel_rfl) (by kernel_rfl) (by intro _ _ _ h; exact h) (Or.inl ⟨by rfl, ?_⟩) ?_
                  rotate_left
                  focus (intro w; go_simp; try with_reducible rfl)
                  (try simp only [Act.put, List.setIfInBounds_toArray, List.set_cons_zero, List.set_cons_succ])
                  refine wpAny_done (by kernel_rfl) ?_ _
                  exact h2.out _ HL
                exact AllReady.nil
              exact AllReady.nil
            exact AllReady.nil
          refine AllReady.cons rfl (fun K hK => ?_) ?_
          · go_simp
            go_at_call 52
            refine (fbit o k _ HO.out HK.out).mono ?_
            rintro e w2 ⟨rfl, hb2⟩
            replace HL := Lib.hid (HL.out.below hb2)
            clear hb2
            go_wp2_with fail
            (try simp only [Act.put, List.setIfInBounds_toArray, List.set_cons_zero, List.set_cons_succ])
            refine wpAny_take (i := 5) (oi := _) (v := ?_) (by simp only [List.getElem?_toArray, List.getElem?_cons_succ, List.getElem?_cons_zero]; rfl) (by kernel_rfl) (by kernel_rfl) (by kernel_rfl) (by intro _ _ _ h; exact h) (Or.inl ⟨by rfl, ?_⟩) ?_
            rotate_left
            focus (intro w; go_simp; try with_reducible rfl)
            (try simp only [Act.put, List.setIfInBounds_toArray, List.set_cons_zero, List.set_cons_succ])
            refine wpAny_ready (rs := [0]) (by kernel_rfl) (by simp) ?_
            refine AllReady.cons rfl (fun K hK => ?_) ?_
            · rw [if_pos (by rfl)]
              refine wp_load_r (.tmp 5) rfl (w.heap.size + 1) rfl (lrK o f k) (HL.out.cur) HCL.out.1 ?_
              go_simp
              refine hK _ _ ?_
              clear hK K
              (try simp only [Act.put, List.setIfInBounds_toArray, List.set_cons_zero, List.set_cons_succ])
              refine wpAny_ready (rs := [6]) (by kernel_rfl) (by simp) ?_
              refine AllReady.cons rfl (fun K hK => ?_) ?_
              · go_simp
                go_at_call 58
                refine (fwith (lrK o f k) k _ _ HCL.out HK.out).mono ?_
                rintro e w2 ⟨rfl, hb2⟩
                replace HL := Lib.hid (HL.out.below hb2)
                clear hb2
                go_wp2_with fail
                (try simp only [Act.put, List.setIfInBounds_toArray, List.set_cons_zero, List.set_cons_succ])
                refine wpAny_ready (rs := [7]) (by kernel_rfl) (by simp) ?_
                refine AllReady.cons rfl (fun K hK => ?_) ?_
                · rw [if_pos (by rfl)]
                  (try simp only [List.getElem_toArray, List.getElem_cons_succ, List.getElem_cons_zero])
                  refine wp_store_r (.tmp 6) (.tmp 33) rfl (w.heap.size + 1 + 1) rfl zero20 (withL (lrK o f k) k (1 - (bit o k : Nat))) (by first | rfl | (simp [idv])) HL.out.res rfl (id_with HCL.out k _).1 ?_
                  intro w3 hA3 hg3
                  replace HL := Lib.hid (HL.out.fin hA3 hg3)
                  clear hA3 hg3
                  go_simp
                  refine hK _ _ ?_
                  clear hK K
                  (try simp only [Act.put, List.setIfInBounds_toArray, List.set_cons_zero, List.set_cons_succ])
                  refine wpAny_take (i := 8) (oi := _) (v := ?_) (by simp only [List.getElem?_toArray, List.getElem?_cons_succ, List.getElem?_cons_zero]; rfl) (by kernel_rfl) (by kernel_rfl) (by kernel_rfl) (by intro _ _ _ h; exact h) (Or.inl ⟨by rfl, ?_⟩) ?_
                  rotate_left
                  focus (intro w; go_simp; try with_reducible rfl)
                  (try simp only [Act.put, List.setIfInBounds_toArray, List.set_cons_zero, List.set_cons_succ])
                  refine wpAny_done (by kernel_rfl) ?_ _
                  exact h2.out _ HL
                exact AllReady.nil
              exact AllReady.nil
            exact AllReady.nil
          exact AllReady.nil
        exact AllReady.nil
      intro w3 HL
      simp only [Act.put, List.setIfInBounds_toArray, List.set_cons_zero, List.set_cons_succ]
      go_wp2_with fail
      refine bodyPost_ret (v := .tuple #[idv (withL (lrK o f k) k (1 - (bit o k : Nat))), .bool true]) ((results_r2 (u := 6) (v := 7) rfl _ w3 (w.heap.size + 1 + 1) _ rfl HL.out.res (id_with HCL.out k _).1).trans rfl) rfl ?_
      exact ⟨by rw [HLR.out]; rfl, HL.out.low⟩
theorem flaid_no1 (o f : List Nat) (i : Int) (w : World) (ho : Id o) (hf : Id f) (hi : i < 0) :
    Calls Try.prog 51 #[idv o, .int .i64 i, idv f] w fun e w' => e = .returned (.tuple #[idv zero20, .bool false]) ∧ Below w.heap.size w w' := by
  have HL := Lib.hid (layR_new w o f)
  have hd1 : decide (i < 0) = true := decide_eq_true hi
  unfold idv
  generalize hCa : (idc o).toArray = Ca at *
  generalize hCb : (idc f).toArray = Cb at *
  go_enter Try.func51, Try.ntmps51
  go_upto_region 1 with fail
  obtain ⟨W3, hW3⟩ : ∃ W3, W3 = ((w.alloc (.cells Ca 56)).alloc (.cells Cb 56)).alloc Z56 := ⟨_, rfl⟩
  rw [← hW3] at HL ⊢
  clear hW3
  go_wp2_with (refine wpList_store_r rfl (.tmp 6) (.tmp 15) rfl (w.heap.size + 1 + 1) rfl zero20 zero20 rfl HL.out.res rfl rfl ?_; intro w5 hA5 hg5)
  refine bodyPost_ret (v := .tuple #[idv zero20, .bool false]) ((results_r2 (u := 6) (v := 7) rfl _ w5 (w.heap.size + 1 + 1) _ rfl hA5 rfl).trans rfl) rfl ?_
  exact ⟨rfl, (HL.out.fin hA5 hg5).low⟩
theorem flaid_no2 (o f : List Nat) (i : Int) (w : World) (ho : Id o) (hf : Id f) (hi : 160 ≤ i) :
    Calls Try.prog 51 #[idv o, .int .i64 i, idv f] w fun e w' => e = .returned (.tuple #[idv zero20, .bool false]) ∧ Below w.heap.size w w' := by
  have HL := Lib.hid (layR_new w o f)
  have h0 : 0 ≤ i := by omega
  have hd1 : decide (i < 0) = false := decide_eq_false (by omega)
  have hd2 : decide ((160 : Int) ≤ i) = true := decide_eq_true hi
  unfold idv
  generalize hCa : (idc o).toArray = Ca at *
  generalize hCb : (idc f).toArray = Cb at *
  go_enter Try.func51, Try.ntmps51
  go_upto_region 1 with fail
  obtain ⟨W3, hW3⟩ : ∃ W3, W3 = ((w.alloc (.cells Ca 56)).alloc (.cells Cb 56)).alloc Z56 := ⟨_, rfl⟩
  rw [← hW3] at HL ⊢
  clear hW3
  go_wp2_with (refine wpList_store_r rfl (.tmp 6) (.tmp 15) rfl (w.heap.size + 1 + 1) rfl zero20 zero20 rfl HL.out.res rfl rfl ?_; intro w5 hA5 hg5)
  refine bodyPost_ret (v := .tuple #[idv zero20, .bool false]) ((results_r2 (u := 6) (v := 7) rfl _ w5 (w.heap.size + 1 + 1) _ rfl hA5 rfl).trans rfl) rfl ?_
  exact ⟨rfl, (HL.out.fin hA5 hg5).low⟩
theorem flaid (o f : List Nat) (i : Int) (w : World) (ho : Id o) (hf : Id f) :
    Calls Try.prog 51 #[idv o, .int .i64 i, idv f] w fun e w' => e = .returned (.tuple #[idv (laidL o i fun k => (bit f k : Nat)), .bool (laidB i)]) ∧ Below w.heap.size w w' := by
  by_cases h0 : i < 0
  · have := flaid_no1 o f i w ho hf h0
    rwa [show laidL o i (fun k => (bit f k : Nat)) = zero20 from if_neg (by omega), show laidB i = false from decide_eq_false (by omega)]
  · by_cases h1 : 160 ≤ i
    · have := flaid_no2 o f i w ho hf h1
      rwa [show laidL o i (fun k => (bit f k : Nat)) = zero20 from if_neg (by omega), show laidB i = false from decide_eq_false (by omega)]
    · have := flaid_yes o f i.toNat w ho hf (by omega)
      rw [show ((i.toNat : Nat) : Int) = i by omega] at this
      rwa [show laidB i = true from decide_eq_true (by omega)]
end Go.Proofs.Ytcgfednoolkhkaa
