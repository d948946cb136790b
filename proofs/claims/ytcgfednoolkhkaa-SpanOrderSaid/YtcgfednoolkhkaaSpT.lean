/-
  span: SpanOrder's walk.
-/
import Derived.Test.YtcgfednoolkhkaaSpM
namespace Go.Proofs.Ytcgfednoolkhkaa
open Go.RowKit
set_option linter.unusedVariables false
set_option linter.unusedSimpArgs false
set_option maxRecDepth 100000
set_option maxHeartbeats 4000000 in
theorem span_order (o t : List Nat) (A2 : Option Addr) (c2 : Nat) (S2 : List Nat) (A3 : Option Addr) (c3 : Nat) (S3 : List Nat) (i k : Int) (w : World) (ho : Id o) (ht : Id t) (h2 : Seed w A2 S2) (h3 : Seed w A3 S3) :
    Calls Try.prog 6 #[idv o, idv t, .slice A2 S2.length c2, .slice A3 S3.length c3, .int .i64 i, .int .i64 k] w fun e w' => e = .returned (.bool true) ∧ Below w.heap.size w w' := by
  by_cases l2 : 100 < S2.length
  · have hb2 : Below w.heap.size w ((w.alloc (.cells (idc o).toArray 41)).alloc (.cells (idc t).toArray 41)) := ((Below.refl _ w).alloc (Nat.le_refl _) _).alloc (by simp) _
    have XW := Lib.hid hb2
    have hl : (100 : Int) < (S2.length : Int) := by omega
    clear hb2 ho ht h2 h3
    unfold idv
    generalize (idc o).toArray = Ca at *
    generalize (idc t).toArray = Cb at *
    go_enter Try.func6, Try.ntmps6
    go_wp2_with (go_at_call 24; refine (rlives _).mono ?_; rintro e w1 ⟨rfl, hb1⟩)
    go_ret
    exact ⟨rfl, XW.out.trans (hb1.mono XW.out.size)⟩
  by_cases l3 : 100 < S3.length
  · have hb2 : Below w.heap.size w ((w.alloc (.cells (idc o).toArray 41)).alloc (.cells (idc t).toArray 41)) := ((Below.refl _ w).alloc (Nat.le_refl _) _).alloc (by simp) _
    have XW := Lib.hid hb2
    have hl : (100 : Int) < (S3.length : Int) := by omega
    clear hb2 ho ht h2 h3
    unfold idv
    generalize (idc o).toArray = Ca at *
    generalize (idc t).toArray = Cb at *
    go_enter Try.func6, Try.ntmps6
    go_wp2_with (go_at_call 24; refine (rlives _).mono ?_; rintro e w1 ⟨rfl, hb1⟩)
    go_ret
    exact ⟨rfl, XW.out.trans (hb1.mono XW.out.size)⟩
  have hA1 := idAt_new w o
  have hA2 : IdAt ((w.alloc (.cells (idc o).toArray 41)).alloc (.cells (idc t).toArray 41)) w.heap.size o := idAt_below hA1 ((Below.refl _ _).alloc (Nat.le_refl _) _)
  have hB2 : IdAt ((w.alloc (.cells (idc o).toArray 41)).alloc (.cells (idc t).toArray 41)) (w.heap.size + 1) t := by simpa using idAt_new (w.alloc (.cells (idc o).toArray 41)) t
  have hb2 : Below w.heap.size w ((w.alloc (.cells (idc o).toArray 41)).alloc (.cells (idc t).toArray 41)) := ((Below.refl _ w).alloc (Nat.le_refl _) _).alloc (by simp) _
  have XA := Lib.hid hA2
  have XB := Lib.hid hB2
  have XW := Lib.hid hb2
  have XS2 := Lib.hid h2
  have XS3 := Lib.hid h3
  have HC := Lib.hid (rnearer2 o t ((w.alloc (.cells (idc o).toArray 41)).alloc (.cells (idc t).toArray 41)) ho ht)
  have HX := Lib.hid (id_xor ho ht)
  have HO := Lib.hid ho
  have HT := Lib.hid ht
  have ho20 := ho.1
  have ht20 := ht.1
  clear hA1 hA2 hB2 hb2 ho ht h2 h3
  by_cases hn0 : (nearK (xorL o t) 160).length = 0
  · have hot := near_empty HO.out HT.out hn0
    have HOT := Lib.hid hot
    rw [hn0] at HC
    clear hot hn0
    unfold idv at HC ⊢
    generalize hCa : (idc o).toArray = Ca at *
    generalize hCb : (idc t).toArray = Cb at *
    go_enter Try.func6, Try.ntmps6
    go_upto_region 3 with fail
    obtain ⟨W2, hW2⟩ : ∃ W2, W2 = (w.alloc (.cells Ca 41)).alloc (.cells Cb 41) := ⟨_, rfl⟩
    rw [← hW2] at XA XB XW HC ⊢
    clear hW2
    go_upto_region 5 with (first
      | (refine wpList_load_id rfl (.tmp 6) rfl w.heap.size rfl o XA.out ho20 ?_)
      | (refine wpList_load_id rfl (.tmp 7) rfl (w.heap.size + 1) rfl t XB.out ht20 ?_)
      | (go_at_call 25; unfold idv; rw [hCa, hCb]; refine HC.out.mono ?_; rintro e w1 ⟨la, lc, rfl, hv, hb1⟩))
    have HB1 := Lib.hid hb1
    clear hb1 hv
    go_wp2_with (first
      | (refine wl_load rfl (.tmp 6) rfl w.heap.size rfl o (idAt_below XA.out HB1.out) ho20 ?_)
      | (refine wl_load rfl (.tmp 7) rfl (w.heap.size + 1) rfl t (idAt_below XB.out HB1.out) ht20 ?_)
      | (refine wl_same rfl (.tmp 35) (.tmp 36) rfl o t rfl rfl ho20 HOT.out ?_)
      | (go_at_call 24; refine (rlives _).mono ?_; rintro e w2 ⟨rfl, hb2⟩))
    go_ret
    have hw1 := XW.out.trans (HB1.out.mono XW.out.size)
    exact ⟨rfl, hw1.trans (hb2.mono hw1.size)⟩
  have HN := Lib.hid (near_len (xorL o t) 160)
  generalize hfar : xorL o t = far at *
  generalize hxs : nearK far 160 = xs at *
  have HFAR := Lib.hid hfar
  have HXS := Lib.hid hxs
  clear hfar hxs
  have hn1 : (0 : Int) < (xs.length : Int) := by omega
  have r6 : ((xs.length : Int) == 0) = false := by simpa using hn0
  unfold idv at HC ⊢
  generalize hCa : (idc o).toArray = Ca at *
  generalize hCb : (idc t).toArray = Cb at *
  go_enter Try.func6, Try.ntmps6
  go_upto_region 3 with fail
  obtain ⟨W2, hW2⟩ : ∃ W2, W2 = (w.alloc (.cells Ca 41)).alloc (.cells Cb 41) := ⟨_, rfl⟩
  rw [← hW2] at XA XB XW HC ⊢
  clear hW2
  go_upto_region 6 with (first
    | (refine wpList_load_id rfl (.tmp 6) rfl w.heap.size rfl o XA.out ho20 ?_)
    | (refine wpList_load_id rfl (.tmp 7) rfl (w.heap.size + 1) rfl t XB.out ht20 ?_)
    | (go_at_call 25; unfold idv; rw [hCa, hCb]; refine HC.out.mono ?_; rintro e w1 ⟨la, lc, rfl, hv, hb1⟩))
  have hn160 := HN.out
  have hnp : 0 < xs.length := by omega
  have hia := umod_lt i xs.length hnp
  have hka := umod_lt k xs.length hnp
  have r1 := small_u64 xs.length hn160
  have r2 := umod_tmod i xs.length hnp
  have r3 := umod_tmod k xs.length hnp
  have r4 := small_i64 (umod i xs.length) (by omega)
  have r5 := small_i64 (umod k xs.length) (by omega)
  generalize umod i xs.length = ia at *
  generalize umod k xs.length = ka at *
  have XA1 := Lib.hid (idAt_below XA.out hb1)
  have XB1 := Lib.hid (idAt_below XB.out hb1)
  have XW1 := Lib.hid (XW.out.trans (hb1.mono XW.out.size))
  obtain ⟨lg, hlg, hcells⟩ := hv (fun e => by rw [e] at hnp; simp at hnp)
  have HCELLS := Lib.hid hcells
  subst hlg
  clear hb1 hcells hv XA XB XW HC
  go_quiet (fail)
  clear r1 r2 r3 r4 r5
  go_wp2_with fail
  have hbq := below_drewN (Below.refl w1.heap.size w1) nq
  obtain ⟨w5, hw5⟩ : ∃ w5, w5 = w1.drewN nq := ⟨_, rfl⟩
  rw [← hw5] at hbq ⊢
  clear hw5
  have XA5 := Lib.hid (idAt_below XA1.out hbq)
  have XB5 := Lib.hid (idAt_below XB1.out hbq)
  have XW5 := Lib.hid (XW1.out.trans (hbq.mono XW1.out.size))
  have XS5 := Lib.hid (seed_below XS2.out XW5.out)
  have XT5 := Lib.hid (seed_below XS3.out XW5.out)
  have HC5 : Hid (∀ (j : Nat) (x : Int), xs[j]? = some x → w5.cell? ⟨lg, j, none⟩ = some (.int .i64 x)) := fun j x hx => cell_below hbq (HCELLS.out j x hx)
  clear hbq HCELLS XA1 XB1 XW1 XS2 XS3
  obtain ⟨ja, hja, hba, hva⟩ := near_mem far ia (by rw [HXS.out]; exact hia)
  obtain ⟨jk, hjk, hbk, hvk⟩ := near_mem far ka (by rw [HXS.out]; exact hka)
  have hlt : ia < ka → ja < jk := fun h => by
    have := near_rise far ia ka h (by rw [HXS.out]; exact hka)
    rw [hva, hvk] at this
    omega
  rw [HXS.out] at hva hvk
  have XCA := Lib.hid (HC5.out ia (ja : Int) (by rw [← hva]; simp [List.getD, hia]))
  have XCK := Lib.hid (HC5.out ka (jk : Int) (by rw [← hvk]; simp [List.getD, hka]))
  have hda := near_diff HO.out HT.out ja hja (by rw [HFAR.out]; exact hba)
  have hdk := near_diff HO.out HT.out jk hjk (by rw [HFAR.out]; exact hbk)
  have HD2 : Hid (∀ W, Seed W A2 S2 → Calls Try.prog 26 #[idv o, .int .i64 (ja : Int), .slice A2 S2.length c2] W fun e w' => e = .returned (.tuple #[idv (laidL o ja fun k => (bit (fromL S2) k : Nat)), .bool true]) ∧ Below W.heap.size W w') := fun W hW => by
    have := rdraw o S2 (ja : Int) A2 c2 W HO.out hW
    rwa [show laidB (ja : Int) = true from decide_eq_true (by omega)] at this
  have HD3 : Hid (∀ W, Seed W A3 S3 → Calls Try.prog 26 #[idv o, .int .i64 (jk : Int), .slice A3 S3.length c3] W fun e w' => e = .returned (.tuple #[idv (laidL o jk fun k => (bit (fromL S3) k : Nat)), .bool true]) ∧ Below W.heap.size W w') := fun W hW => by
    have := rdraw o S3 (jk : Int) A3 c3 W HO.out hW
    rwa [show laidB (jk : Int) = true from decide_eq_true (by omega)] at this
  have HIA := Lib.hid (id_laid HO.out ja (fun k => (bit (fromL S2) k : Nat)))
  have HIK := Lib.hid (id_laid HO.out jk (fun k => (bit (fromL S3) k : Nat)))
  have HOW := Lib.hid (near_owner HO.out HT.out ja hja (fun k => (bit (fromL S2) k : Nat)) hda)
  have HLT : Hid (ia < ka → cmpN (xorL t (laidL o ja fun k => (bit (fromL S2) k : Nat))) (xorL t (laidL o jk fun k => (bit (fromL S3) k : Nat))) = -1) := fun h => near_later HO.out HT.out ja jk (hlt h) hjk _ _ hda
  clear hlt hva hvk hda hdk HC5 hba hbk
  generalize (laidL o ja fun k => (bit (fromL S2) k : Nat)) = LA at *
  generalize (laidL o jk fun k => (bit (fromL S3) k : Nat)) = LK at *
  have HLA := Lib.hid HIA.out.1
  have HLK := Lib.hid HIK.out.1
  have hia2 : (ia : Int) < (xs.length : Int) := by omega
  have hka2 : (ka : Int) < (xs.length : Int) := by omega
  have hia0 : (0 : Int) ≤ (ia : Int) := by omega
  have hka0 : (0 : Int) ≤ (ka : Int) := by omega
  clear r6
  subst hCa hCb
  refine wp_meetB (fun n a => ((((((((((((a.put (some 56) (idv o)).put (some 57) (.slice (some ⟨lg, 0, none⟩) xs.length lc)).put (some 58) (.int .i64 (ia : Nat))).put (some 59) (.pointer (some ⟨lg, ia, none⟩))).put (some 60) (.int .i64 (ja : Nat))).put (some 61) (.slice A2 S2.length c2)).put (some 62) (.tuple #[idv LA, .bool true])).put (some 55) (.tuple #[idv LA, .bool true])).put (some 63) (idv LA)).put (some 64) (.bool true)).put (some 16) (.pointer (some ⟨n, 0, none⟩))).put (some 17) (.bool true))) (fun n w' => Below w5.heap.size w5 w' ∧ IdAt w' n LA) ?rest7 ?first7
  case first7 =>
    intro K' h2
    simp only [Act.put, List.setIfInBounds_toArray, List.set_cons_zero, List.set_cons_succ] at h2
    replace h2 := Lib.hid h2
    have HB := Lib.hid (Below.refl w5.heap.size w5).drew
    refine wp_region_any (by kernel_rfl) ?_
    (try (change wpAny _ _ _ _ _ _ _ (World.drew _)))
    generalize World.drew w5 = wd at *
    refine wpAny_take (i := 1) (oi := _) (v := ?_) (by simp only [List.getElem?_toArray, List.getElem?_cons_succ, List.getElem?_cons_zero]; rfl) (by kernel_rfl) (by kernel_rfl) (by kernel_rfl) (by intro _ _ _ h; exact h) (Or.inl ⟨by rfl, ?_⟩) ?_
    rotate_left
    focus (intro w; go_simp; try with_reducible rfl)
    (try simp only [Act.put, List.setIfInBounds_toArray, List.set_cons_zero, List.set_cons_succ])
    refine wpAny_take (i := 2) (oi := _) (v := ?_) (by simp only [List.getElem?_toArray, List.getElem?_cons_succ, List.getElem?_cons_zero]; rfl) (by kernel_rfl) (by kernel_rfl) (by kernel_rfl) (by intro _ _ _ h; exact h) (Or.inl ⟨by rfl, ?_⟩) ?_
    rotate_left
    focus (intro w; go_simp; try with_reducible rfl)
    (try simp only [Act.put, List.setIfInBounds_toArray, List.set_cons_zero, List.set_cons_succ])
    refine wpAny_take (i := 3) (oi := _) (v := ?_) (by simp only [List.getElem?_toArray, List.getElem?_cons_succ, List.getElem?_cons_zero]; rfl) (by kernel_rfl) (by kernel_rfl) (by kernel_rfl) (by intro _ _ _ h; exact h) (Or.inl ⟨by rfl, ?_⟩) ?_
    rotate_left
    focus (intro w; go_simp; try with_reducible rfl)
    (try simp only [Act.put, List.setIfInBounds_toArray, List.set_cons_zero, List.set_cons_succ])
    refine wpAny_take (i := 5) (oi := _) (v := ?_) (by simp only [List.getElem?_toArray, List.getElem?_cons_succ, List.getElem?_cons_zero]; rfl) (by kernel_rfl) (by kernel_rfl) (by kernel_rfl) (by intro _ _ _ h; exact h) (Or.inl ⟨by rfl, ?_⟩) ?_
    rotate_left
    focus (intro w; go_simp; try with_reducible rfl)
    (try simp only [Act.put, List.setIfInBounds_toArray, List.set_cons_zero, List.set_cons_succ])
    refine wpAny_ready (rs := [0, 4, 10]) (by kernel_rfl) (by simp) ?_
    refine AllReady.cons rfl (fun K hK => ?_) ?_
    · rw [if_pos (by rfl)]
      refine wp_load_id (.tmp 6) rfl (w.heap.size) rfl o (idAt_below XA5.out HB.out) ho20 ?_
      go_simp
      refine hK _ _ ?_
      clear hK K
      (try simp only [Act.put, List.setIfInBounds_toArray, List.set_cons_zero, List.set_cons_succ])
      refine wpAny_ready (rs := [4, 10]) (by kernel_rfl) (by simp) ?_
      refine AllReady.cons rfl (fun K hK => ?_) ?_
      · have hc := cell_below HB.out XCA.out
        go_simp
        clear hc
        refine hK _ _ ?_
        clear hK K
        (try simp only [Act.put, List.setIfInBounds_toArray, List.set_cons_zero, List.set_cons_succ])
        refine wpAny_ready (rs := [6, 10]) (by kernel_rfl) (by simp) ?_
        refine AllReady.cons rfl (fun K hK => ?_) ?_
        · go_simp
          go_at_call 26
          refine (HD2.out _ (seed_below XS5.out HB.out)).mono ?_
          rintro e w2 ⟨rfl, hb2⟩
          replace HB := Lib.hid (HB.out.trans (hb2.mono HB.out.size))
          clear hb2
          go_wp2_with fail
          (try simp only [Act.put, List.setIfInBounds_toArray, List.set_cons_zero, List.set_cons_succ])
          refine wpAny_take (i := 7) (oi := _) (v := ?_) (by simp only [List.getElem?_toArray, List.getElem?_cons_succ, List.getElem?_cons_zero]; rfl) (by kernel_rfl) (by kernel_rfl) (by kernel_rfl) (by intro _ _ _ h; exact h) (Or.inl ⟨by rfl, ?_⟩) ?_
          rotate_left
          focus (intro w; go_simp; try with_reducible rfl)
          (try simp only [Act.put, List.setIfInBounds_toArray, List.set_cons_zero, List.set_cons_succ])
          refine wpAny_take (i := 8) (oi := _) (v := ?_) (by simp only [List.getElem?_toArray, List.getElem?_cons_succ, List.getElem?_cons_zero]; rfl) (by kernel_rfl) (by kernel_rfl) (by kernel_rfl) (by intro _ _ _ h; exact h) (Or.inl ⟨by rfl, ?_⟩) ?_
          rotate_left
          focus (intro w; go_simp; try with_reducible rfl)
          (try simp only [Act.put, List.setIfInBounds_toArray, List.set_cons_zero, List.set_cons_succ])
          refine wpAny_take (i := 9) (oi := _) (v := ?_) (by simp only [List.getElem?_toArray, List.getElem?_cons_succ, List.getElem?_cons_zero]; rfl) (by kernel_rfl) (by kernel_rfl) (by kernel_rfl) (by intro _ _ _ h; exact h) (Or.inl ⟨by rfl, ?_⟩) ?_
          rotate_left
          focus (intro w; go_simp; try with_reducible rfl)
          (try simp only [Act.put, List.setIfInBounds_toArray, List.set_cons_zero, List.set_cons_succ])
          refine wpAny_ready (rs := [10]) (by kernel_rfl) (by simp) ?_
          refine AllReady.cons rfl (fun K hK => ?_) ?_
          · go_simp
            have HGE := Lib.hid HB.out.size
            have HG := Lib.hid (zero_new HB.out)
            replace HB := Lib.hid (HB.out.alloc HB.out.size Z41)
            generalize World.alloc w2 Z41 = wa at *
            refine hK _ _ ?_
            clear hK K
            (try simp only [Act.put, List.setIfInBounds_toArray, List.set_cons_zero, List.set_cons_succ])
            refine wpAny_ready (rs := [11]) (by kernel_rfl) (by simp) ?_
            refine AllReady.cons rfl (fun K hK => ?_) ?_
            · rw [if_pos (by rfl)]
              refine wp_store_id (.tmp 16) (.tmp 63) rfl _ rfl zero20 LA rfl HG.out rfl HLA.out ?_
              intro w3 hA3 hg3
              replace HB := Lib.hid (HB.out.grown hg3 HB.out.size (fun k e => by cases e; exact HGE.out))
              replace HG := Lib.hid hA3
              clear hA3 hg3
              go_simp
              refine hK _ _ ?_
              clear hK K
              (try simp only [Act.put, List.setIfInBounds_toArray, List.set_cons_zero, List.set_cons_succ])
              refine wpAny_take (i := 12) (oi := _) (v := ?_) (by simp only [List.getElem?_toArray, List.getElem?_cons_succ, List.getElem?_cons_zero]; rfl) (by kernel_rfl) (by kernel_rfl) (by kernel_rfl) (by intro _ _ _ h; exact h) (Or.inl ⟨by rfl, ?_⟩) ?_
              rotate_left
              focus (intro w; go_simp; try with_reducible rfl)
              (try simp only [Act.put, List.setIfInBounds_toArray, List.set_cons_zero, List.set_cons_succ])
              refine wpAny_done (by kernel_rfl) ?_ _
              exact h2.out _ _ ⟨HB.out, HG.out⟩
            exact AllReady.nil
          exact AllReady.nil
        refine AllReady.cons rfl (fun K hK => ?_) ?_
        · go_simp
          have HGE := Lib.hid HB.out.size
          have HG := Lib.hid (zero_new HB.out)
          replace HB := Lib.hid (HB.out.alloc HB.out.size Z41)
          generalize World.alloc wd Z41 = wa at *
          refine hK _ _ ?_
          clear hK K
          (try simp only [Act.put, List.setIfInBounds_toArray, List.set_cons_zero, List.set_cons_succ])
          refine wpAny_ready (rs := [6]) (by kernel_rfl) (by simp) ?_
          refine AllReady.cons rfl (fun K hK => ?_) ?_
          · go_simp
            go_at_call 26
            refine (HD2.out _ (seed_below XS5.out HB.out)).mono ?_
            rintro e w2 ⟨rfl, hb2⟩
            replace HB := Lib.hid (HB.out.trans (hb2.mono HB.out.size))
            replace HG := Lib.hid (idAt_below HG.out hb2)
            clear hb2
            go_wp2_with fail
            (try simp only [Act.put, List.setIfInBounds_toArray, List.set_cons_zero, List.set_cons_succ])
            refine wpAny_take (i := 7) (oi := _) (v := ?_) (by simp only [List.getElem?_toArray, List.getElem?_cons_succ, List.getElem?_cons_zero]; rfl) (by kernel_rfl) (by kernel_rfl) (by kernel_rfl) (by intro _ _ _ h; exact h) (Or.inl ⟨by rfl, ?_⟩) ?_
            rotate_left
            focus (intro w; go_simp; try with_reducible rfl)
            (try simp only [Act.put, List.setIfInBounds_toArray, List.set_cons_zero, List.set_cons_succ])
            refine wpAny_take (i := 8) (oi := _) (v := ?_) (by simp only [List.getElem?_toArray, List.getElem?_cons_succ, List.getElem?_cons_zero]; rfl) (by kernel_rfl) (by kernel_rfl) (by kernel_rfl) (by intro _ _ _ h; exact h) (Or.inl ⟨by rfl, ?_⟩) ?_
            rotate_left
            focus (intro w; go_simp; try with_reducible rfl)
            (try simp only [Act.put, List.setIfInBounds_toArray, List.set_cons_zero, List.set_cons_succ])
            refine wpAny_take (i := 9) (oi := _) (v := ?_) (by simp only [List.getElem?_toArray, List.getElem?_cons_succ, List.getElem?_cons_zero]; rfl) (by kernel_rfl) (by kernel_rfl) (by kernel_rfl) (by intro _ _ _ h; exact h) (Or.inl ⟨by rfl, ?_⟩) ?_
            rotate_left
            focus (intro w; go_simp; try with_reducible rfl)
            (try simp only [Act.put, List.setIfInBounds_toArray, List.set_cons_zero, List.set_cons_succ])
            refine wpAny_ready (rs := [11]) (by kernel_rfl) (by simp) ?_
            refine AllReady.cons rfl (fun K hK => ?_) ?_
            · rw [if_pos (by rfl)]
              refine wp_store_id (.tmp 16) (.tmp 63) rfl _ rfl zero20 LA rfl HG.out rfl HLA.out ?_
              intro w3 hA3 hg3
              replace HB := Lib.hid (HB.out.grown hg3 HB.out.size (fun k e => by cases e; exact HGE.out))
              replace HG := Lib.hid hA3
              clear hA3 hg3
              go_simp
              refine hK _ _ ?_
              clear hK K
              (try simp only [Act.put, List.setIfInBounds_toArray, List.set_cons_zero, List.set_cons_succ])
              refine wpAny_take (i := 12) (oi := _) (v := ?_) (by simp only [List.getElem?_toArray, List.getElem?_cons_succ, List.getElem?_cons_zero]; rfl) (by kernel_rfl) (by kernel_rfl) (by kernel_rfl) (by intro _ _ _ h; exact h) (Or.inl ⟨by rfl, ?_⟩) ?_
              rotate_left
              focus (intro w; go_simp; try with_reducible rfl)
              (try simp only [Act.put, List.setIfInBounds_toArray, List.set_cons_zero, List.set_cons_succ])
              refine wpAny_done (by kernel_rfl) ?_ _
              exact h2.out _ _ ⟨HB.out, HG.out⟩
            exact AllReady.nil
          exact AllReady.nil
        exact AllReady.nil
      refine AllReady.cons rfl (fun K hK => ?_) ?_
      · go_simp
        have HGE := Lib.hid HB.out.size
        have HG := Lib.hid (zero_new HB.out)
        replace HB := Lib.hid (HB.out.alloc HB.out.size Z41)
        generalize World.alloc wd Z41 = wa at *
        refine hK _ _ ?_
        clear hK K
        (try simp only [Act.put, List.setIfInBounds_toArray, List.set_cons_zero, List.set_cons_succ])
        refine wpAny_ready (rs := [4]) (by kernel_rfl) (by simp) ?_
        refine AllReady.cons rfl (fun K hK => ?_) ?_
        · have hc := cell_below HB.out XCA.out
          go_simp
          clear hc
          refine hK _ _ ?_
          clear hK K
          (try simp only [Act.put, List.setIfInBounds_toArray, List.set_cons_zero, List.set_cons_succ])
          refine wpAny_ready (rs := [6]) (by kernel_rfl) (by simp) ?_
          refine AllReady.cons rfl (fun K hK => ?_) ?_
          · go_simp
            go_at_call 26
            refine (HD2.out _ (seed_below XS5.out HB.out)).mono ?_
            rintro e w2 ⟨rfl, hb2⟩
            replace HB := Lib.hid (HB.out.trans (hb2.mono HB.out.size))
            replace HG := Lib.hid (idAt_below HG.out hb2)
            clear hb2
            go_wp2_with fail
            (try simp only [Act.put, List.setIfInBounds_toArray, List.set_cons_zero, List.set_cons_succ])
            refine wpAny_take (i := 7) (oi := _) (v := ?_) (by simp only [List.getElem?_toArray, List.getElem?_cons_succ, List.getElem?_cons_zero]; rfl) (by kernel_rfl) (by kernel_rfl) (by kernel_rfl) (by intro _ _ _ h; exact h) (Or.inl ⟨by rfl, ?_⟩) ?_
            rotate_left
            focus (intro w; go_simp; try with_reducible rfl)
            (try simp only [Act.put, List.setIfInBounds_toArray, List.set_cons_zero, List.set_cons_succ])
            refine wpAny_take (i := 8) (oi := _) (v := ?_) (by simp only [List.getElem?_toArray, List.getElem?_cons_succ, List.getElem?_cons_zero]; rfl) (by kernel_rfl) (by kernel_rfl) (by kernel_rfl) (by intro _ _ _ h; exact h) (Or.inl ⟨by rfl, ?_⟩) ?_
            rotate_left
            focus (intro w; go_simp; try with_reducible rfl)
            (try simp only [Act.put, List.setIfInBounds_toArray, List.set_cons_zero, List.set_cons_succ])
            refine wpAny_take (i := 9) (oi := _) (v := ?_) (by simp only [List.getElem?_toArray, List.getElem?_cons_succ, List.getElem?_cons_zero]; rfl) (by kernel_rfl) (by kernel_rfl) (by kernel_rfl) (by intro _ _ _ h; exact h) (Or.inl ⟨by rfl, ?_⟩) ?_
            rotate_left
            focus (intro w; go_simp; try with_reducible rfl)
            (try simp only [Act.put, List.setIfInBounds_toArray, List.set_cons_zero, List.set_cons_succ])
            refine wpAny_ready (rs := [11]) (by kernel_rfl) (by simp) ?_
            refine AllReady.cons rfl (fun K hK => ?_) ?_
            · rw [if_pos (by rfl)]
              refine wp_store_id (.tmp 16) (.tmp 63) rfl _ rfl zero20 LA rfl HG.out rfl HLA.out ?_
              intro w3 hA3 hg3
              replace HB := Lib.hid (HB.out.grown hg3 HB.out.size (fun k e => by cases e; exact HGE.out))
              replace HG := Lib.hid hA3
              clear hA3 hg3
              go_simp
              refine hK _ _ ?_
              clear hK K
              (try simp only [Act.put, List.setIfInBounds_toArray, List.set_cons_zero, List.set_cons_succ])
              refine wpAny_take (i := 12) (oi := _) (v := ?_) (by simp only [List.getElem?_toArray, List.getElem?_cons_succ, List.getElem?_cons_zero]; rfl) (by kernel_rfl) (by kernel_rfl) (by kernel_rfl) (by intro _ _ _ h; exact h) (Or.inl ⟨by rfl, ?_⟩) ?_
              rotate_left
              focus (intro w; go_simp; try with_reducible rfl)
              (try simp only [Act.put, List.setIfInBounds_toArray, List.set_cons_zero, List.set_cons_succ])
              refine wpAny_done (by kernel_rfl) ?_ _
              exact h2.out _ _ ⟨HB.out, HG.out⟩
            exact AllReady.nil
          exact AllReady.nil
        exact AllReady.nil
      exact AllReady.nil
    refine AllReady.cons rfl (fun K hK => ?_) ?_
    · have hc := cell_below HB.out XCA.out
      go_simp
      clear hc
      refine hK _ _ ?_
      clear hK K
      (try simp only [Act.put, List.setIfInBounds_toArray, List.set_cons_zero, List.set_cons_succ])
      refine wpAny_ready (rs := [0, 10]) (by kernel_rfl) (by simp) ?_
      refine AllReady.cons rfl (fun K hK => ?_) ?_
      · rw [if_pos (by rfl)]
        refine wp_load_id (.tmp 6) rfl (w.heap.size) rfl o (idAt_below XA5.out HB.out) ho20 ?_
        go_simp
        refine hK _ _ ?_
        clear hK K
        (try simp only [Act.put, List.setIfInBounds_toArray, List.set_cons_zero, List.set_cons_succ])
        refine wpAny_ready (rs := [6, 10]) (by kernel_rfl) (by simp) ?_
        refine AllReady.cons rfl (fun K hK => ?_) ?_
        · go_simp
          go_at_call 26
          refine (HD2.out _ (seed_below XS5.out HB.out)).mono ?_
          rintro e w2 ⟨rfl, hb2⟩
          replace HB := Lib.hid (HB.out.trans (hb2.mono HB.out.size))
          clear hb2
          go_wp2_with fail
          (try simp only [Act.put, List.setIfInBounds_toArray, List.set_cons_zero, List.set_cons_succ])
          refine wpAny_take (i := 7) (oi := _) (v := ?_) (by simp only [List.getElem?_toArray, List.getElem?_cons_succ, List.getElem?_cons_zero]; rfl) (by kernel_rfl) (by kernel_rfl) (by kernel_rfl) (by intro _ _ _ h; exact h) (Or.inl ⟨by rfl, ?_⟩) ?_
          rotate_left
          focus (intro w; go_simp; try with_reducible rfl)
          (try simp only [Act.put, List.setIfInBounds_toArray, List.set_cons_zero, List.set_cons_succ])
          refine wpAny_take (i := 8) (oi := _) (v := ?_) (by simp only [List.getElem?_toArray, List.getElem?_cons_succ, List.getElem?_cons_zero]; rfl) (by kernel_rfl) (by kernel_rfl) (by kernel_rfl) (by intro _ _ _ h; exact h) (Or.inl ⟨by rfl, ?_⟩) ?_
          rotate_left
          focus (intro w; go_simp; try with_reducible rfl)
          (try simp only [Act.put, List.setIfInBounds_toArray, List.set_cons_zero, List.set_cons_succ])
          refine wpAny_take (i := 9) (oi := _) (v := ?_) (by simp only [List.getElem?_toArray, List.getElem?_cons_succ, List.getElem?_cons_zero]; rfl) (by kernel_rfl) (by kernel_rfl) (by kernel_rfl) (by intro _ _ _ h; exact h) (Or.inl ⟨by rfl, ?_⟩) ?_
          rotate_left
          focus (intro w; go_simp; try with_reducible rfl)
          (try simp only [Act.put, List.setIfInBounds_toArray, List.set_cons_zero, List.set_cons_succ])
          refine wpAny_ready (rs := [10]) (by kernel_rfl) (by simp) ?_
          refine AllReady.cons rfl (fun K hK => ?_) ?_
          · go_simp
            have HGE := Lib.hid HB.out.size
            have HG := Lib.hid (zero_new HB.out)
            replace HB := Lib.hid (HB.out.alloc HB.out.size Z41)
            generalize World.alloc w2 Z41 = wa at *
            refine hK _ _ ?_
            clear hK K
            (try simp only [Act.put, List.setIfInBounds_toArray, List.set_cons_zero, List.set_cons_succ])
            refine wpAny_ready (rs := [11]) (by kernel_rfl) (by simp) ?_
            refine AllReady.cons rfl (fun K hK => ?_) ?_
            · rw [if_pos (by rfl)]
              refine wp_store_id (.tmp 16) (.tmp 63) rfl _ rfl zero20 LA rfl HG.out rfl HLA.out ?_
              intro w3 hA3 hg3
              replace HB := Lib.hid (HB.out.grown hg3 HB.out.size (fun k e => by cases e; exact HGE.out))
              replace HG := Lib.hid hA3
              clear hA3 hg3
              go_simp
              refine hK _ _ ?_
              clear hK K
              (try simp only [Act.put, List.setIfInBounds_toArray, List.set_cons_zero, List.set_cons_succ])
              refine wpAny_take (i := 12) (oi := _) (v := ?_) (by simp only [List.getElem?_toArray, List.getElem?_cons_succ, List.getElem?_cons_zero]; rfl) (by kernel_rfl) (by kernel_rfl) (by kernel_rfl) (by intro _ _ _ h; exact h) (Or.inl ⟨by rfl, ?_⟩) ?_
              rotate_left
              focus (intro w; go_simp; try with_reducible rfl)
              (try simp only [Act.put, List.setIfInBounds_toArray, List.set_cons_zero, List.set_cons_succ])
              refine wpAny_done (by kernel_rfl) ?_ _
              exact h2.out _ _ ⟨HB.out, HG.out⟩
            exact AllReady.nil
          exact AllReady.nil
        refine AllReady.cons rfl (fun K hK => ?_) ?_
        · go_simp
          have HGE := Lib.hid HB.out.size
          have HG := Lib.hid (zero_new HB.out)
          replace HB := Lib.hid (HB.out.alloc HB.out.size Z41)
          generalize World.alloc wd Z41 = wa at *
          refine hK _ _ ?_
          clear hK K
          (try simp only [Act.put, List.setIfInBounds_toArray, List.set_cons_zero, List.set_cons_succ])
          refine wpAny_ready (rs := [6]) (by kernel_rfl) (by simp) ?_
          refine AllReady.cons rfl (fun K hK => ?_) ?_
          · go_simp
            go_at_call 26
            refine (HD2.out _ (seed_below XS5.out HB.out)).mono ?_
            rintro e w2 ⟨rfl, hb2⟩
            replace HB := Lib.hid (HB.out.trans (hb2.mono HB.out.size))
            replace HG := Lib.hid (idAt_below HG.out hb2)
            clear hb2
            go_wp2_with fail
            (try simp only [Act.put, List.setIfInBounds_toArray, List.set_cons_zero, List.set_cons_succ])
            refine wpAny_take (i := 7) (oi := _) (v := ?_) (by simp only [List.getElem?_toArray, List.getElem?_cons_succ, List.getElem?_cons_zero]; rfl) (by kernel_rfl) (by kernel_rfl) (by kernel_rfl) (by intro _ _ _ h; exact h) (Or.inl ⟨by rfl, ?_⟩) ?_
            rotate_left
            focus (intro w; go_simp; try with_reducible rfl)
            (try simp only [Act.put, List.setIfInBounds_toArray, List.set_cons_zero, List.set_cons_succ])
            refine wpAny_take (i := 8) (oi := _) (v := ?_) (by simp only [List.getElem?_toArray, List.getElem?_cons_succ, List.getElem?_cons_zero]; rfl) (by kernel_rfl) (by kernel_rfl) (by kernel_rfl) (by intro _ _ _ h; exact h) (Or.inl ⟨by rfl, ?_⟩) ?_
            rotate_left
            focus (intro w; go_simp; try with_reducible rfl)
            (try simp only [Act.put, List.setIfInBounds_toArray, List.set_cons_zero, List.set_cons_succ])
            refine wpAny_take (i := 9) (oi := _) (v := ?_) (by simp only [List.getElem?_toArray, List.getElem?_cons_succ, List.getElem?_cons_zero]; rfl) (by kernel_rfl) (by kernel_rfl) (by kernel_rfl) (by intro _ _ _ h; exact h) (Or.inl ⟨by rfl, ?_⟩) ?_
            rotate_left
            focus (intro w; go_simp; try with_reducible rfl)
            (try simp only [Act.put, List.setIfInBounds_toArray, List.set_cons_zero, List.set_cons_succ])
            refine wpAny_ready (rs := [11]) (by kernel_rfl) (by simp) ?_
            refine AllReady.cons rfl (fun K hK => ?_) ?_
            · rw [if_pos (by rfl)]
              refine wp_store_id (.tmp 16) (.tmp 63) rfl _ rfl zero20 LA rfl HG.out rfl HLA.out ?_
              intro w3 hA3 hg3
              replace HB := Lib.hid (HB.out.grown hg3 HB.out.size (fun k e => by cases e; exact HGE.out))
              replace HG := Lib.hid hA3
              clear hA3 hg3
              go_simp
              refine hK _ _ ?_
              clear hK K
              (try simp only [Act.put, List.setIfInBounds_toArray, List.set_cons_zero, List.set_cons_succ])
              refine wpAny_take (i := 12) (oi := _) (v := ?_) (by simp only [List.getElem?_toArray, List.getElem?_cons_succ, List.getElem?_cons_zero]; rfl) (by kernel_rfl) (by kernel_rfl) (by kernel_rfl) (by intro _ _ _ h; exact h) (Or.inl ⟨by rfl, ?_⟩) ?_
              rotate_left
              focus (intro w; go_simp; try with_reducible rfl)
              (try simp only [Act.put, List.setIfInBounds_toArray, List.set_cons_zero, List.set_cons_succ])
              refine wpAny_done (by kernel_rfl) ?_ _
              exact h2.out _ _ ⟨HB.out, HG.out⟩
            exact AllReady.nil
          exact AllReady.nil
        exact AllReady.nil
      refine AllReady.cons rfl (fun K hK => ?_) ?_
      · go_simp
        have HGE := Lib.hid HB.out.size
        have HG := Lib.hid (zero_new HB.out)
        replace HB := Lib.hid (HB.out.alloc HB.out.size Z41)
        generalize World.alloc wd Z41 = wa at *
        refine hK _ _ ?_
        clear hK K
        (try simp only [Act.put, List.setIfInBounds_toArray, List.set_cons_zero, List.set_cons_succ])
        refine wpAny_ready (rs := [0]) (by kernel_rfl) (by simp) ?_
        refine AllReady.cons rfl (fun K hK => ?_) ?_
        · rw [if_pos (by rfl)]
          refine wp_load_id (.tmp 6) rfl (w.heap.size) rfl o (idAt_below XA5.out HB.out) ho20 ?_
          go_simp
          refine hK _ _ ?_
          clear hK K
          (try simp only [Act.put, List.setIfInBounds_toArray, List.set_cons_zero, List.set_cons_succ])
          refine wpAny_ready (rs := [6]) (by kernel_rfl) (by simp) ?_
          refine AllReady.cons rfl (fun K hK => ?_) ?_
          · go_simp
            go_at_call 26
            refine (HD2.out _ (seed_below XS5.out HB.out)).mono ?_
            rintro e w2 ⟨rfl, hb2⟩
            replace HB := Lib.hid (HB.out.trans (hb2.mono HB.out.size))
            replace HG := Lib.hid (idAt_below HG.out hb2)
            clear hb2
            go_wp2_with fail
            (try simp only [Act.put, List.setIfInBounds_toArray, List.set_cons_zero, List.set_cons_succ])
            refine wpAny_take (i := 7) (oi := _) (v := ?_) (by simp only [List.getElem?_toArray, List.getElem?_cons_succ, List.getElem?_cons_zero]; rfl) (by kernel_rfl) (by kernel_rfl) (by kernel_rfl) (by intro _ _ _ h; exact h) (Or.inl ⟨by rfl, ?_⟩) ?_
            rotate_left
            focus (intro w; go_simp; try with_reducible rfl)
            (try simp only [Act.put, List.setIfInBounds_toArray, List.set_cons_zero, List.set_cons_succ])
            refine wpAny_take (i := 8) (oi := _) (v := ?_) (by simp only [List.getElem?_toArray, List.getElem?_cons_succ, List.getElem?_cons_zero]; rfl) (by kernel_rfl) (by kernel_rfl) (by kernel_rfl) (by intro _ _ _ h; exact h) (Or.inl ⟨by rfl, ?_⟩) ?_
            rotate_left
            focus (intro w; go_simp; try with_reducible rfl)
            (try simp only [Act.put, List.setIfInBounds_toArray, List.set_cons_zero, List.set_cons_succ])
            refine wpAny_take (i := 9) (oi := _) (v := ?_) (by simp only [List.getElem?_toArray, List.getElem?_cons_succ, List.getElem?_cons_zero]; rfl) (by kernel_rfl) (by kernel_rfl) (by kernel_rfl) (by intro _ _ _ h; exact h) (Or.inl ⟨by rfl, ?_⟩) ?_
            rotate_left
            focus (intro w; go_simp; try with_reducible rfl)
            (try simp only [Act.put, List.setIfInBounds_toArray, List.set_cons_zero, List.set_cons_succ])
            refine wpAny_ready (rs := [11]) (by kernel_rfl) (by simp) ?_
            refine AllReady.cons rfl (fun K hK => ?_) ?_
            · rw [if_pos (by rfl)]
              refine wp_store_id (.tmp 16) (.tmp 63) rfl _ rfl zero20 LA rfl HG.out rfl HLA.out ?_
              intro w3 hA3 hg3
              replace HB := Lib.hid (HB.out.grown hg3 HB.out.size (fun k e => by cases e; exact HGE.out))
              replace HG := Lib.hid hA3
              clear hA3 hg3
              go_simp
              refine hK _ _ ?_
              clear hK K
              (try simp only [Act.put, List.setIfInBounds_toArray, List.set_cons_zero, List.set_cons_succ])
              refine wpAny_take (i := 12) (oi := _) (v := ?_) (by simp only [List.getElem?_toArray, List.getElem?_cons_succ, List.getElem?_cons_zero]; rfl) (by kernel_rfl) (by kernel_rfl) (by kernel_rfl) (by intro _ _ _ h; exact h) (Or.inl ⟨by rfl, ?_⟩) ?_
              rotate_left
              focus (intro w; go_simp; try with_reducible rfl)
              (try simp only [Act.put, List.setIfInBounds_toArray, List.set_cons_zero, List.set_cons_succ])
              refine wpAny_done (by kernel_rfl) ?_ _
              exact h2.out _ _ ⟨HB.out, HG.out⟩
            exact AllReady.nil
          exact AllReady.nil
        exact AllReady.nil
      exact AllReady.nil
    refine AllReady.cons rfl (fun K hK => ?_) ?_
    · go_simp
      have HGE := Lib.hid HB.out.size
      have HG := Lib.hid (zero_new HB.out)
      replace HB := Lib.hid (HB.out.alloc HB.out.size Z41)
      generalize World.alloc wd Z41 = wa at *
      refine hK _ _ ?_
      clear hK K
      (try simp only [Act.put, List.setIfInBounds_toArray, List.set_cons_zero, List.set_cons_succ])
      refine wpAny_ready (rs := [0, 4]) (by kernel_rfl) (by simp) ?_
      refine AllReady.cons rfl (fun K hK => ?_) ?_
      · rw [if_pos (by rfl)]
        refine wp_load_id (.tmp 6) rfl (w.heap.size) rfl o (idAt_below XA5.out HB.out) ho20 ?_
        go_simp
        refine hK _ _ ?_
        clear hK K
        (try simp only [Act.put, List.setIfInBounds_toArray, List.set_cons_zero, List.set_cons_succ])
        refine wpAny_ready (rs := [4]) (by kernel_rfl) (by simp) ?_
        refine AllReady.cons rfl (fun K hK => ?_) ?_
        · have hc := cell_below HB.out XCA.out
          go_simp
          clear hc
          refine hK _ _ ?_
          clear hK K
          (try simp only [Act.put, List.setIfInBounds_toArray, List.set_cons_zero, List.set_cons_succ])
          refine wpAny_ready (rs := [6]) (by kernel_rfl) (by simp) ?_
          refine AllReady.cons rfl (fun K hK => ?_) ?_
          · go_simp
            go_at_call 26
            refine (HD2.out _ (seed_below XS5.out HB.out)).mono ?_
            rintro e w2 ⟨rfl, hb2⟩
            replace HB := Lib.hid (HB.out.trans (hb2.mono HB.out.size))
            replace HG := Lib.hid (idAt_below HG.out hb2)
            clear hb2
            go_wp2_with fail
            (try simp only [Act.put, List.setIfInBounds_toArray, List.set_cons_zero, List.set_cons_succ])
            refine wpAny_take (i := 7) (oi := _) (v := ?_) (by simp only [List.getElem?_toArray, List.getElem?_cons_succ, List.getElem?_cons_zero]; rfl) (by kernel_rfl) (by kernel_rfl) (by kernel_rfl) (by intro _ _ _ h; exact h) (Or.inl ⟨by rfl, ?_⟩) ?_
            rotate_left
            focus (intro w; go_simp; try with_reducible rfl)
            (try simp only [Act.put, List.setIfInBounds_toArray, List.set_cons_zero, List.set_cons_succ])
            refine wpAny_take (i := 8) (oi := _) (v := ?_) (by simp only [List.getElem?_toArray, List.getElem?_cons_succ, List.getElem?_cons_zero]; rfl) (by kernel_rfl) (by kernel_rfl) (by kernel_rfl) (by intro _ _ _ h; exact h) (Or.inl ⟨by rfl, ?_⟩) ?_
            rotate_left
            focus (intro w; go_simp; try with_reducible rfl)
            (try simp only [Act.put, List.setIfInBounds_toArray, List.set_cons_zero, List.set_cons_succ])
            refine wpAny_take (i := 9) (oi := _) (v := ?_) (by simp only [List.getElem?_toArray, List.getElem?_cons_succ, List.getElem?_cons_zero]; rfl) (by kernel_rfl) (by kernel_rfl) (by kernel_rfl) (by intro _ _ _ h; exact h) (Or.inl ⟨by rfl, ?_⟩) ?_
            rotate_left
            focus (intro w; go_simp; try with_reducible rfl)
            (try simp only [Act.put, List.setIfInBounds_toArray, List.set_cons_zero, List.set_cons_succ])
            refine wpAny_ready (rs := [11]) (by kernel_rfl) (by simp) ?_
            refine AllReady.cons rfl (fun K hK => ?_) ?_
            · rw [if_pos (by rfl)]
              refine wp_store_id (.tmp 16) (.tmp 63) rfl _ rfl zero20 LA rfl HG.out rfl HLA.out ?_
              intro w3 hA3 hg3
              replace HB := Lib.hid (HB.out.grown hg3 HB.out.size (fun k e => by cases e; exact HGE.out))
              replace HG := Lib.hid hA3
              clear hA3 hg3
              go_simp
              refine hK _ _ ?_
              clear hK K
              (try simp only [Act.put, List.setIfInBounds_toArray, List.set_cons_zero, List.set_cons_succ])
              refine wpAny_take (i := 12) (oi := _) (v := ?_) (by simp only [List.getElem?_toArray, List.getElem?_cons_succ, List.getElem?_cons_zero]; rfl) (by kernel_rfl) (by kernel_rfl) (by kernel_rfl) (by intro _ _ _ h; exact h) (Or.inl ⟨by rfl, ?_⟩) ?_
              rotate_left
              focus (intro w; go_simp; try with_reducible rfl)
              (try simp only [Act.put, List.setIfInBounds_toArray, List.set_cons_zero, List.set_cons_succ])
              refine wpAny_done (by kernel_rfl) ?_ _
              exact h2.out _ _ ⟨HB.out, HG.out⟩
            exact AllReady.nil
          exact AllReady.nil
        exact AllReady.nil
      refine AllReady.cons rfl (fun K hK => ?_) ?_
      · have hc := cell_below HB.out XCA.out
        go_simp
        clear hc
        refine hK _ _ ?_
        clear hK K
        (try simp only [Act.put, List.setIfInBounds_toArray, List.set_cons_zero, List.set_cons_succ])
        refine wpAny_ready (rs := [0]) (by kernel_rfl) (by simp) ?_
        refine AllReady.cons rfl (fun K hK => ?_) ?_
        · rw [if_pos (by rfl)]
          refine wp_load_id (.tmp 6) rfl (w.heap.size) rfl o (idAt_below XA5.out HB.out) ho20 ?_
          go_simp
          refine hK _ _ ?_
          clear hK K
          (try simp only [Act.put, List.setIfInBounds_toArray, List.set_cons_zero, List.set_cons_succ])
          refine wpAny_ready (rs := [6]) (by kernel_rfl) (by simp) ?_
          refine AllReady.cons rfl (fun K hK => ?_) ?_
          · go_simp
            go_at_call 26
            refine (HD2.out _ (seed_below XS5.out HB.out)).mono ?_
            rintro e w2 ⟨rfl, hb2⟩
            replace HB := Lib.hid (HB.out.trans (hb2.mono HB.out.size))
            replace HG := Lib.hid (idAt_below HG.out hb2)
            clear hb2
            go_wp2_with fail
            (try simp only [Act.put, List.setIfInBounds_toArray, List.set_cons_zero, List.set_cons_succ])
            refine wpAny_take (i := 7) (oi := _) (v := ?_) (by simp only [List.getElem?_toArray, List.getElem?_cons_succ, List.getElem?_cons_zero]; rfl) (by kernel_rfl) (by kernel_rfl) (by kernel_rfl) (by intro _ _ _ h; exact h) (Or.inl ⟨by rfl, ?_⟩) ?_
            rotate_left
            focus (intro w; go_simp; try with_reducible rfl)
            (try simp only [Act.put, List.setIfInBounds_toArray, List.set_cons_zero, List.set_cons_succ])
            refine wpAny_take (i := 8) (oi := _) (v := ?_) (by simp only [List.getElem?_toArray, List.getElem?_cons_succ, List.getElem?_cons_zero]; rfl) (by kernel_rfl) (by kernel_rfl) (by kernel_rfl) (by intro _ _ _ h; exact h) (Or.inl ⟨by rfl, ?_⟩) ?_
            rotate_left
            focus (intro w; go_simp; try with_reducible rfl)
            (try simp only [Act.put, List.setIfInBounds_toArray, List.set_cons_zero, List.set_cons_succ])
            refine wpAny_take (i := 9) (oi := _) (v := ?_) (by simp only [List.getElem?_toArray, List.getElem?_cons_succ, List.getElem?_cons_zero]; rfl) (by kernel_rfl) (by kernel_rfl) (by kernel_rfl) (by intro _ _ _ h; exact h) (Or.inl ⟨by rfl, ?_⟩) ?_
            rotate_left
            focus (intro w; go_simp; try with_reducible rfl)
            (try simp only [Act.put, List.setIfInBounds_toArray, List.set_cons_zero, List.set_cons_succ])
            refine wpAny_ready (rs := [11]) (by kernel_rfl) (by simp) ?_
            refine AllReady.cons rfl (fun K hK => ?_) ?_
            · rw [if_pos (by rfl)]
              refine wp_store_id (.tmp 16) (.tmp 63) rfl _ rfl zero20 LA rfl HG.out rfl HLA.out ?_
              intro w3 hA3 hg3
              replace HB := Lib.hid (HB.out.grown hg3 HB.out.size (fun k e => by cases e; exact HGE.out))
              replace HG := Lib.hid hA3
              clear hA3 hg3
              go_simp
              refine hK _ _ ?_
              clear hK K
              (try simp only [Act.put, List.setIfInBounds_toArray, List.set_cons_zero, List.set_cons_succ])
              refine wpAny_take (i := 12) (oi := _) (v := ?_) (by simp only [List.getElem?_toArray, List.getElem?_cons_succ, List.getElem?_cons_zero]; rfl) (by kernel_rfl) (by kernel_rfl) (by kernel_rfl) (by intro _ _ _ h; exact h) (Or.inl ⟨by rfl, ?_⟩) ?_
              rotate_left
              focus (intro w; go_simp; try with_reducible rfl)
              (try simp only [Act.put, List.setIfInBounds_toArray, List.set_cons_zero, List.set_cons_succ])
              refine wpAny_done (by kernel_rfl) ?_ _
              exact h2.out _ _ ⟨HB.out, HG.out⟩
            exact AllReady.nil
          exact AllReady.nil
        exact AllReady.nil
      exact AllReady.nil
    exact AllReady.nil
  intro n7 w7 ⟨hb7, hx7⟩
  simp only [Act.put, List.setIfInBounds_toArray, List.set_cons_zero, List.set_cons_succ]
  have XA7 := Lib.hid (idAt_below XA5.out hb7)
  have XB7 := Lib.hid (idAt_below XB5.out hb7)
  have XW7 := Lib.hid (XW5.out.trans (hb7.mono XW5.out.size))
  have XS7 := Lib.hid (seed_below XT5.out hb7)
  replace XCK := Lib.hid (cell_below hb7 XCK.out)
  have XX7 := Lib.hid hx7
  clear hb7 hx7 XA5 XB5 XW5 XS5 XT5 XCA
  go_wp2_with fail
  refine wp_meetB (fun n a => ((((((((((((a.put (some 66) (idv o)).put (some 67) (.slice (some ⟨lg, 0, none⟩) xs.length lc)).put (some 68) (.int .i64 (ka : Nat))).put (some 69) (.pointer (some ⟨lg, ka, none⟩))).put (some 70) (.int .i64 (jk : Nat))).put (some 71) (.slice A3 S3.length c3)).put (some 72) (.tuple #[idv LK, .bool true])).put (some 65) (.tuple #[idv LK, .bool true])).put (some 73) (idv LK)).put (some 74) (.bool true)).put (some 18) (.pointer (some ⟨n, 0, none⟩))).put (some 19) (.bool true))) (fun n w' => Below w7.heap.size w7 w' ∧ IdAt w' n LK) ?rest8 ?first8
  case first8 =>
    intro K' h2
    simp only [Act.put, List.setIfInBounds_toArray, List.set_cons_zero, List.set_cons_succ] at h2
    replace h2 := Lib.hid h2
    have HB := Lib.hid (Below.refl w7.heap.size w7).drew
    refine wp_region_any (by kernel_rfl) ?_
    (try (change wpAny _ _ _ _ _ _ _ (World.drew _)))
    generalize World.drew w7 = wd at *
    refine wpAny_take (i := 1) (oi := _) (v := ?_) (by simp only [List.getElem?_toArray, List.getElem?_cons_succ, List.getElem?_cons_zero]; rfl) (by kernel_rfl) (by kernel_rfl) (by kernel_rfl) (by intro _ _ _ h; exact h) (Or.inl ⟨by rfl, ?_⟩) ?_
    rotate_left
    focus (intro w; go_simp; try with_reducible rfl)
    (try simp only [Act.put, List.setIfInBounds_toArray, List.set_cons_zero, List.set_cons_succ])
    refine wpAny_take (i := 2) (oi := _) (v := ?_) (by simp only [List.getElem?_toArray, List.getElem?_cons_succ, List.getElem?_cons_zero]; rfl) (by kernel_rfl) (by kernel_rfl) (by kernel_rfl) (by intro _ _ _ h; exact h) (Or.inl ⟨by rfl, ?_⟩) ?_
    rotate_left
    focus (intro w; go_simp; try with_reducible rfl)
    (try simp only [Act.put, List.setIfInBounds_toArray, List.set_cons_zero, List.set_cons_succ])
    refine wpAny_take (i := 3) (oi := _) (v := ?_) (by simp only [List.getElem?_toArray, List.getElem?_cons_succ, List.getElem?_cons_zero]; rfl) (by kernel_rfl) (by kernel_rfl) (by kernel_rfl) (by intro _ _ _ h; exact h) (Or.inl ⟨by rfl, ?_⟩) ?_
    rotate_left
    focus (intro w; go_simp; try with_reducible rfl)
    (try simp only [Act.put, List.setIfInBounds_toArray, List.set_cons_zero, List.set_cons_succ])
    refine wpAny_take (i := 5) (oi := _) (v := ?_) (by simp only [List.getElem?_toArray, List.getElem?_cons_succ, List.getElem?_cons_zero]; rfl) (by kernel_rfl) (by kernel_rfl) (by kernel_rfl) (by intro _ _ _ h; exact h) (Or.inl ⟨by rfl, ?_⟩) ?_
    rotate_left
    focus (intro w; go_simp; try with_reducible rfl)
    (try simp only [Act.put, List.setIfInBounds_toArray, List.set_cons_zero, List.set_cons_succ])
    refine wpAny_ready (rs := [0, 4, 10]) (by kernel_rfl) (by simp) ?_
    refine AllReady.cons rfl (fun K hK => ?_) ?_
    · rw [if_pos (by rfl)]
      refine wp_load_id (.tmp 6) rfl (w.heap.size) rfl o (idAt_below XA7.out HB.out) ho20 ?_
      go_simp
      refine hK _ _ ?_
      clear hK K
      (try simp only [Act.put, List.setIfInBounds_toArray, List.set_cons_zero, List.set_cons_succ])
      refine wpAny_ready (rs := [4, 10]) (by kernel_rfl) (by simp) ?_
      refine AllReady.cons rfl (fun K hK => ?_) ?_
      · have hc := cell_below HB.out XCK.out
        go_simp
        clear hc
        refine hK _ _ ?_
        clear hK K
        (try simp only [Act.put, List.setIfInBounds_toArray, List.set_cons_zero, List.set_cons_succ])
        refine wpAny_ready (rs := [6, 10]) (by kernel_rfl) (by simp) ?_
        refine AllReady.cons rfl (fun K hK => ?_) ?_
        · go_simp
          go_at_call 26
          refine (HD3.out _ (seed_below XS7.out HB.out)).mono ?_
          rintro e w2 ⟨rfl, hb2⟩
          replace HB := Lib.hid (HB.out.trans (hb2.mono HB.out.size))
          clear hb2
          go_wp2_with fail
          (try simp only [Act.put, List.setIfInBounds_toArray, List.set_cons_zero, List.set_cons_succ])
          refine wpAny_take (i := 7) (oi := _) (v := ?_) (by simp only [List.getElem?_toArray, List.getElem?_cons_succ, List.getElem?_cons_zero]; rfl) (by kernel_rfl) (by kernel_rfl) (by kernel_rfl) (by intro _ _ _ h; exact h) (Or.inl ⟨by rfl, ?_⟩) ?_
          rotate_left
          focus (intro w; go_simp; try with_reducible rfl)
          (try simp only [Act.put, List.setIfInBounds_toArray, List.set_cons_zero, List.set_cons_succ])
          refine wpAny_take (i := 8) (oi := _) (v := ?_) (by simp only [List.getElem?_toArray, List.getElem?_cons_succ, List.getElem?_cons_zero]; rfl) (by kernel_rfl) (by kernel_rfl) (by kernel_rfl) (by intro _ _ _ h; exact h) (Or.inl ⟨by rfl, ?_⟩) ?_
          rotate_left
          focus (intro w; go_simp; try with_reducible rfl)
          (try simp only [Act.put, List.setIfInBounds_toArray, List.set_cons_zero, List.set_cons_succ])
          refine wpAny_take (i := 9) (oi := _) (v := ?_) (by simp only [List.getElem?_toArray, List.getElem?_cons_succ, List.getElem?_cons_zero]; rfl) (by kernel_rfl) (by kernel_rfl) (by kernel_rfl) (by intro _ _ _ h; exact h) (Or.inl ⟨by rfl, ?_⟩) ?_
          rotate_left
          focus (intro w; go_simp; try with_reducible rfl)
          (try simp only [Act.put, List.setIfInBounds_toArray, List.set_cons_zero, List.set_cons_succ])
          refine wpAny_ready (rs := [10]) (by kernel_rfl) (by simp) ?_
          refine AllReady.cons rfl (fun K hK => ?_) ?_
          · go_simp
            have HGE := Lib.hid HB.out.size
            have HG := Lib.hid (zero_new HB.out)
            replace HB := Lib.hid (HB.out.alloc HB.out.size Z41)
            generalize World.alloc w2 Z41 = wa at *
            refine hK _ _ ?_
            clear hK K
            (try simp only [Act.put, List.setIfInBounds_toArray, List.set_cons_zero, List.set_cons_succ])
            refine wpAny_ready (rs := [11]) (by kernel_rfl) (by simp) ?_
            refine AllReady.cons rfl (fun K hK => ?_) ?_
            · rw [if_pos (by rfl)]
              refine wp_store_id (.tmp 18) (.tmp 73) rfl _ rfl zero20 LK rfl HG.out rfl HLK.out ?_
              intro w3 hA3 hg3
              replace HB := Lib.hid (HB.out.grown hg3 HB.out.size (fun k e => by cases e; exact HGE.out))
              replace HG := Lib.hid hA3
              clear hA3 hg3
              go_simp
              refine hK _ _ ?_
              clear hK K
              (try simp only [Act.put, List.setIfInBounds_toArray, List.set_cons_zero, List.set_cons_succ])
              refine wpAny_take (i := 12) (oi := _) (v := ?_) (by simp only [List.getElem?_toArray, List.getElem?_cons_succ, List.getElem?_cons_zero]; rfl) (by kernel_rfl) (by kernel_rfl) (by kernel_rfl) (by intro _ _ _ h; exact h) (Or.inl ⟨by rfl, ?_⟩) ?_
              rotate_left
              focus (intro w; go_simp; try with_reducible rfl)
              (try simp only [Act.put, List.setIfInBounds_toArray, List.set_cons_zero, List.set_cons_succ])
              refine wpAny_done (by kernel_rfl) ?_ _
              exact h2.out _ _ ⟨HB.out, HG.out⟩
            exact AllReady.nil
          exact AllReady.nil
        refine AllReady.cons rfl (fun K hK => ?_) ?_
        · go_simp
          have HGE := Lib.hid HB.out.size
          have HG := Lib.hid (zero_new HB.out)
          replace HB := Lib.hid (HB.out.alloc HB.out.size Z41)
          generalize World.alloc wd Z41 = wa at *
          refine hK _ _ ?_
          clear hK K
          (try simp only [Act.put, List.setIfInBounds_toArray, List.set_cons_zero, List.set_cons_succ])
          refine wpAny_ready (rs := [6]) (by kernel_rfl) (by simp) ?_
          refine AllReady.cons rfl (fun K hK => ?_) ?_
          · go_simp
            go_at_call 26
            refine (HD3.out _ (seed_below XS7.out HB.out)).mono ?_
            rintro e w2 ⟨rfl, hb2⟩
            replace HB := Lib.hid (HB.out.trans (hb2.mono HB.out.size))
            replace HG := Lib.hid (idAt_below HG.out hb2)
            clear hb2
            go_wp2_with fail
            (try simp only [Act.put, List.setIfInBounds_toArray, List.set_cons_zero, List.set_cons_succ])
            refine wpAny_take (i := 7) (oi := _) (v := ?_) (by simp only [List.getElem?_toArray, List.getElem?_cons_succ, List.getElem?_cons_zero]; rfl) (by kernel_rfl) (by kernel_rfl) (by kernel_rfl) (by intro _ _ _ h; exact h) (Or.inl ⟨by rfl, ?_⟩) ?_
            rotate_left
            focus (intro w; go_simp; try with_reducible rfl)
            (try simp only [Act.put, List.setIfInBounds_toArray, List.set_cons_zero, List.set_cons_succ])
            refine wpAny_take (i := 8) (oi := _) (v := ?_) (by simp only [List.getElem?_toArray, List.getElem?_cons_succ, List.getElem?_cons_zero]; rfl) (by kernel_rfl) (by kernel_rfl) (by kernel_rfl) (by intro _ _ _ h; exact h) (Or.inl ⟨by rfl, ?_⟩) ?_
            rotate_left
            focus (intro w; go_simp; try with_reducible rfl)
            (try simp only [Act.put, List.setIfInBounds_toArray, List.set_cons_zero, List.set_cons_succ])
            refine wpAny_take (i := 9) (oi := _) (v := ?_) (by simp only [List.getElem?_toArray, List.getElem?_cons_succ, List.getElem?_cons_zero]; rfl) (by kernel_rfl) (by kernel_rfl) (by kernel_rfl) (by intro _ _ _ h; exact h) (Or.inl ⟨by rfl, ?_⟩) ?_
            rotate_left
            focus (intro w; go_simp; try with_reducible rfl)
            (try simp only [Act.put, List.setIfInBounds_toArray, List.set_cons_zero, List.set_cons_succ])
            refine wpAny_ready (rs := [11]) (by kernel_rfl) (by simp) ?_
            refine AllReady.cons rfl (fun K hK => ?_) ?_
            · rw [if_pos (by rfl)]
              refine wp_store_id (.tmp 18) (.tmp 73) rfl _ rfl zero20 LK rfl HG.out rfl HLK.out ?_
              intro w3 hA3 hg3
              replace HB := Lib.hid (HB.out.grown hg3 HB.out.size (fun k e => by cases e; exact HGE.out))
              replace HG := Lib.hid hA3
              clear hA3 hg3
              go_simp
              refine hK _ _ ?_
              clear hK K
              (try simp only [Act.put, List.setIfInBounds_toArray, List.set_cons_zero, List.set_cons_succ])
              refine wpAny_take (i := 12) (oi := _) (v := ?_) (by simp only [List.getElem?_toArray, List.getElem?_cons_succ, List.getElem?_cons_zero]; rfl) (by kernel_rfl) (by kernel_rfl) (by kernel_rfl) (by intro _ _ _ h; exact h) (Or.inl ⟨by rfl, ?_⟩) ?_
              rotate_left
              focus (intro w; go_simp; try with_reducible rfl)
              (try simp only [Act.put, List.setIfInBounds_toArray, List.set_cons_zero, List.set_cons_succ])
              refine wpAny_done (by kernel_rfl) ?_ _
              exact h2.out _ _ ⟨HB.out, HG.out⟩
            exact AllReady.nil
          exact AllReady.nil
        exact AllReady.nil
      refine AllReady.cons rfl (fun K hK => ?_) ?_
      · go_simp
        have HGE := Lib.hid HB.out.size
        have HG := Lib.hid (zero_new HB.out)
        replace HB := Lib.hid (HB.out.alloc HB.out.size Z41)
        generalize World.alloc wd Z41 = wa at *
        refine hK _ _ ?_
        clear hK K
        (try simp only [Act.put, List.setIfInBounds_toArray, List.set_cons_zero, List.set_cons_succ])
        refine wpAny_ready (rs := [4]) (by kernel_rfl) (by simp) ?_
        refine AllReady.cons rfl (fun K hK => ?_) ?_
        · have hc := cell_below HB.out XCK.out
          go_simp
          clear hc
          refine hK _ _ ?_
          clear hK K
          (try simp only [Act.put, List.setIfInBounds_toArray, List.set_cons_zero, List.set_cons_succ])
          refine wpAny_ready (rs := [6]) (by kernel_rfl) (by simp) ?_
          refine AllReady.cons rfl (fun K hK => ?_) ?_
          · go_simp
            go_at_call 26
            refine (HD3.out _ (seed_below XS7.out HB.out)).mono ?_
            rintro e w2 ⟨rfl, hb2⟩
            replace HB := Lib.hid (HB.out.trans (hb2.mono HB.out.size))
            replace HG := Lib.hid (idAt_below HG.out hb2)
            clear hb2
            go_wp2_with fail
            (try simp only [Act.put, List.setIfInBounds_toArray, List.set_cons_zero, List.set_cons_succ])
            refine wpAny_take (i := 7) (oi := _) (v := ?_) (by simp only [List.getElem?_toArray, List.getElem?_cons_succ, List.getElem?_cons_zero]; rfl) (by kernel_rfl) (by kernel_rfl) (by kernel_rfl) (by intro _ _ _ h; exact h) (Or.inl ⟨by rfl, ?_⟩) ?_
            rotate_left
            focus (intro w; go_simp; try with_reducible rfl)
            (try simp only [Act.put, List.setIfInBounds_toArray, List.set_cons_zero, List.set_cons_succ])
            refine wpAny_take (i := 8) (oi := _) (v := ?_) (by simp only [List.getElem?_toArray, List.getElem?_cons_succ, List.getElem?_cons_zero]; rfl) (by kernel_rfl) (by kernel_rfl) (by kernel_rfl) (by intro _ _ _ h; exact h) (Or.inl ⟨by rfl, ?_⟩) ?_
            rotate_left
            focus (intro w; go_simp; try with_reducible rfl)
            (try simp only [Act.put, List.setIfInBounds_toArray, List.set_cons_zero, List.set_cons_succ])
            refine wpAny_take (i := 9) (oi := _) (v := ?_) (by simp only [List.getElem?_toArray, List.getElem?_cons_succ, List.getElem?_cons_zero]; rfl) (by kernel_rfl) (by kernel_rfl) (by kernel_rfl) (by intro _ _ _ h; exact h) (Or.inl ⟨by rfl, ?_⟩) ?_
            rotate_left
            focus (intro w; go_simp; try with_reducible rfl)
            (try simp only [Act.put, List.setIfInBounds_toArray, List.set_cons_zero, List.set_cons_succ])
            refine wpAny_ready (rs := [11]) (by kernel_rfl) (by simp) ?_
            refine AllReady.cons rfl (fun K hK => ?_) ?_
            · rw [if_pos (by rfl)]
              refine wp_store_id (.tmp 18) (.tmp 73) rfl _ rfl zero20 LK rfl HG.out rfl HLK.out ?_
              intro w3 hA3 hg3
              replace HB := Lib.hid (HB.out.grown hg3 HB.out.size (fun k e => by cases e; exact HGE.out))
              replace HG := Lib.hid hA3
              clear hA3 hg3
              go_simp
              refine hK _ _ ?_
              clear hK K
              (try simp only [Act.put, List.setIfInBounds_toArray, List.set_cons_zero, List.set_cons_succ])
              refine wpAny_take (i := 12) (oi := _) (v := ?_) (by simp only [List.getElem?_toArray, List.getElem?_cons_succ, List.getElem?_cons_zero]; rfl) (by kernel_rfl) (by kernel_rfl) (by kernel_rfl) (by intro _ _ _ h; exact h) (Or.inl ⟨by rfl, ?_⟩) ?_
              rotate_left
              focus (intro w; go_simp; try with_reducible rfl)
              (try simp only [Act.put, List.setIfInBounds_toArray, List.set_cons_zero, List.set_cons_succ])
              refine wpAny_done (by kernel_rfl) ?_ _
              exact h2.out _ _ ⟨HB.out, HG.out⟩
            exact AllReady.nil
          exact AllReady.nil
        exact AllReady.nil
      exact AllReady.nil
    refine AllReady.cons rfl (fun K hK => ?_) ?_
    · have hc := cell_below HB.out XCK.out
      go_simp
      clear hc
      refine hK _ _ ?_
      clear hK K
      (try simp only [Act.put, List.setIfInBounds_toArray, List.set_cons_zero, List.set_cons_succ])
      refine wpAny_ready (rs := [0, 10]) (by kernel_rfl) (by simp) ?_
      refine AllReady.cons rfl (fun K hK => ?_) ?_
      · rw [if_pos (by rfl)]
        refine wp_load_id (.tmp 6) rfl (w.heap.size) rfl o (idAt_below XA7.out HB.out) ho20 ?_
        go_simp
        refine hK _ _ ?_
        clear hK K
        (try simp only [Act.put, List.setIfInBounds_toArray, List.set_cons_zero, List.set_cons_succ])
        refine wpAny_ready (rs := [6, 10]) (by kernel_rfl) (by simp) ?_
        refine AllReady.cons rfl (fun K hK => ?_) ?_
        · go_simp
          go_at_call 26
          refine (HD3.out _ (seed_below XS7.out HB.out)).mono ?_
          rintro e w2 ⟨rfl, hb2⟩
          replace HB := Lib.hid (HB.out.trans (hb2.mono HB.out.size))
          clear hb2
          go_wp2_with fail
          (try simp only [Act.put, List.setIfInBounds_toArray, List.set_cons_zero, List.set_cons_succ])
          refine wpAny_take (i := 7) (oi := _) (v := ?_) (by simp only [List.getElem?_toArray, List.getElem?_cons_succ, List.getElem?_cons_zero]; rfl) (by kernel_rfl) (by kernel_rfl) (by kernel_rfl) (by intro _ _ _ h; exact h) (Or.inl ⟨by rfl, ?_⟩) ?_
          rotate_left
          focus (intro w; go_simp; try with_reducible rfl)
          (try simp only [Act.put, List.setIfInBounds_toArray, List.set_cons_zero, List.set_cons_succ])
          refine wpAny_take (i := 8) (oi := _) (v := ?_) (by simp only [List.getElem?_toArray, List.getElem?_cons_succ, List.getElem?_cons_zero]; rfl) (by kernel_rfl) (by kernel_rfl) (by kernel_rfl) (by intro _ _ _ h; exact h) (Or.inl ⟨by rfl, ?_⟩) ?_
          rotate_left
          focus (intro w; go_simp; try with_reducible rfl)
          (try simp only [Act.put, List.setIfInBounds_toArray, List.set_cons_zero, List.set_cons_succ])
          refine wpAny_take (i := 9) (oi := _) (v := ?_) (by simp only [List.getElem?_toArray, List.getElem?_cons_succ, List.getElem?_cons_zero]; rfl) (by kernel_rfl) (by kernel_rfl) (by kernel_rfl) (by intro _ _ _ h; exact h) (Or.inl ⟨by rfl, ?_⟩) ?_
          rotate_left
          focus (intro w; go_simp; try with_reducible rfl)
          (try simp only [Act.put, List.setIfInBounds_toArray, List.set_cons_zero, List.set_cons_succ])
          refine wpAny_ready (rs := [10]) (by kernel_rfl) (by simp) ?_
          refine AllReady.cons rfl (fun K hK => ?_) ?_
          · go_simp
            have HGE := Lib.hid HB.out.size
            have HG := Lib.hid (zero_new HB.out)
            replace HB := Lib.hid (HB.out.alloc HB.out.size Z41)
            generalize World.alloc w2 Z41 = wa at *
            refine hK _ _ ?_
            clear hK K
            (try simp only [Act.put, List.setIfInBounds_toArray, List.set_cons_zero, List.set_cons_succ])
            refine wpAny_ready (rs := [11]) (by kernel_rfl) (by simp) ?_
            refine AllReady.cons rfl (fun K hK => ?_) ?_
            · rw [if_pos (by rfl)]
              refine wp_store_id (.tmp 18) (.tmp 73) rfl _ rfl zero20 LK rfl HG.out rfl HLK.out ?_
              intro w3 hA3 hg3
              replace HB := Lib.hid (HB.out.grown hg3 HB.out.size (fun k e => by cases e; exact HGE.out))
              replace HG := Lib.hid hA3
              clear hA3 hg3
              go_simp
              refine hK _ _ ?_
              clear hK K
              (try simp only [Act.put, List.setIfInBounds_toArray, List.set_cons_zero, List.set_cons_succ])
              refine wpAny_take (i := 12) (oi := _) (v := ?_) (by simp only [List.getElem?_toArray, List.getElem?_cons_succ, List.getElem?_cons_zero]; rfl) (by kernel_rfl) (by kernel_rfl) (by kernel_rfl) (by intro _ _ _ h; exact h) (Or.inl ⟨by rfl, ?_⟩) ?_
              rotate_left
              focus (intro w; go_simp; try with_reducible rfl)
              (try simp only [Act.put, List.setIfInBounds_toArray, List.set_cons_zero, List.set_cons_succ])
              refine wpAny_done (by kernel_rfl) ?_ _
              exact h2.out _ _ ⟨HB.out, HG.out⟩
            exact AllReady.nil
          exact AllReady.nil
        refine AllReady.cons rfl (fun K hK => ?_) ?_
        · go_simp
          have HGE := Lib.hid HB.out.size
          have HG := Lib.hid (zero_new HB.out)
          replace HB := Lib.hid (HB.out.alloc HB.out.size Z41)
          generalize World.alloc wd Z41 = wa at *
          refine hK _ _ ?_
          clear hK K
          (try simp only [Act.put, List.setIfInBounds_toArray, List.set_cons_zero, List.set_cons_succ])
          refine wpAny_ready (rs := [6]) (by kernel_rfl) (by simp) ?_
          refine AllReady.cons rfl (fun K hK => ?_) ?_
          · go_simp
            go_at_call 26
            refine (HD3.out _ (seed_below XS7.out HB.out)).mono ?_
            rintro e w2 ⟨rfl, hb2⟩
            replace HB := Lib.hid (HB.out.trans (hb2.mono HB.out.size))
            replace HG := Lib.hid (idAt_below HG.out hb2)
            clear hb2
            go_wp2_with fail
            (try simp only [Act.put, List.setIfInBounds_toArray, List.set_cons_zero, List.set_cons_succ])
            refine wpAny_take (i := 7) (oi := _) (v := ?_) (by simp only [List.getElem?_toArray, List.getElem?_cons_succ, List.getElem?_cons_zero]; rfl) (by kernel_rfl) (by kernel_rfl) (by kernel_rfl) (by intro _ _ _ h; exact h) (Or.inl ⟨by rfl, ?_⟩) ?_
            rotate_left
            focus (intro w; go_simp; try with_reducible rfl)
            (try simp only [Act.put, List.setIfInBounds_toArray, List.set_cons_zero, List.set_cons_succ])
            refine wpAny_take (i := 8) (oi := _) (v := ?_) (by simp only [List.getElem?_toArray, List.getElem?_cons_succ, List.getElem?_cons_zero]; rfl) (by kernel_rfl) (by kernel_rfl) (by kernel_rfl) (by intro _ _ _ h; exact h) (Or.inl ⟨by rfl, ?_⟩) ?_
            rotate_left
            focus (intro w; go_simp; try with_reducible rfl)
            (try simp only [Act.put, List.setIfInBounds_toArray, List.set_cons_zero, List.set_cons_succ])
            refine wpAny_take (i := 9) (oi := _) (v := ?_) (by simp only [List.getElem?_toArray, List.getElem?_cons_succ, List.getElem?_cons_zero]; rfl) (by kernel_rfl) (by kernel_rfl) (by kernel_rfl) (by intro _ _ _ h; exact h) (Or.inl ⟨by rfl, ?_⟩) ?_
            rotate_left
            focus (intro w; go_simp; try with_reducible rfl)
            (try simp only [Act.put, List.setIfInBounds_toArray, List.set_cons_zero, List.set_cons_succ])
            refine wpAny_ready (rs := [11]) (by kernel_rfl) (by simp) ?_
            refine AllReady.cons rfl (fun K hK => ?_) ?_
            · rw [if_pos (by rfl)]
              refine wp_store_id (.tmp 18) (.tmp 73) rfl _ rfl zero20 LK rfl HG.out rfl HLK.out ?_
              intro w3 hA3 hg3
              replace HB := Lib.hid (HB.out.grown hg3 HB.out.size (fun k e => by cases e; exact HGE.out))
              replace HG := Lib.hid hA3
              clear hA3 hg3
              go_simp
              refine hK _ _ ?_
              clear hK K
              (try simp only [Act.put, List.setIfInBounds_toArray, List.set_cons_zero, List.set_cons_succ])
              refine wpAny_take (i := 12) (oi := _) (v := ?_) (by simp only [List.getElem?_toArray, List.getElem?_cons_succ, List.getElem?_cons_zero]; rfl) (by kernel_rfl) (by kernel_rfl) (by kernel_rfl) (by intro _ _ _ h; exact h) (Or.inl ⟨by rfl, ?_⟩) ?_
              rotate_left
              focus (intro w; go_simp; try with_reducible rfl)
              (try simp only [Act.put, List.setIfInBounds_toArray, List.set_cons_zero, List.set_cons_succ])
              refine wpAny_done (by kernel_rfl) ?_ _
              exact h2.out _ _ ⟨HB.out, HG.out⟩
            exact AllReady.nil
          exact AllReady.nil
        exact AllReady.nil
      refine AllReady.cons rfl (fun K hK => ?_) ?_
      · go_simp
        have HGE := Lib.hid HB.out.size
        have HG := Lib.hid (zero_new HB.out)
        replace HB := Lib.hid (HB.out.alloc HB.out.size Z41)
        generalize World.alloc wd Z41 = wa at *
        refine hK _ _ ?_
        clear hK K
        (try simp only [Act.put, List.setIfInBounds_toArray, List.set_cons_zero, List.set_cons_succ])
        refine wpAny_ready (rs := [0]) (by kernel_rfl) (by simp) ?_
        refine AllReady.cons rfl (fun K hK => ?_) ?_
        · rw [if_pos (by rfl)]
          refine wp_load_id (.tmp 6) rfl (w.heap.size) rfl o (idAt_below XA7.out HB.out) ho20 ?_
          go_simp
          refine hK _ _ ?_
          clear hK K
          (try simp only [Act.put, List.setIfInBounds_toArray, List.set_cons_zero, List.set_cons_succ])
          refine wpAny_ready (rs := [6]) (by kernel_rfl) (by simp) ?_
          refine AllReady.cons rfl (fun K hK => ?_) ?_
          · go_simp
            go_at_call 26
            refine (HD3.out _ (seed_below XS7.out HB.out)).mono ?_
            rintro e w2 ⟨rfl, hb2⟩
            replace HB := Lib.hid (HB.out.trans (hb2.mono HB.out.size))
            replace HG := Lib.hid (idAt_below HG.out hb2)
            clear hb2
            go_wp2_with fail
            (try simp only [Act.put, List.setIfInBounds_toArray, List.set_cons_zero, List.set_cons_succ])
            refine wpAny_take (i := 7) (oi := _) (v := ?_) (by simp only [List.getElem?_toArray, List.getElem?_cons_succ, List.getElem?_cons_zero]; rfl) (by kernel_rfl) (by kernel_rfl) (by kernel_rfl) (by intro _ _ _ h; exact h) (Or.inl ⟨by rfl, ?_⟩) ?_
            rotate_left
            focus (intro w; go_simp; try with_reducible rfl)
            (try simp only [Act.put, List.setIfInBounds_toArray, List.set_cons_zero, List.set_cons_succ])
            refine wpAny_take (i := 8) (oi := _) (v := ?_) (by simp only [List.getElem?_toArray, List.getElem?_cons_succ, List.getElem?_cons_zero]; rfl) (by kernel_rfl) (by kernel_rfl) (by kernel_rfl) (by intro _ _ _ h; exact h) (Or.inl ⟨by rfl, ?_⟩) ?_
            rotate_left
            focus (intro w; go_simp; try with_reducible rfl)
            (try simp only [Act.put, List.setIfInBounds_toArray, List.set_cons_zero, List.set_cons_succ])
            refine wpAny_take (i := 9) (oi := _) (v := ?_) (by simp only [List.getElem?_toArray, List.getElem?_cons_succ, List.getElem?_cons_zero]; rfl) (by kernel_rfl) (by kernel_rfl) (by kernel_rfl) (by intro _ _ _ h; exact h) (Or.inl ⟨by rfl, ?_⟩) ?_
            rotate_left
            focus (intro w; go_simp; try with_reducible rfl)
            (try simp only [Act.put, List.setIfInBounds_toArray, List.set_cons_zero, List.set_cons_succ])
            refine wpAny_ready (rs := [11]) (by kernel_rfl) (by simp) ?_
            refine AllReady.cons rfl (fun K hK => ?_) ?_
            · rw [if_pos (by rfl)]
              refine wp_store_id (.tmp 18) (.tmp 73) rfl _ rfl zero20 LK rfl HG.out rfl HLK.out ?_
              intro w3 hA3 hg3
              replace HB := Lib.hid (HB.out.grown hg3 HB.out.size (fun k e => by cases e; exact HGE.out))
              replace HG := Lib.hid hA3
              clear hA3 hg3
              go_simp
              refine hK _ _ ?_
              clear hK K
              (try simp only [Act.put, List.setIfInBounds_toArray, List.set_cons_zero, List.set_cons_succ])
              refine wpAny_take (i := 12) (oi := _) (v := ?_) (by simp only [List.getElem?_toArray, List.getElem?_cons_succ, List.getElem?_cons_zero]; rfl) (by kernel_rfl) (by kernel_rfl) (by kernel_rfl) (by intro _ _ _ h; exact h) (Or.inl ⟨by rfl, ?_⟩) ?_
              rotate_left
              focus (intro w; go_simp; try with_reducible rfl)
              (try simp only [Act.put, List.setIfInBounds_toArray, List.set_cons_zero, List.set_cons_succ])
              refine wpAny_done (by kernel_rfl) ?_ _
              exact h2.out _ _ ⟨HB.out, HG.out⟩
            exact AllReady.nil
          exact AllReady.nil
        exact AllReady.nil
      exact AllReady.nil
    refine AllReady.cons rfl (fun K hK => ?_) ?_
    · go_simp
      have HGE := Lib.hid HB.out.size
      have HG := Lib.hid (zero_new HB.out)
      replace HB := Lib.hid (HB.out.alloc HB.out.size Z41)
      generalize World.alloc wd Z41 = wa at *
      refine hK _ _ ?_
      clear hK K
      (try simp only [Act.put, List.setIfInBounds_toArray, List.set_cons_zero, List.set_cons_succ])
      refine wpAny_ready (rs := [0, 4]) (by kernel_rfl) (by simp) ?_
      refine AllReady.cons rfl (fun K hK => ?_) ?_
      · rw [if_pos (by rfl)]
        refine wp_load_id (.tmp 6) rfl (w.heap.size) rfl o (idAt_below XA7.out HB.out) ho20 ?_
        go_simp
        refine hK _ _ ?_
        clear hK K
        (try simp only [Act.put, List.setIfInBounds_toArray, List.set_cons_zero, List.set_cons_succ])
        refine wpAny_ready (rs := [4]) (by kernel_rfl) (by simp) ?_
        refine AllReady.cons rfl (fun K hK => ?_) ?_
        · have hc := cell_below HB.out XCK.out
          go_simp
          clear hc
          refine hK _ _ ?_
          clear hK K
          (try simp only [Act.put, List.setIfInBounds_toArray, List.set_cons_zero, List.set_cons_succ])
          refine wpAny_ready (rs := [6]) (by kernel_rfl) (by simp) ?_
          refine AllReady.cons rfl (fun K hK => ?_) ?_
          · go_simp
            go_at_call 26
            refine (HD3.out _ (seed_below XS7.out HB.out)).mono ?_
            rintro e w2 ⟨rfl, hb2⟩
            replace HB := Lib.hid (HB.out.trans (hb2.mono HB.out.size))
            replace HG := Lib.hid (idAt_below HG.out hb2)
            clear hb2
            go_wp2_with fail
            (try simp only [Act.put, List.setIfInBounds_toArray, List.set_cons_zero, List.set_cons_succ])
            refine wpAny_take (i := 7) (oi := _) (v := ?_) (by simp only [List.getElem?_toArray, List.getElem?_cons_succ, List.getElem?_cons_zero]; rfl) (by kernel_rfl) (by kernel_rfl) (by kernel_rfl) (by intro _ _ _ h; exact h) (Or.inl ⟨by rfl, ?_⟩) ?_
            rotate_left
            focus (intro w; go_simp; try with_reducible rfl)
            (try simp only [Act.put, List.setIfInBounds_toArray, List.set_cons_zero, List.set_cons_succ])
            refine wpAny_take (i := 8) (oi := _) (v := ?_) (by simp only [List.getElem?_toArray, List.getElem?_cons_succ, List.getElem?_cons_zero]; rfl) (by kernel_rfl) (by kernel_rfl) (by kernel_rfl) (by intro _ _ _ h; exact h) (Or.inl ⟨by rfl, ?_⟩) ?_
            rotate_left
            focus (intro w; go_simp; try with_reducible rfl)
            (try simp only [Act.put, List.setIfInBounds_toArray, List.set_cons_zero, List.set_cons_succ])
            refine wpAny_take (i := 9) (oi := _) (v := ?_) (by simp only [List.getElem?_toArray, List.getElem?_cons_succ, List.getElem?_cons_zero]; rfl) (by kernel_rfl) (by kernel_rfl) (by kernel_rfl) (by intro _ _ _ h; exact h) (Or.inl ⟨by rfl, ?_⟩) ?_
            rotate_left
            focus (intro w; go_simp; try with_reducible rfl)
            (try simp only [Act.put, List.setIfInBounds_toArray, List.set_cons_zero, List.set_cons_succ])
            refine wpAny_ready (rs := [11]) (by kernel_rfl) (by simp) ?_
            refine AllReady.cons rfl (fun K hK => ?_) ?_
            · rw [if_pos (by rfl)]
              refine wp_store_id (.tmp 18) (.tmp 73) rfl _ rfl zero20 LK rfl HG.out rfl HLK.out ?_
              intro w3 hA3 hg3
              replace HB := Lib.hid (HB.out.grown hg3 HB.out.size (fun k e => by cases e; exact HGE.out))
              replace HG := Lib.hid hA3
              clear hA3 hg3
              go_simp
              refine hK _ _ ?_
              clear hK K
              (try simp only [Act.put, List.setIfInBounds_toArray, List.set_cons_zero, List.set_cons_succ])
              refine wpAny_take (i := 12) (oi := _) (v := ?_) (by simp only [List.getElem?_toArray, List.getElem?_cons_succ, List.getElem?_cons_zero]; rfl) (by kernel_rfl) (by kernel_rfl) (by kernel_rfl) (by intro _ _ _ h; exact h) (Or.inl ⟨by rfl, ?_⟩) ?_
              rotate_left
              focus (intro w; go_simp; try with_reducible rfl)
              (try simp only [Act.put, List.setIfInBounds_toArray, List.set_cons_zero, List.set_cons_succ])
              refine wpAny_done (by kernel_rfl) ?_ _
              exact h2.out _ _ ⟨HB.out, HG.out⟩
            exact AllReady.nil
          exact AllReady.nil
        exact AllReady.nil
      refine AllReady.cons rfl (fun K hK => ?_) ?_
      · have hc := cell_below HB.out XCK.out
        go_simp
        clear hc
        refine hK _ _ ?_
        clear hK K
        (try simp only [Act.put, List.setIfInBounds_toArray, List.set_cons_zero, List.set_cons_succ])
        refine wpAny_ready (rs := [0]) (by kernel_rfl) (by simp) ?_
        refine AllReady.cons rfl (fun K hK => ?_) ?_
        · rw [if_pos (by rfl)]
          refine wp_load_id (.tmp 6) rfl (w.heap.size) rfl o (idAt_below XA7.out HB.out) ho20 ?_
          go_simp
          refine hK _ _ ?_
          clear hK K
          (try simp only [Act.put, List.setIfInBounds_toArray, List.set_cons_zero, List.set_cons_succ])
          refine wpAny_ready (rs := [6]) (by kernel_rfl) (by simp) ?_
          refine AllReady.cons rfl (fun K hK => ?_) ?_
          · go_simp
            go_at_call 26
            refine (HD3.out _ (seed_below XS7.out HB.out)).mono ?_
            rintro e w2 ⟨rfl, hb2⟩
            replace HB := Lib.hid (HB.out.trans (hb2.mono HB.out.size))
            replace HG := Lib.hid (idAt_below HG.out hb2)
            clear hb2
            go_wp2_with fail
            (try simp only [Act.put, List.setIfInBounds_toArray, List.set_cons_zero, List.set_cons_succ])
            refine wpAny_take (i := 7) (oi := _) (v := ?_) (by simp only [List.getElem?_toArray, List.getElem?_cons_succ, List.getElem?_cons_zero]; rfl) (by kernel_rfl) (by kernel_rfl) (by kernel_rfl) (by intro _ _ _ h; exact h) (Or.inl ⟨by rfl, ?_⟩) ?_
            rotate_left
            focus (intro w; go_simp; try with_reducible rfl)
            (try simp only [Act.put, List.setIfInBounds_toArray, List.set_cons_zero, List.set_cons_succ])
            refine wpAny_take (i := 8) (oi := _) (v := ?_) (by simp only [List.getElem?_toArray, List.getElem?_cons_succ, List.getElem?_cons_zero]; rfl) (by kernel_rfl) (by kernel_rfl) (by kernel_rfl) (by intro _ _ _ h; exact h) (Or.inl ⟨by rfl, ?_⟩) ?_
            rotate_left
            focus (intro w; go_simp; try with_reducible rfl)
            (try simp only [Act.put, List.setIfInBounds_toArray, List.set_cons_zero, List.set_cons_succ])
            refine wpAny_take (i := 9) (oi := _) (v := ?_) (by simp only [List.getElem?_toArray, List.getElem?_cons_succ, List.getElem?_cons_zero]; rfl) (by kernel_rfl) (by kernel_rfl) (by kernel_rfl) (by intro _ _ _ h; exact h) (Or.inl ⟨by rfl, ?_⟩) ?_
            rotate_left
            focus (intro w; go_simp; try with_reducible rfl)
            (try simp only [Act.put, List.setIfInBounds_toArray, List.set_cons_zero, List.set_cons_succ])
            refine wpAny_ready (rs := [11]) (by kernel_rfl) (by simp) ?_
            refine AllReady.cons rfl (fun K hK => ?_) ?_
            · rw [if_pos (by rfl)]
              refine wp_store_id (.tmp 18) (.tmp 73) rfl _ rfl zero20 LK rfl HG.out rfl HLK.out ?_
              intro w3 hA3 hg3
              replace HB := Lib.hid (HB.out.grown hg3 HB.out.size (fun k e => by cases e; exact HGE.out))
              replace HG := Lib.hid hA3
              clear hA3 hg3
              go_simp
              refine hK _ _ ?_
              clear hK K
              (try simp only [Act.put, List.setIfInBounds_toArray, List.set_cons_zero, List.set_cons_succ])
              refine wpAny_take (i := 12) (oi := _) (v := ?_) (by simp only [List.getElem?_toArray, List.getElem?_cons_succ, List.getElem?_cons_zero]; rfl) (by kernel_rfl) (by kernel_rfl) (by kernel_rfl) (by intro _ _ _ h; exact h) (Or.inl ⟨by rfl, ?_⟩) ?_
              rotate_left
              focus (intro w; go_simp; try with_reducible rfl)
              (try simp only [Act.put, List.setIfInBounds_toArray, List.set_cons_zero, List.set_cons_succ])
              refine wpAny_done (by kernel_rfl) ?_ _
              exact h2.out _ _ ⟨HB.out, HG.out⟩
            exact AllReady.nil
          exact AllReady.nil
        exact AllReady.nil
      exact AllReady.nil
    exact AllReady.nil
  intro n8 w8 ⟨hb8, hx8⟩
  simp only [Act.put, List.setIfInBounds_toArray, List.set_cons_zero, List.set_cons_succ]
  have XA8 := Lib.hid (idAt_below XA7.out hb8)
  have XB8 := Lib.hid (idAt_below XB7.out hb8)
  have XW8 := Lib.hid (XW7.out.trans (hb8.mono XW7.out.size))
  have XX8 := Lib.hid (idAt_below XX7.out hb8)
  have XY8 := Lib.hid hx8
  clear hb8 hx8 XA7 XB7 XW7 XX7 XS7 XCK HD2 HD3
  have HM1 : Hid (∀ W (y : List Nat), (y = o ∨ (ia < ka ∧ y = LK)) → Calls Try.prog 27 #[idv t, idv LA, idv y] W fun e w' => e = .returned (.int .i64 (-1)) ∧ Below W.heap.size W w') := fun W y hy => by
    rcases hy with rfl | ⟨h, rfl⟩
    · have := rmetric t LA y W HT.out HIA.out HO.out
      rwa [HOW.out] at this
    · have := rmetric t LA y W HT.out HIA.out HIK.out
      rwa [HLT.out h] at this
  have HB := Lib.hid (Below.refl w8.heap.size w8)
  clear HLT HOW
  by_cases hge : ka ≤ ia
  · have hge' : (ka : Int) ≤ (ia : Int) := by omega
    clear hge
    go_wp2_with (first
      | (refine wl_load rfl (.tmp 7) rfl (w.heap.size + 1) rfl t (idAt_below XB8.out HB.out) ht20 ?_)
      | (refine wl_load rfl (.tmp 16) rfl n7 rfl LA (idAt_below XX8.out HB.out) HLA.out ?_)
      | (refine wl_load rfl (.tmp 6) rfl w.heap.size rfl o (idAt_below XA8.out HB.out) ho20 ?_)
      | (go_at_call 27; refine (HM1.out _ _ (Or.inl rfl)).mono ?_; rintro e w9 ⟨rfl, hb9⟩; replace HB := Lib.hid (HB.out.trans (hb9.mono HB.out.size)); clear hb9)
      | (go_at_call 24; refine (rlives _).mono ?_; rintro e w9 ⟨rfl, hb9⟩; replace HB := Lib.hid (HB.out.trans (hb9.mono HB.out.size)); clear hb9))
    go_ret
    exact ⟨rfl, XW8.out.trans (HB.out.mono XW8.out.size)⟩
  · have hge' : (ia : Int) < (ka : Int) := by omega
    have hlt : ia < ka := by omega
    have HLT := Lib.hid hlt
    have hge2 : decide (ka ≤ ia) = false := decide_eq_false hge
    have hge3 : decide ((ka : Int) ≤ (ia : Int)) = false := decide_eq_false (by omega)
    clear hge
    go_wp2_with (first
      | (refine wl_load rfl (.tmp 7) rfl (w.heap.size + 1) rfl t (idAt_below XB8.out HB.out) ht20 ?_)
      | (refine wl_load rfl (.tmp 16) rfl n7 rfl LA (idAt_below XX8.out HB.out) HLA.out ?_)
      | (refine wl_load rfl (.tmp 18) rfl n8 rfl LK (idAt_below XY8.out HB.out) HLK.out ?_)
      | (refine wl_load rfl (.tmp 6) rfl w.heap.size rfl o (idAt_below XA8.out HB.out) ho20 ?_)
      | (go_at_call 27; refine (HM1.out _ _ (by first | exact Or.inl rfl | exact Or.inr ⟨HLT.out, rfl⟩)).mono ?_; rintro e w9 ⟨rfl, hb9⟩; replace HB := Lib.hid (HB.out.trans (hb9.mono HB.out.size)); clear hb9)
      | (go_at_call 24; refine (rlives _).mono ?_; rintro e w9 ⟨rfl, hb9⟩; replace HB := Lib.hid (HB.out.trans (hb9.mono HB.out.size)); clear hb9))
    go_ret
    exact ⟨rfl, XW8.out.trans (HB.out.mono XW8.out.size)⟩
end Go.Proofs.Ytcgfednoolkhkaa
