/-
  span: SpanDraws' walk.
-/
import Derived.Test.YtcgfednoolkhkaaSpI
namespace Go.Proofs.Ytcgfednoolkhkaa
open Go.RowKit
set_option linter.unusedVariables false
set_option linter.unusedSimpArgs false
set_option maxRecDepth 100000
theorem idx_yes {o t : List Nat} (h : ¬ o = t) : idxN o t = pref (xorL o t) ∧ idxB o t = true := ⟨if_neg h, by show (!decide (o = t)) = true; rw [decide_eq_false h]; rfl⟩
theorem idx_no {o t : List Nat} (h : o = t) : idxB o t = false := by show (!decide (o = t)) = false; rw [decide_eq_true h]; rfl
theorem laid_ne {o : List Nat} (ho : Id o) (i : Nat) (hi : i < 160) (f : Nat → Int) : ¬ o = laidL o i f := fun e => by
  have := pref_laid ho i hi f
  rw [(pref_same ho (id_laid ho i f)).2 e] at this
  omega
theorem has_laid {o : List Nat} (ho : Id o) (i : Nat) (hi : i < 160) (f : Nat → Int) : hasB o i (laidL o i f) = true := by
  obtain ⟨h1, h2⟩ := idx_yes (laid_ne ho i hi f)
  rw [hasB, h1, h2, pref_laid ho i hi f]
  simp
/-- What the half behind the bucket's own acts wants. -/
structure Ends (o t : List Nat) (n : Nat) (L H : List Nat) : Prop where
  lid : Id L
  hid : Id H
  draw : ∀ (W : World) (b : Nat), IdAt W b t → Calls Try.prog 26 #[idv o, .int .i64 (n : Int), .slice (some ⟨b, 0, none⟩) 20 20] W fun e w' => e = .returned (.tuple #[idv t, .bool true]) ∧ Below W.heap.size W w'
  low : ∀ W : World, Calls Try.prog 28 #[idv o, .int .i64 (n : Int)] W fun e w' => e = .returned (.tuple #[idv L, .bool true]) ∧ Below W.heap.size W w'
  high : ∀ W : World, Calls Try.prog 29 #[idv o, .int .i64 (n : Int)] W fun e w' => e = .returned (.tuple #[idv H, .bool true]) ∧ Below W.heap.size W w'
  cl : cmpN L t ≤ 0
  ch : cmpN t H ≤ 0
theorem ends {o t : List Nat} (ho : Id o) (ht : Id t) (h : ¬ o = t) : Ends o t (pref (xorL o t)) (laidL o (pref (xorL o t) : Nat) fun _ => 0) (laidL o (pref (xorL o t) : Nat) fun _ => 1) := by
  have hp : pref (xorL o t) < 160 := by
    have := pref_le (xorL o t)
    rcases Nat.lt_or_ge (pref (xorL o t)) 160 with h1 | h1
    · exact h1
    · exact absurd ((pref_same ho ht).1 (by omega)) h
  have hB : laidB (pref (xorL o t) : Nat) = true := decide_eq_true (by omega)
  refine ⟨id_laid ho _ _, id_laid ho _ _, fun W b hb => ?_, fun W => ?_, fun W => ?_, laid_low ho ht hp, laid_high ho ht hp⟩
  · have := rdraw o t (pref (xorL o t) : Nat) (some ⟨b, 0, none⟩) 20 W ho (seed_id hb ht)
    rwa [laid_own ho ht hp, hB, ht.1] at this
  · have := rlow o (pref (xorL o t) : Nat) W ho
    rwa [hB] at this
  · have := rhigh o (pref (xorL o t) : Nat) W ho
    rwa [hB] at this
/-- What the first half wants: of whatever number. -/
structure Acts (o : List Nat) (i : Int) (A : Option Addr) (S : List Nat) (c : Nat) (B : Bool) (X L H : List Nat) : Prop where
  xid : Id X
  lid : Id L
  hid : Id H
  draw : ∀ W : World, Seed W A S → Calls Try.prog 26 #[idv o, .int .i64 i, .slice A S.length c] W fun e w' => e = .returned (.tuple #[idv X, .bool B]) ∧ Below W.heap.size W w'
  low : ∀ W : World, Calls Try.prog 28 #[idv o, .int .i64 i] W fun e w' => e = .returned (.tuple #[idv L, .bool B]) ∧ Below W.heap.size W w'
  high : ∀ W : World, Calls Try.prog 29 #[idv o, .int .i64 i] W fun e w' => e = .returned (.tuple #[idv H, .bool B]) ∧ Below W.heap.size W w'
  has : B = true → hasB o i X = true
  cl : B = true → cmpN L X ≤ 0
  ch : B = true → cmpN X H ≤ 0
theorem acts {o S : List Nat} (ho : Id o) (i : Int) (A : Option Addr) (c : Nat) (B : Bool) (hB : B = laidB i) : Acts o i A S c B (laidL o i fun k => (bit (fromL S) k : Nat)) (laidL o i fun _ => 0) (laidL o i fun _ => 1) := by
  subst hB
  have key : laidB i = true → ∃ k : Nat, i = k ∧ k < 160 := fun h => by
    have := of_decide_eq_true h
    exact ⟨i.toNat, by omega, by omega⟩
  refine ⟨id_laid ho _ _, id_laid ho _ _, id_laid ho _ _, fun W hS => rdraw o S i A c W ho hS, fun W => rlow o i W ho, fun W => rhigh o i W ho, fun h => ?_, fun h => ?_, fun h => ?_⟩
  all_goals obtain ⟨k, rfl, hk⟩ := key h
  · exact has_laid ho k hk _
  · exact laid_le ho k hk _ _ (fun j _ => by simp [b01])
  · exact laid_le ho k hk _ _ (fun j _ => by rw [show b01 1 = 1 from rfl]; exact b01_le _)
set_option maxHeartbeats 4000000 in
theorem span_draws (o t : List Nat) (A : Option Addr) (c : Nat) (S : List Nat) (i : Int) (w : World) (ho : Id o) (ht : Id t) (hs : Seed w A S) (hl0 : ¬ 100 < S.length) (B : Bool) (hB : B = laidB i) :
    Calls Try.prog 7 #[idv o, idv t, .int .i64 i, .slice A S.length c] w fun e w' => e = .returned (.bool true) ∧ Below w.heap.size w w' := by
  obtain ⟨hA2, hB2, hb2⟩ := id2_new w o t
  have XA := Lib.hid hA2
  have XB := Lib.hid hB2
  have XW := Lib.hid hb2
  have XS := Lib.hid hs
  have HO := Lib.hid ho
  have HT := Lib.hid ht
  have ho20 := ho.1
  have ht20 := ht.1
  obtain ⟨hx, hl, hh, hdr, hlo, hhi, hhas, hcl, hch⟩ := acts (S := S) ho i A c B hB
  have HIX := Lib.hid hx
  have HIL := Lib.hid hl
  have HIH := Lib.hid hh
  have HDR := Lib.hid hdr
  have HLO := Lib.hid hlo
  have HHI := Lib.hid hhi
  have HHS := Lib.hid hhas
  have HCL := Lib.hid hcl
  have HCH := Lib.hid hch
  have HIN := Lib.hid (fun W => rindex o t W ho ht)
  have HBB := Lib.hid hB
  clear hA2 hB2 hb2 hs ho ht hx hl hh hdr hlo hhi hhas hcl hch hB
  generalize (laidL o i fun k => (bit (fromL S) k : Nat)) = X at *
  generalize (laidL o i fun _ => 0) = L at *
  generalize (laidL o i fun _ => 1) = H at *
  have hx20 := HIX.out.1
  have hl20 := HIL.out.1
  have hh20 := HIH.out.1
  unfold idv
  generalize hCa : (idc o).toArray = Ca at *
  generalize hCb : (idc t).toArray = Cb at *
  go_enter Try.func7, Try.ntmps7
  go_upto_region 3 with fail
  obtain ⟨W2, hW2⟩ : ∃ W2, W2 = (w.alloc (.cells Ca 41)).alloc (.cells Cb 41) := ⟨_, rfl⟩
  rw [← hW2] at XA XB XW ⊢
  clear hW2
  replace XS := Lib.hid (seed_below XS.out XW.out)
  subst hCa hCb
  go_upto_region 4 with (first
    | (refine wpList_load_id rfl (.tmp 4) rfl w.heap.size rfl o XA.out ho20 ?_)
    | (go_at_call 26; refine (HDR.out _ XS.out).mono ?_; rintro e w3 ⟨rfl, hbk⟩)
    | (refine wpList_store_id rfl (.tmp 9) (.tmp 32) rfl w3.heap.size rfl zero20 X rfl (idAt_zero w3) rfl hx20 ?_; intro w4 hAj hgj))
  have hbj := below_step hbk hbk.size hgj
  generalize w3.heap.size = n4 at *
  replace XA := Lib.hid (idAt_below XA.out hbj)
  replace XB := Lib.hid (idAt_below XB.out hbj)
  replace XW := Lib.hid (XW.out.trans (hbj.mono XW.out.size))
  have Yn4 := Lib.hid hAj
  clear hbk hgj hbj hAj
  go_upto_region 5 with (first
    | (refine wpList_load_id rfl (.tmp 4) rfl w.heap.size rfl o XA.out ho20 ?_)
    | (go_at_call 28; refine (HLO.out _).mono ?_; rintro e w5 ⟨rfl, hbk⟩)
    | (refine wpList_store_id rfl (.tmp 11) (.tmp 38) rfl w5.heap.size rfl zero20 L rfl (idAt_zero w5) rfl hl20 ?_; intro w6 hAj hgj))
  have hbj := below_step hbk hbk.size hgj
  generalize w5.heap.size = n6 at *
  replace XA := Lib.hid (idAt_below XA.out hbj)
  replace XB := Lib.hid (idAt_below XB.out hbj)
  replace XW := Lib.hid (XW.out.trans (hbj.mono XW.out.size))
  replace Yn4 := Lib.hid (idAt_below Yn4.out hbj)
  have Yn6 := Lib.hid hAj
  clear hbk hgj hbj hAj
  go_upto_region 6 with (first
    | (refine wpList_load_id rfl (.tmp 4) rfl w.heap.size rfl o XA.out ho20 ?_)
    | (go_at_call 29; refine (HHI.out _).mono ?_; rintro e w7 ⟨rfl, hbk⟩)
    | (refine wpList_store_id rfl (.tmp 13) (.tmp 44) rfl w7.heap.size rfl zero20 H rfl (idAt_zero w7) rfl hh20 ?_; intro w8 hAj hgj))
  have hbj := below_step hbk hbk.size hgj
  generalize w7.heap.size = n8 at *
  replace XA := Lib.hid (idAt_below XA.out hbj)
  replace XB := Lib.hid (idAt_below XB.out hbj)
  replace XW := Lib.hid (XW.out.trans (hbj.mono XW.out.size))
  replace Yn4 := Lib.hid (idAt_below Yn4.out hbj)
  replace Yn6 := Lib.hid (idAt_below Yn6.out hbj)
  have Yn8 := Lib.hid hAj
  clear hbk hgj hbj hAj
  have h3 : (i < 0 ∧ B = false) ∨ (160 ≤ i ∧ B = false) ∨ (0 ≤ i ∧ i < 160 ∧ B = true) := by
    rcases Int.lt_or_le i 0 with h | h
    · exact .inl ⟨h, HBB.out.trans (decide_eq_false (by omega))⟩
    · rcases Int.lt_or_le i 160 with h' | h'
      · exact .inr (.inr ⟨h, h', HBB.out.trans (decide_eq_true (by omega))⟩)
      · exact .inr (.inl ⟨h', HBB.out.trans (decide_eq_false (by omega))⟩)
  have HRE : Hid (∀ W, Calls Try.prog 30 #[idv o, .int .i64 i, idv X] W fun e w' => e = .returned (.bool (hasB o i X)) ∧ Below W.heap.size W w') := fun W => rhas o X i W HO.out HIX.out
  have HC1 : Hid (∀ W, Calls Try.prog 31 #[idv L, idv X] W fun e w' => e = .returned (.int .i64 (cmpN L X)) ∧ Below W.heap.size W w') := fun W => rcmp L X W HIL.out HIX.out
  have HC2 : Hid (∀ W, Calls Try.prog 31 #[idv X, idv H] W fun e w' => e = .returned (.int .i64 (cmpN X H)) ∧ Below W.heap.size W w') := fun W => rcmp X H W HIX.out HIH.out
  have HB := Lib.hid (Below.refl w8.heap.size w8)
  clear HBB HDR HLO HHI
  rcases h3 with ⟨h, rfl⟩ | ⟨h, rfl⟩ | ⟨h, h', rfl⟩
  focus
    clear HRE HC1 HC2 HHS HCL HCH
    go_upto_region 10 with fail
  rotate_left
  focus
    have h0 : 0 ≤ i := by omega
    clear HRE HC1 HC2 HHS HCL HCH
    go_upto_region 10 with fail
  rotate_left
  focus
    rw [HHS.out rfl] at HRE
    have g1 := HCL.out rfl
    have g2 := HCH.out rfl
    generalize cmpN L X = q1 at *
    generalize cmpN X H = q2 at *
    have gg1 : decide (0 < q1) = false := decide_eq_false (by omega)
    have gg2 : decide (0 < q2) = false := decide_eq_false (by omega)
    clear HHS HCL HCH
    go_upto_region 10 with (first
      | (refine wl_load rfl (.tmp 4) rfl w.heap.size rfl o (idAt_below XA.out HB.out) ho20 ?_)
      | (refine wl_load rfl (.tmp 9) rfl n4 rfl X (idAt_below Yn4.out HB.out) hx20 ?_)
      | (refine wl_load rfl (.tmp 11) rfl n6 rfl L (idAt_below Yn6.out HB.out) hl20 ?_)
      | (refine wl_load rfl (.tmp 13) rfl n8 rfl H (idAt_below Yn8.out HB.out) hh20 ?_)
      | (go_at_call 30; refine (HRE.out _).mono ?_; rintro e w9 ⟨rfl, hb9⟩; replace HB := Lib.hid (HB.out.trans (hb9.mono HB.out.size)); clear hb9)
      | (go_at_call 31; refine (HC1.out _).mono ?_; rintro e w9 ⟨rfl, hb9⟩; replace HB := Lib.hid (HB.out.trans (hb9.mono HB.out.size)); clear hb9; clear HC1)
      | (go_at_call 31; refine (HC2.out _).mono ?_; rintro e w9 ⟨rfl, hb9⟩; replace HB := Lib.hid (HB.out.trans (hb9.mono HB.out.size)); clear hb9))
  all_goals
    by_cases hot : o = t
    · have HOT := Lib.hid hot
      have HIN2 : Hid (∀ W, Calls Try.prog 32 #[idv o, idv t] W fun e w' => e = .returned (.tuple #[.int .i64 (idxN o t : Nat), .bool false]) ∧ Below W.heap.size W w') := fun W => by
        have := HIN.out W
        rwa [idx_no hot] at this
      clear hot HIN
      generalize idxN o t = n at *
      go_wp2_with (first
        | (refine wl_load rfl (.tmp 4) rfl w.heap.size rfl o (idAt_below XA.out HB.out) ho20 ?_)
        | (refine wl_load rfl (.tmp 5) rfl (w.heap.size + 1) rfl t (idAt_below XB.out HB.out) ht20 ?_)
        | (go_at_call 32; refine (HIN2.out _).mono ?_; rintro e w10 ⟨rfl, hb10⟩; replace HB := Lib.hid (HB.out.trans (hb10.mono HB.out.size)); clear hb10)
        | (refine wl_same rfl (.tmp 92) (.tmp 93) rfl o t rfl rfl ho20 HOT.out ?_)
        | (go_at_call 24; refine (rlives _).mono ?_; rintro e w10 ⟨rfl, hb10⟩; replace HB := Lib.hid (HB.out.trans (hb10.mono HB.out.size)); clear hb10))
      go_ret
      exact ⟨rfl, XW.out.trans (HB.out.mono XW.out.size)⟩
    · obtain ⟨elid, ehid, edraw, elow, ehigh, ecl, ech⟩ := ends HO.out HT.out hot
      have HIN2 : Hid (∀ W, Calls Try.prog 32 #[idv o, idv t] W fun e w' => e = .returned (.tuple #[.int .i64 (pref (xorL o t) : Nat), .bool true]) ∧ Below W.heap.size W w') := fun W => by
        have := HIN.out W
        rwa [(idx_yes hot).1, (idx_yes hot).2] at this
      have HEL := Lib.hid elid
      have HEH := Lib.hid ehid
      have hel20 := elid.1
      have heh20 := ehid.1
      have HDR := Lib.hid edraw
      have HLO := Lib.hid elow
      have HHI := Lib.hid ehigh
      clear hot HIN elid ehid edraw elow ehigh
      generalize (laidL o (pref (xorL o t) : Nat) fun _ => 0) = EL at *
      generalize (laidL o (pref (xorL o t) : Nat) fun _ => 1) = EH at *
      generalize pref (xorL o t) = n at *
      have HC1 : Hid (∀ W, Calls Try.prog 31 #[idv EL, idv t] W fun e w' => e = .returned (.int .i64 (cmpN EL t)) ∧ Below W.heap.size W w') := fun W => rcmp EL t W HEL.out HT.out
      have HC2 : Hid (∀ W, Calls Try.prog 31 #[idv t, idv EH] W fun e w' => e = .returned (.int .i64 (cmpN t EH)) ∧ Below W.heap.size W w') := fun W => rcmp t EH W HT.out HEH.out
      generalize cmpN EL t = r1 at *
      generalize cmpN t EH = r2 at *
      have gr1 : decide (r1 ≤ 0) = true := decide_eq_true (by omega)
      have gr2 : decide (r2 ≤ 0) = true := decide_eq_true (by omega)
      go_wp2_with (first
        | (refine wl_load rfl (.tmp 4) rfl w.heap.size rfl o (idAt_below XA.out HB.out) ho20 ?_)
        | (refine wl_load rfl (.tmp 5) rfl (w.heap.size + 1) rfl t (idAt_below XB.out HB.out) ht20 ?_)
        | (go_at_call 32; refine (HIN2.out _).mono ?_; rintro e w10 ⟨rfl, hb10⟩; replace HB := Lib.hid (HB.out.trans (hb10.mono HB.out.size)); clear hb10))
      replace XA := Lib.hid (idAt_below XA.out HB.out)
      replace XB := Lib.hid (idAt_below XB.out HB.out)
      replace XW := Lib.hid (XW.out.trans (HB.out.mono XW.out.size))
      clear HB Yn4 Yn6 Yn8
      refine wp_meetB (fun nn a => (((((((((a.put (some 99) (idv o)).put (some 100) (.int .i64 (n : Nat))).put (some 101) (.slice (some ⟨w.heap.size + 1, 0, none⟩) 20 20)).put (some 102) (.tuple #[idv t, .bool true])).put (some 98) (.tuple #[idv t, .bool true])).put (some 103) (idv t)).put (some 104) (.bool true)).put (some 17) (.pointer (some ⟨nn, 0, none⟩))).put (some 18) (.bool true))) (fun n w' => Below w10.heap.size w10 w' ∧ IdAt w' n t) ?_ ?_
      rotate_left
      · intro K' h2
        simp only [Act.put, List.setIfInBounds_toArray, List.set_cons_zero, List.set_cons_succ] at h2
        replace h2 := Lib.hid h2
        have HB := Lib.hid (Below.refl w10.heap.size w10).drew
        refine wp_region_any (by kernel_rfl) ?_
        (try (change wpAny _ _ _ _ _ _ _ (World.drew _)))
        generalize World.drew w10 = wd at *
        refine wpAny_take (i := 1) (oi := _) (v := ?_) (by simp only [List.getElem?_toArray, List.getElem?_cons_succ, List.getElem?_cons_zero]; rfl) (by kernel_rfl) (by kernel_rfl) (by kernel_rfl) (by intro _ _ _ h; exact h) (Or.inl ⟨by rfl, ?_⟩) ?_
        rotate_left
        focus (intro w; go_simp; try with_reducible rfl)
        (try simp only [Act.put, List.setIfInBounds_toArray, List.set_cons_zero, List.set_cons_succ])
        refine wpAny_take (i := 2) (oi := _) (v := ?_) (by simp only [List.getElem?_toArray, List.getElem?_cons_succ, List.getElem?_cons_zero]; rfl) (by kernel_rfl) (by kernel_rfl) (by kernel_rfl) (by intro _ _ _ h; exact h) (Or.inl ⟨by rfl, ?_⟩) ?_
        rotate_left
        focus (intro w; go_simp; try with_reducible rfl)
        (try simp only [Act.put, List.setIfInBounds_toArray, List.set_cons_zero, List.set_cons_succ])
        refine wpAny_ready (rs := [0, 7]) (by kernel_rfl) (by simp) ?_
        refine AllReady.cons rfl (fun K hK => ?_) ?_
        · rw [if_pos (by rfl)]
          refine wp_load_id (.tmp 4) rfl (w.heap.size) rfl o (idAt_below XA.out HB.out) ho20 ?_
          go_simp
          refine hK _ _ ?_
          clear hK K
          (try simp only [Act.put, List.setIfInBounds_toArray, List.set_cons_zero, List.set_cons_succ])
          refine wpAny_ready (rs := [3, 7]) (by kernel_rfl) (by simp) ?_
          refine AllReady.cons rfl (fun K hK => ?_) ?_
          · go_simp
            go_at_call 26
            refine (HDR.out _ _ (idAt_below XB.out HB.out)).mono ?_
            rintro e w2 ⟨rfl, hb2⟩
            replace HB := Lib.hid (HB.out.trans (hb2.mono HB.out.size))
            clear hb2
            go_wp2_with fail
            (try simp only [Act.put, List.setIfInBounds_toArray, List.set_cons_zero, List.set_cons_succ])
            refine wpAny_take (i := 4) (oi := _) (v := ?_) (by simp only [List.getElem?_toArray, List.getElem?_cons_succ, List.getElem?_cons_zero]; rfl) (by kernel_rfl) (by kernel_rfl) (by kernel_rfl) (by intro _ _ _ h; exact h) (Or.inl ⟨by rfl, ?_⟩) ?_
            rotate_left
            focus (intro w; go_simp; try with_reducible rfl)
            (try simp only [Act.put, List.setIfInBounds_toArray, List.set_cons_zero, List.set_cons_succ])
            refine wpAny_take (i := 5) (oi := _) (v := ?_) (by simp only [List.getElem?_toArray, List.getElem?_cons_succ, List.getElem?_cons_zero]; rfl) (by kernel_rfl) (by kernel_rfl) (by kernel_rfl) (by intro _ _ _ h; exact h) (Or.inl ⟨by rfl, ?_⟩) ?_
            rotate_left
            focus (intro w; go_simp; try with_reducible rfl)
            (try simp only [Act.put, List.setIfInBounds_toArray, List.set_cons_zero, List.set_cons_succ])
            refine wpAny_take (i := 6) (oi := _) (v := ?_) (by simp only [List.getElem?_toArray, List.getElem?_cons_succ, List.getElem?_cons_zero]; rfl) (by kernel_rfl) (by kernel_rfl) (by kernel_rfl) (by intro _ _ _ h; exact h) (Or.inl ⟨by rfl, ?_⟩) ?_
            rotate_left
            focus (intro w; go_simp; try with_reducible rfl)
            (try simp only [Act.put, List.setIfInBounds_toArray, List.set_cons_zero, List.set_cons_succ])
            refine wpAny_ready (rs := [7]) (by kernel_rfl) (by simp) ?_
            refine AllReady.cons rfl (fun K hK => ?_) ?_
            · go_simp
              have HGE := Lib.hid HB.out.size
              have HG := Lib.hid (zero_new HB.out)
              replace HB := Lib.hid (HB.out.alloc HB.out.size Z41)
              generalize World.alloc w2 Z41 = wa at *
              refine hK _ _ ?_
              clear hK K
              (try simp only [Act.put, List.setIfInBounds_toArray, List.set_cons_zero, List.set_cons_succ])
              refine wpAny_ready (rs := [8]) (by kernel_rfl) (by simp) ?_
              refine AllReady.cons rfl (fun K hK => ?_) ?_
              · rw [if_pos (by rfl)]
                refine wp_store_id (.tmp 17) (.tmp 103) rfl _ rfl zero20 t rfl HG.out rfl ht20 ?_
                intro w3 hA3 hg3
                replace HB := Lib.hid (HB.out.grown hg3 HB.out.size (fun k e => by cases e; exact HGE.out))
                replace HG := Lib.hid hA3
                clear hA3 hg3
                go_simp
                refine hK _ _ ?_
                clear hK K
                (try simp only [Act.put, List.setIfInBounds_toArray, List.set_cons_zero, List.set_cons_succ])
                refine wpAny_take (i := 9) (oi := _) (v := ?_) (by simp only [List.getElem?_toArray, List.getElem?_cons_succ, List.getElem?_cons_zero]; rfl) (by kernel_rfl) (by kernel_rfl) (by kernel_rfl) (by intro _ _ _ h; exact h) (Or.inl ⟨by rfl, ?_⟩) ?_
                rotate_left
                focus (intro w; go_simp; try with_reducible rfl)
                (try simp only [Act.put, List.setIfInBounds_toArray, List.set_cons_zero, List.set_cons_succ])
                refine wpAny_done (by kernel_rfl) ?_ _
                exact h2.out _ _ ⟨HB.out, HG.out⟩
              exact AllReady.nil
            exact AllReady.nil
          refine AllReady.cons rfl (fun K hK => ?_) ?_
          · go_simp
            have HGE := Lib.hid HB.out.size
            have HG := Lib.hid (zero_new HB.out)
            replace HB := Lib.hid (HB.out.alloc HB.out.size Z41)
            generalize World.alloc wd Z41 = wa at *
            refine hK _ _ ?_
            clear hK K
            (try simp only [Act.put, List.setIfInBounds_toArray, List.set_cons_zero, List.set_cons_succ])
            refine wpAny_ready (rs := [3]) (by kernel_rfl) (by simp) ?_
            refine AllReady.cons rfl (fun K hK => ?_) ?_
            · go_simp
              go_at_call 26
              refine (HDR.out _ _ (idAt_below XB.out HB.out)).mono ?_
              rintro e w2 ⟨rfl, hb2⟩
              replace HB := Lib.hid (HB.out.trans (hb2.mono HB.out.size))
              replace HG := Lib.hid (idAt_below HG.out hb2)
              clear hb2
              go_wp2_with fail
              (try simp only [Act.put, List.setIfInBounds_toArray, List.set_cons_zero, List.set_cons_succ])
              refine wpAny_take (i := 4) (oi := _) (v := ?_) (by simp only [List.getElem?_toArray, List.getElem?_cons_succ, List.getElem?_cons_zero]; rfl) (by kernel_rfl) (by kernel_rfl) (by kernel_rfl) (by intro _ _ _ h; exact h) (Or.inl ⟨by rfl, ?_⟩) ?_
              rotate_left
              focus (intro w; go_simp; try with_reducible rfl)
              (try simp only [Act.put, List.setIfInBounds_toArray, List.set_cons_zero, List.set_cons_succ])
              refine wpAny_take (i := 5) (oi := _) (v := ?_) (by simp only [List.getElem?_toArray, List.getElem?_cons_succ, List.getElem?_cons_zero]; rfl) (by kernel_rfl) (by kernel_rfl) (by kernel_rfl) (by intro _ _ _ h; exact h) (Or.inl ⟨by rfl, ?_⟩) ?_
              rotate_left
              focus (intro w; go_simp; try with_reducible rfl)
              (try simp only [Act.put, List.setIfInBounds_toArray, List.set_cons_zero, List.set_cons_succ])
              refine wpAny_take (i := 6) (oi := _) (v := ?_) (by simp only [List.getElem?_toArray, List.getElem?_cons_succ, List.getElem?_cons_zero]; rfl) (by kernel_rfl) (by kernel_rfl) (by kernel_rfl) (by intro _ _ _ h; exact h) (Or.inl ⟨by rfl, ?_⟩) ?_
              rotate_left
              focus (intro w; go_simp; try with_reducible rfl)
              (try simp only [Act.put, List.setIfInBounds_toArray, List.set_cons_zero, List.set_cons_succ])
              refine wpAny_ready (rs := [8]) (by kernel_rfl) (by simp) ?_
              refine AllReady.cons rfl (fun K hK => ?_) ?_
              · rw [if_pos (by rfl)]
                refine wp_store_id (.tmp 17) (.tmp 103) rfl _ rfl zero20 t rfl HG.out rfl ht20 ?_
                intro w3 hA3 hg3
                replace HB := Lib.hid (HB.out.grown hg3 HB.out.size (fun k e => by cases e; exact HGE.out))
                replace HG := Lib.hid hA3
                clear hA3 hg3
                go_simp
                refine hK _ _ ?_
                clear hK K
                (try simp only [Act.put, List.setIfInBounds_toArray, List.set_cons_zero, List.set_cons_succ])
                refine wpAny_take (i := 9) (oi := _) (v := ?_) (by simp only [List.getElem?_toArray, List.getElem?_cons_succ, List.getElem?_cons_zero]; rfl) (by kernel_rfl) (by kernel_rfl) (by kernel_rfl) (by intro _ _ _ h; exact h) (Or.inl ⟨by rfl, ?_⟩) ?_
                rotate_left
                focus (intro w; go_simp; try with_reducible rfl)
                (try simp only [Act.put, List.setIfInBounds_toArray, List.set_cons_zero, List.set_cons_succ])
                refine wpAny_done (by kernel_rfl) ?_ _
                exact h2.out _ _ ⟨HB.out, HG.out⟩
              exact AllReady.nil
            exact AllReady.nil
          exact AllReady.nil
        refine AllReady.cons rfl (fun K hK => ?_) ?_
        · go_simp
          have HGE := Lib.hid HB.out.size
          have HG := Lib.hid (zero_new HB.out)
          replace HB := Lib.hid (HB.out.alloc HB.out.size Z41)
          generalize World.alloc wd Z41 = wa at *
          refine hK _ _ ?_
          clear hK K
          (try simp only [Act.put, List.setIfInBounds_toArray, List.set_cons_zero, List.set_cons_succ])
          refine wpAny_ready (rs := [0]) (by kernel_rfl) (by simp) ?_
          refine AllReady.cons rfl (fun K hK => ?_) ?_
          · rw [if_pos (by rfl)]
            refine wp_load_id (.tmp 4) rfl (w.heap.size) rfl o (idAt_below XA.out HB.out) ho20 ?_
            go_simp
            refine hK _ _ ?_
            clear hK K
            (try simp only [Act.put, List.setIfInBounds_toArray, List.set_cons_zero, List.set_cons_succ])
            refine wpAny_ready (rs := [3]) (by kernel_rfl) (by simp) ?_
            refine AllReady.cons rfl (fun K hK => ?_) ?_
            · go_simp
              go_at_call 26
              refine (HDR.out _ _ (idAt_below XB.out HB.out)).mono ?_
              rintro e w2 ⟨rfl, hb2⟩
              replace HB := Lib.hid (HB.out.trans (hb2.mono HB.out.size))
              replace HG := Lib.hid (idAt_below HG.out hb2)
              clear hb2
              go_wp2_with fail
              (try simp only [Act.put, List.setIfInBounds_toArray, List.set_cons_zero, List.set_cons_succ])
              refine wpAny_take (i := 4) (oi := _) (v := ?_) (by simp only [List.getElem?_toArray, List.getElem?_cons_succ, List.getElem?_cons_zero]; rfl) (by kernel_rfl) (by kernel_rfl) (by kernel_rfl) (by intro _ _ _ h; exact h) (Or.inl ⟨by rfl, ?_⟩) ?_
              rotate_left
              focus (intro w; go_simp; try with_reducible rfl)
              (try simp only [Act.put, List.setIfInBounds_toArray, List.set_cons_zero, List.set_cons_succ])
              refine wpAny_take (i := 5) (oi := _) (v := ?_) (by simp only [List.getElem?_toArray, List.getElem?_cons_succ, List.getElem?_cons_zero]; rfl) (by kernel_rfl) (by kernel_rfl) (by kernel_rfl) (by intro _ _ _ h; exact h) (Or.inl ⟨by rfl, ?_⟩) ?_
              rotate_left
              focus (intro w; go_simp; try with_reducible rfl)
              (try simp only [Act.put, List.setIfInBounds_toArray, List.set_cons_zero, List.set_cons_succ])
              refine wpAny_take (i := 6) (oi := _) (v := ?_) (by simp only [List.getElem?_toArray, List.getElem?_cons_succ, List.getElem?_cons_zero]; rfl) (by kernel_rfl) (by kernel_rfl) (by kernel_rfl) (by intro _ _ _ h; exact h) (Or.inl ⟨by rfl, ?_⟩) ?_
              rotate_left
              focus (intro w; go_simp; try with_reducible rfl)
              (try simp only [Act.put, List.setIfInBounds_toArray, List.set_cons_zero, List.set_cons_succ])
              refine wpAny_ready (rs := [8]) (by kernel_rfl) (by simp) ?_
              refine AllReady.cons rfl (fun K hK => ?_) ?_
              · rw [if_pos (by rfl)]
                refine wp_store_id (.tmp 17) (.tmp 103) rfl _ rfl zero20 t rfl HG.out rfl ht20 ?_
                intro w3 hA3 hg3
                replace HB := Lib.hid (HB.out.grown hg3 HB.out.size (fun k e => by cases e; exact HGE.out))
                replace HG := Lib.hid hA3
                clear hA3 hg3
                go_simp
                refine hK _ _ ?_
                clear hK K
                (try simp only [Act.put, List.setIfInBounds_toArray, List.set_cons_zero, List.set_cons_succ])
                refine wpAny_take (i := 9) (oi := _) (v := ?_) (by simp only [List.getElem?_toArray, List.getElem?_cons_succ, List.getElem?_cons_zero]; rfl) (by kernel_rfl) (by kernel_rfl) (by kernel_rfl) (by intro _ _ _ h; exact h) (Or.inl ⟨by rfl, ?_⟩) ?_
                rotate_left
                focus (intro w; go_simp; try with_reducible rfl)
                (try simp only [Act.put, List.setIfInBounds_toArray, List.set_cons_zero, List.set_cons_succ])
                refine wpAny_done (by kernel_rfl) ?_ _
                exact h2.out _ _ ⟨HB.out, HG.out⟩
              exact AllReady.nil
            exact AllReady.nil
          exact AllReady.nil
        exact AllReady.nil
      intro n13 w13 ⟨hb13, hx13⟩
      simp only [Act.put, List.setIfInBounds_toArray, List.set_cons_zero, List.set_cons_succ]
      replace XA := Lib.hid (idAt_below XA.out hb13)
      replace XB := Lib.hid (idAt_below XB.out hb13)
      replace XW := Lib.hid (XW.out.trans (hb13.mono XW.out.size))
      have Yn13 := Lib.hid hx13
      clear hb13 hx13 HDR
      go_upto_region 15 with (first
        | (refine wpList_load_id rfl (.tmp 4) rfl w.heap.size rfl o XA.out ho20 ?_)
        | (go_at_call 28; refine (HLO.out _).mono ?_; rintro e w14 ⟨rfl, hbk⟩)
        | (refine wpList_store_id rfl (.tmp 19) (.tmp 109) rfl w14.heap.size rfl zero20 EL rfl (idAt_zero w14) rfl hel20 ?_; intro w15 hAj hgj))
      have hbj := below_step hbk hbk.size hgj
      generalize w14.heap.size = n15 at *
      replace XA := Lib.hid (idAt_below XA.out hbj)
      replace XB := Lib.hid (idAt_below XB.out hbj)
      replace XW := Lib.hid (XW.out.trans (hbj.mono XW.out.size))
      replace Yn13 := Lib.hid (idAt_below Yn13.out hbj)
      have Yn15 := Lib.hid hAj
      clear hbk hgj hbj hAj
      go_upto_region 16 with (first
        | (refine wpList_load_id rfl (.tmp 4) rfl w.heap.size rfl o XA.out ho20 ?_)
        | (go_at_call 29; refine (HHI.out _).mono ?_; rintro e w16 ⟨rfl, hbk⟩)
        | (refine wpList_store_id rfl (.tmp 21) (.tmp 115) rfl w16.heap.size rfl zero20 EH rfl (idAt_zero w16) rfl heh20 ?_; intro w17 hAj hgj))
      have hbj := below_step hbk hbk.size hgj
      generalize w16.heap.size = n17 at *
      replace XA := Lib.hid (idAt_below XA.out hbj)
      replace XB := Lib.hid (idAt_below XB.out hbj)
      replace XW := Lib.hid (XW.out.trans (hbj.mono XW.out.size))
      replace Yn13 := Lib.hid (idAt_below Yn13.out hbj)
      replace Yn15 := Lib.hid (idAt_below Yn15.out hbj)
      have Yn17 := Lib.hid hAj
      clear hbk hgj hbj hAj
      have HB := Lib.hid (Below.refl w17.heap.size w17)
      clear HLO HHI HIN2
      go_wp2_with (first
        | (refine wl_load rfl (.tmp 17) rfl n13 rfl t (idAt_below Yn13.out HB.out) ht20 ?_)
        | (refine wl_load rfl (.tmp 19) rfl n15 rfl EL (idAt_below Yn15.out HB.out) hel20 ?_)
        | (refine wl_load rfl (.tmp 21) rfl n17 rfl EH (idAt_below Yn17.out HB.out) heh20 ?_)
        | (refine wl_load rfl (.tmp 5) rfl (w.heap.size + 1) rfl t (idAt_below XB.out HB.out) ht20 ?_)
        | (refine wl_same rfl (.tmp 119) (.tmp 120) rfl t t rfl rfl ht20 rfl ?_)
        | (go_at_call 31; refine (HC1.out _).mono ?_; rintro e w18 ⟨rfl, hb18⟩; replace HB := Lib.hid (HB.out.trans (hb18.mono HB.out.size)); clear hb18; clear HC1)
        | (go_at_call 31; refine (HC2.out _).mono ?_; rintro e w18 ⟨rfl, hb18⟩; replace HB := Lib.hid (HB.out.trans (hb18.mono HB.out.size)); clear hb18)
        | (go_at_call 24; refine (rlives _).mono ?_; rintro e w18 ⟨rfl, hb18⟩; replace HB := Lib.hid (HB.out.trans (hb18.mono HB.out.size)); clear hb18))
      go_ret
      exact ⟨rfl, XW.out.trans (HB.out.mono XW.out.size)⟩
end Go.Proofs.Ytcgfednoolkhkaa
