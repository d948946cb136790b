/-
  signpost's OctetReads: for every input the law returns true. No condition.
-/
import Derived.Test.YtnkbbmfhdabbkaaRows
import Derived.WalkKit
import Derived.ProofKit
import Derived.OpenShut
import Derived.ShutString
import Derived.ChangeOld
import Derived.Below
import Derived.Test.YtnkbbmfhdabbkaaOps
import Derived.Deep.DrawnRows
import Derived.Deep.RegionHeld3
import Derived.Deep.CutRange
import Derived.Deep.CutBlock
namespace Go.Proofs.Ytnkbbmfhdabbkaa.octetReads
open Go.ChangeShapes Go.WideShapes Go.ChangeAt Go.RowKit
open Go.ChangeMaps (open_string shut_string)
open Go.Proofs.YtnkbbmfhdabbkaaW.PrintWords
set_option linter.unusedSimpArgs false
set_option linter.unusedVariables false

theorem own : ownKnob Try.prog.godebug = none := by kernel_rfl
theorem laidOut : laidOutB Try.prog = true := by kernel_rfl

set_option maxRecDepth 20000 in
set_option maxHeartbeats 1500000 in
theorem walk_near (A0 A1 : Option Addr) (c0 n c1 : Nat) (B : List Int) (K N : Nat → Int) (w : World)
    (HB : ReadsInt w .u8 A0 B.length B) (hcb : B.length ≤ c0) (HP : ReadsP w A1 n K N) (hb : Bytes B) (b40 : B.length ≤ 4000) (n20 : n ≤ 200) :
    Calls Try.prog 8 #[.slice A0 B.length c0, .slice A1 n c1] w fun e w' => e = .returned (.bool true) ∧ Below w.heap.size w w' := by
  have XB := Lib.hid HB
  have XP := Lib.hid HP
  have Xb := Lib.hid hb
  have Xc := Lib.hid hcb
  have XO := Lib.hid (ropen_any A0 c0 B w HB (by omega))
  clear HB HP hb hcb
  go_enter Try.func8, Try.ntmps8
  go_wp2_with fail
  refine XO.out.mono ?_
  rintro e w1 ⟨g1, rfl, hg1, hr1, hb1⟩
  have HR1 := Lib.hid hr1
  have HB1 := Lib.hid hb1
  clear hr1 hb1
  go_wp2
  have hgs : g1 ≠ w1.heap.size := by have := rdr_lt HR1.out; omega
  have hw1 : Below w.heap.size w (w1.alloc (Obj.cells #[Value.slice A0 B.length c0, Value.int IntKind.i64 0, Value.bool false] 68)) := (HB1.out.alloc HB1.out.size _)
  have hsz1 := HB1.out.size
  have hTwo : X.Two w.heap.size (w1.alloc (Obj.cells #[Value.slice A0 B.length c0, Value.int IntKind.i64 0, Value.bool false] 68)) g1 w1.heap.size B B false := by
    refine ⟨X.rdr_grown (rdr_from HR1.out (Nat.le_refl _)) ((Below.refl _ _).alloc (Nat.le_refl _) _), ⟨A0, c0, 0, ⟨by simp, by simp, by simp, by simp, by simp⟩, by omega, by simp, XB.out.below hw1, Xc.out, fun ad e hn => ?_⟩, Xb.out, by omega⟩
    subst e
    obtain ⟨ad', e', hc⟩ := XB.out.2.2 hn
    cases e'
    have := World.block_lt_of_cell? _ _ (hc 0 (by omega))
    rwa [X.add_block] at this
  have HW := Lib.hid hw1
  have HT := Lib.hid hTwo
  have hg2 : w.heap.size ≤ w1.heap.size := hsz1
  generalize hgg : w1.heap.size = g2 at *
  clear hw1 hTwo hsz1
  generalize w1.alloc _ = w2 at *
  have Xg : Hid (g1 ≠ g2 ∧ w.heap.size ≤ g2 ∧ w.heap.size ≤ g1) := ⟨hgs, hg2, hg1⟩
  clear hgs hg2 hg1 hgg
  go_loopw [27] (fun x wr => ∃ k : Nat, k ≤ n ∧ x = .int .i64 k ∧ (∃ l bad, X.Two w.heap.size wr g1 g2 B l bad) ∧ Below w.heap.size w wr) (fun x _ => n - (intOf x).toNat)
  case atStart => exact ⟨0, by omega, rfl, ⟨_, _, HT.out⟩, HW.out⟩
  case round =>
    obtain ⟨k, hk, rfl, ⟨l, bad, htw⟩, hbr⟩ := hrel
    have HTW := Lib.hid htw
    have HBR := Lib.hid hbr
    clear htw hbr
    by_cases hlt : k < n
    · obtain ⟨b, off, rfl, hcells⟩ := XP.out (by omega)
      obtain ⟨hc0, hc1, hwf0, hwf1⟩ := hcells k hlt
      have hd0 := cell_below' HBR.out hc0
      have hd1 := cell_below' HBR.out hc1
      clear hcells hc0 hc1
      generalize K k = kind at *
      generalize N k = x at *
      go_upto_block 2 with fail
      have hbl := (Below.refl wr.heap.size wr).alloc (Nat.le_refl _) (Obj.cells #[Value.int .i64 kind, Value.int .i64 x] 70)
      have htw2 := X.two_below HTW.out hbl
      have hbr2 := HBR.out.trans (hbl.mono HBR.out.size)
      have hg8 : g1 ≠ wr.heap.size ∧ g2 ≠ wr.heap.size := by
        obtain ⟨A, c, h0, -⟩ := HTW.out.1
        obtain ⟨A', c', at', hr, -⟩ := HTW.out.2.1
        have h1 := World.block_lt_of_cell? _ _ h0
        have h2 := World.block_lt_of_cell? _ _ hr.1
        simp only at h1 h2
        omega
      have hce : (wr.alloc (Obj.cells #[Value.int .i64 kind, Value.int .i64 x] 70)).cell? ⟨wr.heap.size, 1, none⟩ = some (.int .i64 x) := by simp
      go_cut [27] from 27 to 87 (fun x wc => x = .int .i64 k ∧ (∃ l bad, X.Two w.heap.size wc g1 g2 B l bad) ∧ Below w.heap.size w wc)
      case first =>
        have Xg' := Xg.out
        generalize wr.alloc _ = W0 at *
        generalize wr.heap.size = s8 at *
        obtain ⟨n81, n82⟩ := hg8
        have HTW2 := Lib.hid htw2
        have HBR2 := Lib.hid hbr2
        have hsw : w.heap.size ≤ W0.heap.size := HBR2.out.size
        clear htw2 hbr2 hbl
        by_cases hk0 : kind = 0
        · subst hk0
          have H28 : Hid (∀ W, Below W0.heap.size W0 W → Calls Try.prog 28 #[.pointer (some ⟨g1, 0, none⟩), .int .i64 x] W fun e w' => e = .returned (.int .u64 (X.numV l bad x)) ∧ X.Rdr g2 w' g1 (X.numL l bad x) (!X.numOk l bad x) ∧ RR w.heap.size w' g2 B l bad ∧ W.grownBy w' (some g1)) := by
            intro W hb
            have h2 := X.two_below HTW2.out hb
            refine (X.rnum_any g1 l bad x W h2.1 h2.2.2.1).mono ?_
            rintro e w' ⟨he, hr, hg⟩
            exact ⟨he, hr, rR_apart h2.2.1 hg (Ne.symm Xg.out.1) Xg.out.2.2, hg⟩
          go_wp2
          go_region_held3 (fun w' => w'.cell? ⟨s8, 1, none⟩ = some (.int .i64 x)) (first | assumption | exact cell_apart2 (by first | assumption | go_keep) hgr1 n81 | exact cell_apart2 (by first | assumption | go_keep) hgr2 n82 | go_keep) (first
            | (go_at_call 28; refine (H28.out _ (by first | assumption | exact below_drew (Below.refl _ _))).mono ?_; rintro e w3 ⟨rfl, hRd, hRR, hgr1⟩)
            | (go_at_call 34; refine (X.rR_num w.heap.size g2 B l bad x _ hRR Xg'.2.1 Xb.out).mono ?_; rintro e w4 ⟨rfl, hRR2, hgr2⟩))
          have hRd4 := X.rdr_apart hRd Xg.out.1 hgr2
          have hfin : Below w.heap.size w w4 := HBR2.out.trans (grown2_below (grown_of_below (below_drew (Below.refl _ W0))) hgr1 hgr2 Xg'.2.2 Xg'.2.1)
          go_wp2_with fail
          go_meet
          exact ⟨rfl, ⟨_, _, hRd4, hRR2, X.bytes_numL _ _ _ HTW2.out.2.2.1, Nat.le_trans (X.numL_len _ _ _) HTW2.out.2.2.2⟩, hfin⟩
        · by_cases hk1 : kind = 1
          · subst hk1
            have H31 : Hid (∀ W, Below W0.heap.size W0 W → Calls Try.prog 31 #[.pointer (some ⟨g1, 0, none⟩), .int .i64 x] W fun e w' => ∃ v, e = .returned v ∧ w'.ownsRow W0.heap.size 5 1 v (X.takeV l bad x).length (nums .u8 (X.takeV l bad x)) ∧ X.Rdr g2 w' g1 (X.takeL l bad x) (!X.takeOk l bad x) ∧ RR w.heap.size w' g2 B l bad ∧ W.grownBy w' (some g1)) := by
              intro W hb
              have h2 := X.two_below HTW2.out hb
              refine (X.rtake_any g1 l bad x W h2.1 (by have := h2.2.2.2; omega)).mono ?_
              rintro e w' ⟨v, he, ho, hr, hg⟩
              exact ⟨v, he, own_less ho hb.size, hr, rR_apart h2.2.1 hg (Ne.symm Xg.out.1) Xg.out.2.2, hg⟩
            have hce1 : W0.drew.cell? ⟨s8, 1, none⟩ = some (.int .i64 x) := hce
            have n2s : g2 < W0.heap.size := by
              obtain ⟨A', c', at', hr, -⟩ := HTW2.out.2.1
              exact World.block_lt_of_cell? _ _ hr.1
            go_wp2
            refine wp_region_any (by kernel_rfl) ?_
            (try (change wpAny _ _ _ _ _ _ _ (World.drew _)))
            refine wpAny_take (i := 0) (oi := _) (v := ?_) (by simp only [List.getElem?_toArray, List.getElem?_cons_succ, List.getElem?_cons_zero]; rfl) (by kernel_rfl) (by kernel_rfl) (by kernel_rfl) (by intro _ _ _ h; exact h) (Or.inl ⟨by rfl, ?_⟩) ?_
            rotate_left
            focus (intro w; go_simp; try with_reducible rfl)
            (try simp only [Act.put, List.setIfInBounds_toArray, List.set_cons_zero, List.set_cons_succ])
            refine wpAny_take (i := 1) (oi := _) (v := ?_) (by simp only [List.getElem?_toArray, List.getElem?_cons_succ, List.getElem?_cons_zero]; rfl) (by kernel_rfl) (by kernel_rfl) (by kernel_rfl) (by intro _ _ _ h; exact h) (Or.inl ⟨by rfl, ?_⟩) ?_
            rotate_left
            focus (intro w; go_simp; try with_reducible rfl)
            (try simp only [Act.put, List.setIfInBounds_toArray, List.set_cons_zero, List.set_cons_succ])
            refine wpAny_take (i := 5) (oi := _) (v := ?_) (by simp only [List.getElem?_toArray, List.getElem?_cons_succ, List.getElem?_cons_zero]; rfl) (by kernel_rfl) (by kernel_rfl) (by kernel_rfl) (by intro _ _ _ h; exact h) (Or.inl ⟨by rfl, ?_⟩) ?_
            rotate_left
            focus (intro w; go_simp; try with_reducible rfl)
            (try simp only [Act.put, List.setIfInBounds_toArray, List.set_cons_zero, List.set_cons_succ])
            refine wpAny_take (i := 6) (oi := _) (v := ?_) (by simp only [List.getElem?_toArray, List.getElem?_cons_succ, List.getElem?_cons_zero]; rfl) (by kernel_rfl) (by kernel_rfl) (by kernel_rfl) (by intro _ _ _ h; exact h) (Or.inl ⟨by rfl, ?_⟩) ?_
            rotate_left
            focus (intro w; go_simp; try with_reducible rfl)
            (try simp only [Act.put, List.setIfInBounds_toArray, List.set_cons_zero, List.set_cons_succ])
            refine wpAny_ready (rs := [2, 7]) (by kernel_rfl) (by simp) ?_
            refine AllReady.cons rfl (fun K hK => ?_) ?_
            · go_simp
              (refine hK _ _ ?_; clear hK K)
              (try simp only [Act.put, List.setIfInBounds_toArray, List.set_cons_zero, List.set_cons_succ])
              refine wpAny_ready (rs := [3, 7]) (by kernel_rfl) (by simp) ?_
              refine AllReady.cons rfl (fun K hK => ?_) ?_
              · go_simp
                go_wp2_with (first
                    | (go_at_call 31; refine (H31.out _ (below_drew (Below.refl _ _))).mono ?_; rintro e w3 ⟨v3, rfl, hown3, hRd, hRR, hgr1⟩; have he3 := cell_apart2 hce1 hgr1 n81; have hs3 := str_own hown3))
                (try simp only [Act.put, List.setIfInBounds_toArray, List.set_cons_zero, List.set_cons_succ])
                refine wpAny_ready (rs := [4, 7]) (by kernel_rfl) (by simp) ?_
                refine AllReady.cons rfl (fun K hK => ?_) ?_
                · go_simp
                  (refine hK _ _ ?_; clear hK K)
                  (try simp only [Act.put, List.setIfInBounds_toArray, List.set_cons_zero, List.set_cons_succ])
                  refine wpAny_ready (rs := [7]) (by kernel_rfl) (by simp) ?_
                  refine AllReady.cons rfl (fun K hK => ?_) ?_
                  · go_simp
                    (refine hK _ _ ?_; clear hK K)
                    (try simp only [Act.put, List.setIfInBounds_toArray, List.set_cons_zero, List.set_cons_succ])
                    refine wpAny_ready (rs := [8]) (by kernel_rfl) (by simp) ?_
                    refine AllReady.cons rfl (fun K hK => ?_) ?_
                    · go_simp
                      go_wp2_with (first
                          | (go_at_call 35; refine (X.rR_take w.heap.size g2 B l bad x _ hRR Xg'.2.1 (by omega)).mono ?_; rintro e w4 ⟨v4, rfl, hown4, hRR2, hgr2⟩; have hs4 := str_own hown4; have hs34 := str_own (own_apart2 hown3 hgr2 n2s)))
                      (try simp only [Act.put, List.setIfInBounds_toArray, List.set_cons_zero, List.set_cons_succ])
                      refine wpAny_ready (rs := [9]) (by kernel_rfl) (by simp) ?_
                      refine AllReady.cons rfl (fun K hK => ?_) ?_
                      · go_simp
                        (refine hK _ _ ?_; clear hK K)
                        (try simp only [Act.put, List.setIfInBounds_toArray, List.set_cons_zero, List.set_cons_succ])
                        refine wpAny_take (i := 10) (oi := _) (v := ?_) (by simp only [List.getElem?_toArray, List.getElem?_cons_succ, List.getElem?_cons_zero]; rfl) (by kernel_rfl) (by kernel_rfl) (by kernel_rfl) (by intro _ _ _ h; exact h) (Or.inl ⟨by rfl, ?_⟩) ?_
                        rotate_left
                        focus (intro w; go_simp; try with_reducible rfl)
                        (try simp only [Act.put, List.setIfInBounds_toArray, List.set_cons_zero, List.set_cons_succ])
                        refine wpAny_done (by kernel_rfl) ?_ _
                        have hRd4 := X.rdr_apart hRd Xg.out.1 hgr2
                        have hfin : Below w.heap.size w w4 := HBR2.out.trans (grown2_below (grown_of_below (below_drew (Below.refl _ W0))) hgr1 hgr2 Xg'.2.2 Xg'.2.1)
                        go_wp2_with fail
                        go_meet
                        exact ⟨rfl, ⟨_, _, hRd4, hRR2, X.bytes_takeL _ _ _ HTW2.out.2.2.1, Nat.le_trans (X.takeL_len _ _ _) HTW2.out.2.2.2⟩, hfin⟩
                      exact AllReady.nil
                    exact AllReady.nil
                  exact AllReady.nil
                refine AllReady.cons rfl (fun K hK => ?_) ?_
                · go_simp
                  (refine hK _ _ ?_; clear hK K)
                  (try simp only [Act.put, List.setIfInBounds_toArray, List.set_cons_zero, List.set_cons_succ])
                  refine wpAny_ready (rs := [4, 8]) (by kernel_rfl) (by simp) ?_
                  refine AllReady.cons rfl (fun K hK => ?_) ?_
                  · go_simp
                    (refine hK _ _ ?_; clear hK K)
                    (try simp only [Act.put, List.setIfInBounds_toArray, List.set_cons_zero, List.set_cons_succ])
                    refine wpAny_ready (rs := [8]) (by kernel_rfl) (by simp) ?_
                    refine AllReady.cons rfl (fun K hK => ?_) ?_
                    · go_simp
                      go_wp2_with (first
                          | (go_at_call 35; refine (X.rR_take w.heap.size g2 B l bad x _ hRR Xg'.2.1 (by omega)).mono ?_; rintro e w4 ⟨v4, rfl, hown4, hRR2, hgr2⟩; have hs4 := str_own hown4; have hs34 := str_own (own_apart2 hown3 hgr2 n2s)))
                      (try simp only [Act.put, List.setIfInBounds_toArray, List.set_cons_zero, List.set_cons_succ])
                      refine wpAny_ready (rs := [9]) (by kernel_rfl) (by simp) ?_
                      refine AllReady.cons rfl (fun K hK => ?_) ?_
                      · go_simp
                        (refine hK _ _ ?_; clear hK K)
                        (try simp only [Act.put, List.setIfInBounds_toArray, List.set_cons_zero, List.set_cons_succ])
                        refine wpAny_take (i := 10) (oi := _) (v := ?_) (by simp only [List.getElem?_toArray, List.getElem?_cons_succ, List.getElem?_cons_zero]; rfl) (by kernel_rfl) (by kernel_rfl) (by kernel_rfl) (by intro _ _ _ h; exact h) (Or.inl ⟨by rfl, ?_⟩) ?_
                        rotate_left
                        focus (intro w; go_simp; try with_reducible rfl)
                        (try simp only [Act.put, List.setIfInBounds_toArray, List.set_cons_zero, List.set_cons_succ])
                        refine wpAny_done (by kernel_rfl) ?_ _
                        have hRd4 := X.rdr_apart hRd Xg.out.1 hgr2
                        have hfin : Below w.heap.size w w4 := HBR2.out.trans (grown2_below (grown_of_below (below_drew (Below.refl _ W0))) hgr1 hgr2 Xg'.2.2 Xg'.2.1)
                        go_wp2_with fail
                        go_meet
                        exact ⟨rfl, ⟨_, _, hRd4, hRR2, X.bytes_takeL _ _ _ HTW2.out.2.2.1, Nat.le_trans (X.takeL_len _ _ _) HTW2.out.2.2.2⟩, hfin⟩
                      exact AllReady.nil
                    exact AllReady.nil
                  refine AllReady.cons rfl (fun K hK => ?_) ?_
                  · go_simp
                    go_wp2_with (first
                        | (go_at_call 35; refine (X.rR_take w.heap.size g2 B l bad x _ hRR Xg'.2.1 (by omega)).mono ?_; rintro e w4 ⟨v4, rfl, hown4, hRR2, hgr2⟩; have hs4 := str_own hown4; have hs34 := str_own (own_apart2 hown3 hgr2 n2s)))
                    (try simp only [Act.put, List.setIfInBounds_toArray, List.set_cons_zero, List.set_cons_succ])
                    refine wpAny_ready (rs := [4, 9]) (by kernel_rfl) (by simp) ?_
                    refine AllReady.cons rfl (fun K hK => ?_) ?_
                    · go_simp
                      (refine hK _ _ ?_; clear hK K)
                      (try simp only [Act.put, List.setIfInBounds_toArray, List.set_cons_zero, List.set_cons_succ])
                      refine wpAny_ready (rs := [9]) (by kernel_rfl) (by simp) ?_
                      refine AllReady.cons rfl (fun K hK => ?_) ?_
                      · go_simp
                        (refine hK _ _ ?_; clear hK K)
                        (try simp only [Act.put, List.setIfInBounds_toArray, List.set_cons_zero, List.set_cons_succ])
                        refine wpAny_take (i := 10) (oi := _) (v := ?_) (by simp only [List.getElem?_toArray, List.getElem?_cons_succ, List.getElem?_cons_zero]; rfl) (by kernel_rfl) (by kernel_rfl) (by kernel_rfl) (by intro _ _ _ h; exact h) (Or.inl ⟨by rfl, ?_⟩) ?_
                        rotate_left
                        focus (intro w; go_simp; try with_reducible rfl)
                        (try simp only [Act.put, List.setIfInBounds_toArray, List.set_cons_zero, List.set_cons_succ])
                        refine wpAny_done (by kernel_rfl) ?_ _
                        have hRd4 := X.rdr_apart hRd Xg.out.1 hgr2
                        have hfin : Below w.heap.size w w4 := HBR2.out.trans (grown2_below (grown_of_below (below_drew (Below.refl _ W0))) hgr1 hgr2 Xg'.2.2 Xg'.2.1)
                        go_wp2_with fail
                        go_meet
                        exact ⟨rfl, ⟨_, _, hRd4, hRR2, X.bytes_takeL _ _ _ HTW2.out.2.2.1, Nat.le_trans (X.takeL_len _ _ _) HTW2.out.2.2.2⟩, hfin⟩
                      exact AllReady.nil
                    refine AllReady.cons rfl (fun K hK => ?_) ?_
                    · go_simp
                      (refine hK _ _ ?_; clear hK K)
                      (try simp only [Act.put, List.setIfInBounds_toArray, List.set_cons_zero, List.set_cons_succ])
                      refine wpAny_ready (rs := [4]) (by kernel_rfl) (by simp) ?_
                      refine AllReady.cons rfl (fun K hK => ?_) ?_
                      · go_simp
                        (refine hK _ _ ?_; clear hK K)
                        (try simp only [Act.put, List.setIfInBounds_toArray, List.set_cons_zero, List.set_cons_succ])
                        refine wpAny_take (i := 10) (oi := _) (v := ?_) (by simp only [List.getElem?_toArray, List.getElem?_cons_succ, List.getElem?_cons_zero]; rfl) (by kernel_rfl) (by kernel_rfl) (by kernel_rfl) (by intro _ _ _ h; exact h) (Or.inl ⟨by rfl, ?_⟩) ?_
                        rotate_left
                        focus (intro w; go_simp; try with_reducible rfl)
                        (try simp only [Act.put, List.setIfInBounds_toArray, List.set_cons_zero, List.set_cons_succ])
                        refine wpAny_done (by kernel_rfl) ?_ _
                        have hRd4 := X.rdr_apart hRd Xg.out.1 hgr2
                        have hfin : Below w.heap.size w w4 := HBR2.out.trans (grown2_below (grown_of_below (below_drew (Below.refl _ W0))) hgr1 hgr2 Xg'.2.2 Xg'.2.1)
                        go_wp2_with fail
                        go_meet
                        exact ⟨rfl, ⟨_, _, hRd4, hRR2, X.bytes_takeL _ _ _ HTW2.out.2.2.1, Nat.le_trans (X.takeL_len _ _ _) HTW2.out.2.2.2⟩, hfin⟩
                      exact AllReady.nil
                    exact AllReady.nil
                  exact AllReady.nil
                exact AllReady.nil
              refine AllReady.cons rfl (fun K hK => ?_) ?_
              · go_simp
                (refine hK _ _ ?_; clear hK K)
                (try simp only [Act.put, List.setIfInBounds_toArray, List.set_cons_zero, List.set_cons_succ])
                refine wpAny_ready (rs := [3]) (by kernel_rfl) (by simp) ?_
                refine AllReady.cons rfl (fun K hK => ?_) ?_
                · go_simp
                  go_wp2_with (first
                      | (go_at_call 31; refine (H31.out _ (below_drew (Below.refl _ _))).mono ?_; rintro e w3 ⟨v3, rfl, hown3, hRd, hRR, hgr1⟩; have he3 := cell_apart2 hce1 hgr1 n81; have hs3 := str_own hown3))
                  (try simp only [Act.put, List.setIfInBounds_toArray, List.set_cons_zero, List.set_cons_succ])
                  refine wpAny_ready (rs := [4, 8]) (by kernel_rfl) (by simp) ?_
                  refine AllReady.cons rfl (fun K hK => ?_) ?_
                  · go_simp
                    (refine hK _ _ ?_; clear hK K)
                    (try simp only [Act.put, List.setIfInBounds_toArray, List.set_cons_zero, List.set_cons_succ])
                    refine wpAny_ready (rs := [8]) (by kernel_rfl) (by simp) ?_
                    refine AllReady.cons rfl (fun K hK => ?_) ?_
                    · go_simp
                      go_wp2_with (first
                          | (go_at_call 35; refine (X.rR_take w.heap.size g2 B l bad x _ hRR Xg'.2.1 (by omega)).mono ?_; rintro e w4 ⟨v4, rfl, hown4, hRR2, hgr2⟩; have hs4 := str_own hown4; have hs34 := str_own (own_apart2 hown3 hgr2 n2s)))
                      (try simp only [Act.put, List.setIfInBounds_toArray, List.set_cons_zero, List.set_cons_succ])
                      refine wpAny_ready (rs := [9]) (by kernel_rfl) (by simp) ?_
                      refine AllReady.cons rfl (fun K hK => ?_) ?_
                      · go_simp
                        (refine hK _ _ ?_; clear hK K)
                        (try simp only [Act.put, List.setIfInBounds_toArray, List.set_cons_zero, List.set_cons_succ])
                        refine wpAny_take (i := 10) (oi := _) (v := ?_) (by simp only [List.getElem?_toArray, List.getElem?_cons_succ, List.getElem?_cons_zero]; rfl) (by kernel_rfl) (by kernel_rfl) (by kernel_rfl) (by intro _ _ _ h; exact h) (Or.inl ⟨by rfl, ?_⟩) ?_
                        rotate_left
                        focus (intro w; go_simp; try with_reducible rfl)
                        (try simp only [Act.put, List.setIfInBounds_toArray, List.set_cons_zero, List.set_cons_succ])
                        refine wpAny_done (by kernel_rfl) ?_ _
                        have hRd4 := X.rdr_apart hRd Xg.out.1 hgr2
                        have hfin : Below w.heap.size w w4 := HBR2.out.trans (grown2_below (grown_of_below (below_drew (Below.refl _ W0))) hgr1 hgr2 Xg'.2.2 Xg'.2.1)
                        go_wp2_with fail
                        go_meet
                        exact ⟨rfl, ⟨_, _, hRd4, hRR2, X.bytes_takeL _ _ _ HTW2.out.2.2.1, Nat.le_trans (X.takeL_len _ _ _) HTW2.out.2.2.2⟩, hfin⟩
                      exact AllReady.nil
                    exact AllReady.nil
                  refine AllReady.cons rfl (fun K hK => ?_) ?_
                  · go_simp
                    go_wp2_with (first
                        | (go_at_call 35; refine (X.rR_take w.heap.size g2 B l bad x _ hRR Xg'.2.1 (by omega)).mono ?_; rintro e w4 ⟨v4, rfl, hown4, hRR2, hgr2⟩; have hs4 := str_own hown4; have hs34 := str_own (own_apart2 hown3 hgr2 n2s)))
                    (try simp only [Act.put, List.setIfInBounds_toArray, List.set_cons_zero, List.set_cons_succ])
                    refine wpAny_ready (rs := [4, 9]) (by kernel_rfl) (by simp) ?_
                    refine AllReady.cons rfl (fun K hK => ?_) ?_
                    · go_simp
                      (refine hK _ _ ?_; clear hK K)
                      (try simp only [Act.put, List.setIfInBounds_toArray, List.set_cons_zero, List.set_cons_succ])
                      refine wpAny_ready (rs := [9]) (by kernel_rfl) (by simp) ?_
                      refine AllReady.cons rfl (fun K hK => ?_) ?_
                      · go_simp
                        (refine hK _ _ ?_; clear hK K)
                        (try simp only [Act.put, List.setIfInBounds_toArray, List.set_cons_zero, List.set_cons_succ])
                        refine wpAny_take (i := 10) (oi := _) (v := ?_) (by simp only [List.getElem?_toArray, List.getElem?_cons_succ, List.getElem?_cons_zero]; rfl) (by kernel_rfl) (by kernel_rfl) (by kernel_rfl) (by intro _ _ _ h; exact h) (Or.inl ⟨by rfl, ?_⟩) ?_
                        rotate_left
                        focus (intro w; go_simp; try with_reducible rfl)
                        (try simp only [Act.put, List.setIfInBounds_toArray, List.set_cons_zero, List.set_cons_succ])
                        refine wpAny_done (by kernel_rfl) ?_ _
                        have hRd4 := X.rdr_apart hRd Xg.out.1 hgr2
                        have hfin : Below w.heap.size w w4 := HBR2.out.trans (grown2_below (grown_of_below (below_drew (Below.refl _ W0))) hgr1 hgr2 Xg'.2.2 Xg'.2.1)
                        go_wp2_with fail
                        go_meet
                        exact ⟨rfl, ⟨_, _, hRd4, hRR2, X.bytes_takeL _ _ _ HTW2.out.2.2.1, Nat.le_trans (X.takeL_len _ _ _) HTW2.out.2.2.2⟩, hfin⟩
                      exact AllReady.nil
                    refine AllReady.cons rfl (fun K hK => ?_) ?_
                    · go_simp
                      (refine hK _ _ ?_; clear hK K)
                      (try simp only [Act.put, List.setIfInBounds_toArray, List.set_cons_zero, List.set_cons_succ])
                      refine wpAny_ready (rs := [4]) (by kernel_rfl) (by simp) ?_
                      refine AllReady.cons rfl (fun K hK => ?_) ?_
                      · go_simp
                        (refine hK _ _ ?_; clear hK K)
                        (try simp only [Act.put, List.setIfInBounds_toArray, List.set_cons_zero, List.set_cons_succ])
                        refine wpAny_take (i := 10) (oi := _) (v := ?_) (by simp only [List.getElem?_toArray, List.getElem?_cons_succ, List.getElem?_cons_zero]; rfl) (by kernel_rfl) (by kernel_rfl) (by kernel_rfl) (by intro _ _ _ h; exact h) (Or.inl ⟨by rfl, ?_⟩) ?_
                        rotate_left
                        focus (intro w; go_simp; try with_reducible rfl)
                        (try simp only [Act.put, List.setIfInBounds_toArray, List.set_cons_zero, List.set_cons_succ])
                        refine wpAny_done (by kernel_rfl) ?_ _
                        have hRd4 := X.rdr_apart hRd Xg.out.1 hgr2
                        have hfin : Below w.heap.size w w4 := HBR2.out.trans (grown2_below (grown_of_below (below_drew (Below.refl _ W0))) hgr1 hgr2 Xg'.2.2 Xg'.2.1)
                        go_wp2_with fail
                        go_meet
                        exact ⟨rfl, ⟨_, _, hRd4, hRR2, X.bytes_takeL _ _ _ HTW2.out.2.2.1, Nat.le_trans (X.takeL_len _ _ _) HTW2.out.2.2.2⟩, hfin⟩
                      exact AllReady.nil
                    exact AllReady.nil
                  exact AllReady.nil
                exact AllReady.nil
              exact AllReady.nil
            refine AllReady.cons rfl (fun K hK => ?_) ?_
            · go_simp
              (refine hK _ _ ?_; clear hK K)
              (try simp only [Act.put, List.setIfInBounds_toArray, List.set_cons_zero, List.set_cons_succ])
              refine wpAny_ready (rs := [2]) (by kernel_rfl) (by simp) ?_
              refine AllReady.cons rfl (fun K hK => ?_) ?_
              · go_simp
                (refine hK _ _ ?_; clear hK K)
                (try simp only [Act.put, List.setIfInBounds_toArray, List.set_cons_zero, List.set_cons_succ])
                refine wpAny_ready (rs := [3]) (by kernel_rfl) (by simp) ?_
                refine AllReady.cons rfl (fun K hK => ?_) ?_
                · go_simp
                  go_wp2_with (first
                      | (go_at_call 31; refine (H31.out _ (below_drew (Below.refl _ _))).mono ?_; rintro e w3 ⟨v3, rfl, hown3, hRd, hRR, hgr1⟩; have he3 := cell_apart2 hce1 hgr1 n81; have hs3 := str_own hown3))
                  (try simp only [Act.put, List.setIfInBounds_toArray, List.set_cons_zero, List.set_cons_succ])
                  refine wpAny_ready (rs := [4, 8]) (by kernel_rfl) (by simp) ?_
                  refine AllReady.cons rfl (fun K hK => ?_) ?_
                  · go_simp
                    (refine hK _ _ ?_; clear hK K)
                    (try simp only [Act.put, List.setIfInBounds_toArray, List.set_cons_zero, List.set_cons_succ])
                    refine wpAny_ready (rs := [8]) (by kernel_rfl) (by simp) ?_
                    refine AllReady.cons rfl (fun K hK => ?_) ?_
                    · go_simp
                      go_wp2_with (first
                          | (go_at_call 35; refine (X.rR_take w.heap.size g2 B l bad x _ hRR Xg'.2.1 (by omega)).mono ?_; rintro e w4 ⟨v4, rfl, hown4, hRR2, hgr2⟩; have hs4 := str_own hown4; have hs34 := str_own (own_apart2 hown3 hgr2 n2s)))
                      (try simp only [Act.put, List.setIfInBounds_toArray, List.set_cons_zero, List.set_cons_succ])
                      refine wpAny_ready (rs := [9]) (by kernel_rfl) (by simp) ?_
                      refine AllReady.cons rfl (fun K hK => ?_) ?_
                      · go_simp
                        (refine hK _ _ ?_; clear hK K)
                        (try simp only [Act.put, List.setIfInBounds_toArray, List.set_cons_zero, List.set_cons_succ])
                        refine wpAny_take (i := 10) (oi := _) (v := ?_) (by simp only [List.getElem?_toArray, List.getElem?_cons_succ, List.getElem?_cons_zero]; rfl) (by kernel_rfl) (by kernel_rfl) (by kernel_rfl) (by intro _ _ _ h; exact h) (Or.inl ⟨by rfl, ?_⟩) ?_
                        rotate_left
                        focus (intro w; go_simp; try with_reducible rfl)
                        (try simp only [Act.put, List.setIfInBounds_toArray, List.set_cons_zero, List.set_cons_succ])
                        refine wpAny_done (by kernel_rfl) ?_ _
                        have hRd4 := X.rdr_apart hRd Xg.out.1 hgr2
                        have hfin : Below w.heap.size w w4 := HBR2.out.trans (grown2_below (grown_of_below (below_drew (Below.refl _ W0))) hgr1 hgr2 Xg'.2.2 Xg'.2.1)
                        go_wp2_with fail
                        go_meet
                        exact ⟨rfl, ⟨_, _, hRd4, hRR2, X.bytes_takeL _ _ _ HTW2.out.2.2.1, Nat.le_trans (X.takeL_len _ _ _) HTW2.out.2.2.2⟩, hfin⟩
                      exact AllReady.nil
                    exact AllReady.nil
                  refine AllReady.cons rfl (fun K hK => ?_) ?_
                  · go_simp
                    go_wp2_with (first
                        | (go_at_call 35; refine (X.rR_take w.heap.size g2 B l bad x _ hRR Xg'.2.1 (by omega)).mono ?_; rintro e w4 ⟨v4, rfl, hown4, hRR2, hgr2⟩; have hs4 := str_own hown4; have hs34 := str_own (own_apart2 hown3 hgr2 n2s)))
                    (try simp only [Act.put, List.setIfInBounds_toArray, List.set_cons_zero, List.set_cons_succ])
                    refine wpAny_ready (rs := [4, 9]) (by kernel_rfl) (by simp) ?_
                    refine AllReady.cons rfl (fun K hK => ?_) ?_
                    · go_simp
                      (refine hK _ _ ?_; clear hK K)
                      (try simp only [Act.put, List.setIfInBounds_toArray, List.set_cons_zero, List.set_cons_succ])
                      refine wpAny_ready (rs := [9]) (by kernel_rfl) (by simp) ?_
                      refine AllReady.cons rfl (fun K hK => ?_) ?_
                      · go_simp
                        (refine hK _ _ ?_; clear hK K)
                        (try simp only [Act.put, List.setIfInBounds_toArray, List.set_cons_zero, List.set_cons_succ])
                        refine wpAny_take (i := 10) (oi := _) (v := ?_) (by simp only [List.getElem?_toArray, List.getElem?_cons_succ, List.getElem?_cons_zero]; rfl) (by kernel_rfl) (by kernel_rfl) (by kernel_rfl) (by intro _ _ _ h; exact h) (Or.inl ⟨by rfl, ?_⟩) ?_
                        rotate_left
                        focus (intro w; go_simp; try with_reducible rfl)
                        (try simp only [Act.put, List.setIfInBounds_toArray, List.set_cons_zero, List.set_cons_succ])
                        refine wpAny_done (by kernel_rfl) ?_ _
                        have hRd4 := X.rdr_apart hRd Xg.out.1 hgr2
                        have hfin : Below w.heap.size w w4 := HBR2.out.trans (grown2_below (grown_of_below (below_drew (Below.refl _ W0))) hgr1 hgr2 Xg'.2.2 Xg'.2.1)
                        go_wp2_with fail
                        go_meet
                        exact ⟨rfl, ⟨_, _, hRd4, hRR2, X.bytes_takeL _ _ _ HTW2.out.2.2.1, Nat.le_trans (X.takeL_len _ _ _) HTW2.out.2.2.2⟩, hfin⟩
                      exact AllReady.nil
                    refine AllReady.cons rfl (fun K hK => ?_) ?_
                    · go_simp
                      (refine hK _ _ ?_; clear hK K)
                      (try simp only [Act.put, List.setIfInBounds_toArray, List.set_cons_zero, List.set_cons_succ])
                      refine wpAny_ready (rs := [4]) (by kernel_rfl) (by simp) ?_
                      refine AllReady.cons rfl (fun K hK => ?_) ?_
                      · go_simp
                        (refine hK _ _ ?_; clear hK K)
                        (try simp only [Act.put, List.setIfInBounds_toArray, List.set_cons_zero, List.set_cons_succ])
                        refine wpAny_take (i := 10) (oi := _) (v := ?_) (by simp only [List.getElem?_toArray, List.getElem?_cons_succ, List.getElem?_cons_zero]; rfl) (by kernel_rfl) (by kernel_rfl) (by kernel_rfl) (by intro _ _ _ h; exact h) (Or.inl ⟨by rfl, ?_⟩) ?_
                        rotate_left
                        focus (intro w; go_simp; try with_reducible rfl)
                        (try simp only [Act.put, List.setIfInBounds_toArray, List.set_cons_zero, List.set_cons_succ])
                        refine wpAny_done (by kernel_rfl) ?_ _
                        have hRd4 := X.rdr_apart hRd Xg.out.1 hgr2
                        have hfin : Below w.heap.size w w4 := HBR2.out.trans (grown2_below (grown_of_below (below_drew (Below.refl _ W0))) hgr1 hgr2 Xg'.2.2 Xg'.2.1)
                        go_wp2_with fail
                        go_meet
                        exact ⟨rfl, ⟨_, _, hRd4, hRR2, X.bytes_takeL _ _ _ HTW2.out.2.2.1, Nat.le_trans (X.takeL_len _ _ _) HTW2.out.2.2.2⟩, hfin⟩
                      exact AllReady.nil
                    exact AllReady.nil
                  exact AllReady.nil
                exact AllReady.nil
              exact AllReady.nil
            exact AllReady.nil
          · have H29 : Hid (∀ W, Below W0.heap.size W0 W → Calls Try.prog 29 #[.pointer (some ⟨g1, 0, none⟩), .int .i64 x] W fun e w' => e = .returned (.string (strOfNums (X.txtV l bad x))) ∧ X.Rdr g2 w' g1 (X.txtL l bad x) (X.txtB l bad x) ∧ RR w.heap.size w' g2 B l bad ∧ W.grownBy w' (some g1)) := by
              intro W hb
              have h2 := X.two_below HTW2.out hb
              refine (X.rtext_any g1 l bad x W h2.1 h2.2.2.1 (by have := h2.2.2.2; omega)).mono ?_
              rintro e w' ⟨he, hr, hg⟩
              exact ⟨he, hr, rR_apart h2.2.1 hg (Ne.symm Xg.out.1) Xg.out.2.2, hg⟩
            go_wp2
            go_region_held3 (fun w' => w'.cell? ⟨s8, 1, none⟩ = some (.int .i64 x)) (first | assumption | exact cell_apart2 (by first | assumption | go_keep) hgr1 n81 | exact cell_apart2 (by first | assumption | go_keep) hgr2 n82 | go_keep) (first
              | (go_at_call 29; refine (H29.out _ (by first | assumption | exact below_drew (Below.refl _ _))).mono ?_; rintro e w3 ⟨rfl, hRd, hRR, hgr1⟩)
              | (go_at_call 36; refine (X.rR_text w.heap.size g2 B l bad x _ hRR Xg'.2.1 Xb.out (by omega)).mono ?_; rintro e w4 ⟨rfl, hRR2, hgr2⟩))
            have hRd4 := X.rdr_apart hRd Xg.out.1 hgr2
            have hfin : Below w.heap.size w w4 := HBR2.out.trans (grown2_below (grown_of_below (below_drew (Below.refl _ W0))) hgr1 hgr2 Xg'.2.2 Xg'.2.1)
            go_wp2_with fail
            go_meet
            exact ⟨rfl, ⟨_, _, hRd4, hRR2, X.bytes_txtL _ _ _ HTW2.out.2.2.1, Nat.le_trans (X.txtL_len _ _ _) HTW2.out.2.2.2⟩, hfin⟩
      case rest =>
        obtain ⟨rfl, ⟨l2, bad2, h2⟩, hbw⟩ := hcut
        have H32 : Hid (∀ W, Below wc.heap.size wc W → Calls Try.prog 32 #[.pointer (some ⟨g1, 0, none⟩)] W fun e w' => e = .returned (.int .i64 l2.length) ∧ W = w') := fun W hb => X.rleft g1 l2 bad2 W (X.two_below h2 hb).1
        have H33 : Hid (∀ W, Below wc.heap.size wc W → Calls Try.prog 33 #[.pointer (some ⟨g1, 0, none⟩)] W fun e w' => e = .returned (.bool bad2) ∧ W = w') := fun W hb => X.rbad g1 l2 bad2 W (X.two_below h2 hb).1
        have H30 : Hid (∀ W, Below wc.heap.size wc W → Calls Try.prog 30 #[.pointer (some ⟨g1, 0, none⟩)] W fun e w' => e = .returned (.int .i64 (X.doneE l2 bad2)) ∧ W = w') := fun W hb => X.rdone g1 l2 bad2 W (X.two_below h2 hb).1
        have H37 : Hid (∀ W, Below wc.heap.size wc W → Calls Try.prog 37 #[.pointer (some ⟨g2, 0, none⟩)] W fun e w' => e = .returned (.int .i64 l2.length) ∧ Below wc.heap.size wc w') := fun W hb =>
          (X.rR_left w.heap.size g2 B l2 bad2 W (X.two_below h2 hb).2.1).mono (fun e w' h => ⟨h.1, hb.trans (h.2.mono hb.size)⟩)
        have H38 : Hid (∀ W, Below wc.heap.size wc W → Calls Try.prog 38 #[.pointer (some ⟨g2, 0, none⟩)] W fun e w' => e = .returned (.int .i64 (X.doneE l2 bad2)) ∧ Below wc.heap.size wc w') := fun W hb =>
          (X.rR_done w.heap.size g2 B l2 bad2 W (X.two_below h2 hb).2.1).mono (fun e w' h => ⟨h.1, hb.trans (h.2.mono hb.size)⟩)
        have hbad : wc.cell? ⟨g2, 2, none⟩ = some (.bool bad2) := X.rR_bad h2.2.1
        have H2 := Lib.hid h2
        have HBW := Lib.hid hbw
        have HBAD := Lib.hid hbad
        clear h2 hbw htw2 hbr2 hbl hce
        generalize X.doneE l2 bad2 = de at *
        generalize l2.length = ln at *
        go_wp2
        go_region_held3 (fun w' => w'.cell? ⟨g2, 2, none⟩ = some (.bool bad2) ∧ Below wc.heap.size wc w') (first | (refine ⟨?_, ?_⟩ <;> first | assumption | exact below_drew (Below.refl _ _) | exact pw_cell_below (by assumption) HBAD.out | exact pw_cell_below (below_drew (Below.refl _ _)) HBAD.out | go_keep) | assumption | exact below_drew (Below.refl _ _) | exact pw_cell_below (by assumption) HBAD.out) (first
          | (go_at_call 32; refine (H32.out _ (by first | assumption | exact below_drew (Below.refl _ _))).mono ?_; rintro e w3 ⟨rfl, rfl⟩)
          | (go_at_call 37; refine (H37.out _ (by first | assumption | exact below_drew (Below.refl _ _))).mono ?_; rintro e w4 ⟨rfl, hb4⟩)
          | (go_at_call 33; refine (H33.out _ (by first | assumption | exact below_drew (Below.refl _ _))).mono ?_; rintro e w5 ⟨rfl, rfl⟩)
          | (go_at_call 30; refine (H30.out _ (by first | assumption | exact below_drew (Below.refl _ _))).mono ?_; rintro e w6 ⟨rfl, rfl⟩)
          | (go_at_call 38; refine (H38.out _ (by first | assumption | exact below_drew (Below.refl _ _))).mono ?_; rintro e w7 ⟨rfl, hb7⟩))
        have htw7 := X.two_below H2.out hb7
        have hbw7 := HBW.out.trans (hb7.mono HBW.out.size)
        go_wp2
        go_roundw
        case rel => exact ⟨k + 1, by omega, by go_num, ⟨_, _, htw7⟩, hbw7⟩
        case measure => simp [intOf]; omega
    · have HLV := Lib.hid (lives_any wr)
      go_wp2_with (go_at_call 9; refine HLV.out.mono ?_; rintro e w3 ⟨rfl, hb3⟩)
      go_ret
      exact ⟨rfl, HBR.out.trans (hb3.mono HBR.out.size)⟩
theorem walk (A0 : Option Addr) (len0 c0 : Nat) (z : List Int) (A1 : Option Addr) (n c1 : Nat) (K N : Nat → Int) (w : World) (w0 : IsRow .u8 w A0 len0 c0 z) (HP : ReadsP w A1 n K N) :
    Calls Try.prog 8 #[.slice A0 len0 c0, .slice A1 n c1] w fun e w' => e = .returned (.bool true) ∧ Below w.heap.size w w' := by
  have hcap : len0 ≤ c0 := by rcases w0 with ⟨_, rfl, rfl, _⟩ | ⟨x, _, h, _⟩ <;> omega
  obtain ⟨l, rfl, HR, hm, hw⟩ := ReadsInt.ofRow w0
  have hB : Bytes l := fun x hx => bounds_u8 (hw x hx)
  have HLV := Lib.hid (lives_any w)
  by_cases h1 : (4000 : Int) < (l.length : Int)
  · clear HR HP hB hw hm w0
    generalize l.length = ln at *
    go_enter Try.func8, Try.ntmps8
    go_wp2_with (go_at_call 9; refine HLV.out.mono ?_; rintro e w' ⟨rfl, hg⟩)
    go_ret
    exact ⟨rfl, hg⟩
  · by_cases h2 : (200 : Int) < (n : Int)
    · clear HR HP hB hw hm w0
      generalize l.length = ln at *
      go_enter Try.func8, Try.ntmps8
      go_wp2_with (go_at_call 9; refine HLV.out.mono ?_; rintro e w' ⟨rfl, hg⟩)
      go_ret
      exact ⟨rfl, hg⟩
    · exact walk_near A0 A1 c0 n c1 l K N w HR hcap HP hB (by omega) (by omega)

set_option maxRecDepth 100000 in
theorem lifted (os : Os) (started : os.Started) (H : Type) (enc : TypeId × Value → H) :
    ReturnsInHanded {} Try.checked os 8 .any (Rows.octetReadsSpec.pre6 enc Try.prog Try.f8 Rows.octetReadsRow.domain false) (Rows.octetReadsSpec.post enc Try.prog Try.f8 false true false false) := by
  refine returnsInHanded_of_change (C := Try.checked) own started (by kernel_rfl) Try.func8
    (ChangeSpec.witness6 (enc := enc) (C := Try.checked) false ⟨#[], #[.slice none 0 0, .slice none 0 0], []⟩ 8 (by kernel_rfl) (by kernel_rfl) (by kernel_rfl) (by kernel_rfl)) ?_
  intro W base args ds gs before hval0 hW hcnd _
  have hval : ∀ (j : Nat) t v, Try.f8.params[j]? = some t → args[j]? = some v → Value.okWide Try.prog W .any base t v := hval0
  have hW' := hW
  obtain ⟨p, q, hA0, hV, rfl, hfz, hnd⟩ := hW
  have hA : DataW.TrodAll enc Try.prog W 0 (fun _ => true) true Try.f8.params.toList args.toList ds p := hA0
  rw [Try.params8] at hA hval
  obtain ⟨v0, vs0, d0, ds0, p0, q0, hargs, rfl, rfl, h0, r0⟩ := trodAll_cons hA
  obtain ⟨v1, vs1, d1, ds1, p1, q1, rfl, rfl, rfl, h1, r1⟩ := trodAll_cons r0
  obtain ⟨rfl, rfl, rfl⟩ := trodAll_nil r1
  obtain rfl : args = #[v0, v1] := by cases args; simp_all
  obtain ⟨rfl, rfl⟩ := trodVars_none hV
  have k0 := h0
  have lt0 : ∀ x ∈ p0, x.block < W.heap.size := by obtain ⟨m, hm⟩ := k0; exact DataW.trod_lt m _ _ _ hm
  have k1 := h1
  have lt1 : ∀ x ∈ p1, x.block < W.heap.size := by obtain ⟨m, hm⟩ := k1; exact DataW.trod_lt m _ _ _ hm
  obtain ⟨a0, len0, cap0, rfl⟩ := okWide_slice Try.underlying22 (hval 0 22 v0 rfl rfl)
  obtain ⟨z0, w0⟩ : ∃ zs, IsRow .u8 W a0 len0 cap0 zs := by
    obtain ⟨fuel, hf⟩ := h0
    rcases open_ints Try.underlying22 Try.underlying5 (by kernel_rfl) hf with ⟨hcs, _⟩ | ⟨x, l, c, zs, hcs, _, hl, hm, hz, _, hcell, hwz⟩
    · simp [Value.cells] at hcs
      obtain ⟨rfl, rfl, rfl⟩ := hcs
      exact ⟨[], .inl ⟨rfl, rfl, rfl, rfl⟩⟩
    · simp [Value.cells] at hcs
      obtain ⟨rfl, rfl, rfl⟩ := hcs
      exact ⟨zs, .inr ⟨_, rfl, hl, hm, by simpa using hz, hcell, hwz⟩⟩
  obtain ⟨a1, len1, cap1, rfl⟩ := okWide_slice Try.underlying65 (hval 1 65 v1 rfl rfl)
  obtain ⟨K1, N1, w1⟩ : ∃ K N, ReadsP W a1 len1 K N := open_ops h1
  clear hA0 hval0
  refine (walk a0 len0 cap0 z0 a1 len1 cap1 K1 N1 W w0 w1).mono fun e W' ⟨he, bel⟩ => ?_
  subst he
  exact ⟨_, rfl, _, _, _, [], _, [], hW', trodAll_mk1 (shut_bool Try.underlying4 _), (trodAll_cons_mk (Below.trod laidOut (by kernel_rfl) (of_decide_eq_true (by kernel_rfl)) k0 bel lt0) (trodAll_cons_mk (Below.trod laidOut (by kernel_rfl) (of_decide_eq_true (by kernel_rfl)) k1 bel lt1) trodAll_mk0)), rfl, bel.frame _, fun h => by cases h⟩

theorem over : Rows.octetReadsRow.holds Try.pinned (OpenSpec.ofChange Rows.octetReadsSpec) :=
  OpenClaim.holds_of_wide 8 Try.f8 rfl rfl rfl rfl rfl rfl rfl ⟨rfl, rfl, rfl, rfl, rfl⟩ rfl rfl rfl rfl rfl (by kernel_rfl) Try.func8 (by kernel_rfl)
    (of_decide_eq_true (by kernel_rfl)) (by unfold Func.isWrapper; first | (rw [if_pos (by decide +kernel)]; kernel_rfl) | (rw [if_neg (by decide +kernel)]; exact ⟨rfl, rfl⟩))
    (fun os started H enc _ => lifted os started H enc)

/-- THE STATEMENT. -/
theorem proved : Rows.OctetReadsSaid := over
#print axioms proved
end Go.Proofs.Ytnkbbmfhdabbkaa.octetReads
