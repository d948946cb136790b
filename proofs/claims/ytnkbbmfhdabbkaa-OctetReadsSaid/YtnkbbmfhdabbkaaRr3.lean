/-
  The reference's reader over a list: 'Num', 'Take', 'Text'.
-/
import Derived.Test.YtnkbbmfhdabbkaaRr2
namespace Go.Proofs.Ytnkbbmfhdabbkaa
open Go.RowKit Go.Proofs.YtnkbbmfhdabbkaaW.PrintWords
set_option linter.unusedVariables false
set_option linter.unusedSimpArgs false

set_option maxHeartbeats 1500000 in
theorem rr_take_yes (g : Nat) (A : Option Addr) (c at_ m k : Nat) (hkk : at_ + m = k) (B y : List Int) (hy : y = (B.drop at_).take m) (w : World) (h : Rr w g A B.length c at_ false) (HR : ReadsInt w .u8 A B.length B) (hc : B.length ≤ c) (hk : k ≤ B.length) (hsm : B.length ≤ 140000000000000)
    (hA : ∀ ad, A = some ad → 0 < B.length → ad.block ≠ g) :
    Calls Try.prog 35 #[.pointer (some ⟨g, 0, none⟩), .int .i64 (m : Int)] w fun e w' => ∃ v, e = .returned v ∧ w'.ownsRow w.heap.size 5 1 v y.length (nums .u8 y) ∧ Rr w' g A B.length c k false ∧ w.grownBy w' (some g) := by
  obtain ⟨i0, hi, hz0, hz1, hz2⟩ := info_parts info5
  obtain ⟨A', r2, q2, c2⟩ := print_mid_of (P := Try.prog) (Value.int .u8) (0 : Int) 22 5 .i64 .i64 Try.underlying22 hi hz1 A c B (at_ : Int) (k : Int) (by omega) (by omega) (by omega) hc
  have hyy : (B.take (k : Int).toNat).drop (at_ : Int).toNat = y := by
    rw [Int.toNat_natCast, Int.toNat_natCast, hy, List.drop_take]
    congr 1; omega
  rw [hyy] at r2 q2 c2
  rw [Int.toNat_natCast] at r2 c2
  have HS := Lib.hid (fun W (hb : Below w.heap.size w W) => rr_store g A B.length c at_ k W (rr_below h hb))
  have HGR := Lib.hid (fun W (hb : Below w.heap.size w W) => World.grownBy.trans (grown_of_below hb) (rr_grown_set W g 1 (.int .i64 k)))
  have HQ := Lib.hid (fun W (hb : Below w.heap.size w W) => q2 _ (readsInt_of.1 (reads_grown HR (World.grownBy.trans (grown_of_below hb) (rr_grown_set W g 1 (.int .i64 k))) hA)))
  obtain ⟨h0, h1, h2, f1, f2⟩ := h
  have hg := Below.refl w.heap.size w
  have hsum : ((at_ : Int) + (m : Int)) = (k : Int) := by omega
  have hsub : ((k : Int) - (m : Int)) = (at_ : Int) := by omega
  have HWR : Hid (IntKind.i64.wrap ((k : Int) - (m : Int)) = (at_ : Int) ∧ wrap64 ((k : Int) - (m : Int)) = (at_ : Int) ∧ (0 : Int) ≤ (at_ : Int) ∧ (at_ : Int) ≤ (k : Int) ∧ (k : Int) ≤ (c : Int)) :=
    ⟨by rw [hsub, IntKind.wrap_i64]; omega, by rw [hsub]; exact IntWalk.wrap64_in _ (by omega), by omega, by omega, by omega⟩
  clear hsub
  have hm2 : ¬ ((B.length : Int) - (at_ : Int) < (m : Int)) := by omega
  have hyl : y.length ≤ 140000000000000 := by rw [hy]; simp; omega
  have hk2 : k ≤ 140000000000000 := by omega
  have hw : IntKind.i64.wrap ((B.length : Int) - (at_ : Int)) = (B.length : Int) - (at_ : Int) := by rw [IntKind.wrap_i64]; omega
  clear hkk hy HR hyy q2 hz0 hz1 hz2 hi hA c2
  go_enter Try.func35, Try.ntmps35
  go_wp2
  go_quiet (fail)
  go_wp2
  have hr1 := HS.out _ (below_drewN hg nq)
  have hgr1 := HGR.out _ (below_drewN hg nq)
  have hq1 := HQ.out _ (below_drewN hg nq)
  generalize World.setCell _ _ _ = W1 at *
  have HR1 := Lib.hid hr1
  have HGR1 := Lib.hid hgr1
  have HQ1 := Lib.hid hq1
  obtain ⟨s0, s1, s2, _, _⟩ := hr1
  obtain ⟨hwr, hwc, hb0, hb1, hb3⟩ := HWR.out
  clear hsum hm2 hw h0 h1 h2 f1 f2 hg hk hsm hk2 hc HS HGR HQ
  have hglt : g < W1.heap.size := World.block_lt_of_cell? _ _ s0
  have hgg := Below.refl W1.heap.size W1
  clear hgr1 hq1
  go_region_held3 (fun w' => w'.cell? ⟨g, 0, none⟩ = some (.slice A B.length c) ∧ w'.cell? ⟨g, 1, none⟩ = some (.int .i64 k) ∧ Below W1.heap.size W1 w') (first | (refine ⟨?_, ?_, ?_⟩ <;> first | assumption | exact below_drew (Below.refl _ _) | exact below_drew (below_alloc (Below.refl _ _) _) | exact (Below.cell (p := ⟨g, 0, none⟩) hbl hglt).trans s0 | exact (Below.cell (p := ⟨g, 1, none⟩) hbl hglt).trans s1 | go_keep) | assumption | exact below_drew (Below.refl _ _) | exact below_drew (below_alloc (Below.refl _ _) _) | exact (Below.cell (p := ⟨g, 0, none⟩) hbl hglt).trans s0 | exact (Below.cell (p := ⟨g, 1, none⟩) hbl hglt).trans s1 | go_keep) (first | (refine step_append_row (w0 := W1) W1.heap.size rfl (.tmp 38) (.tmp 53) 22 5 .u8 1 rfl Try.underlying22 info5 (by decide) (.slice (some ⟨W1.heap.size, 0, none⟩) 0 0) [] y A' y.length (c - at_) rfl rfl (own_lit W1 W1.heap.size 5 .u8 [] (by simp) (by simp)) (HQ1.out.below (below_drew (below_alloc (Below.refl _ _) _))) (below_drew (below_alloc (Below.refl _ _) _)) (by simp) (by simp; omega) ?_; intro v1 w2 hown hbl hg2 hat; have hbl2 := hbl))
  go_wp2
  go_ret
  exact ⟨v1, rfl, own_less (by simpa using hown) HGR1.out.size, rr_below HR1.out hbl, World.grownBy.trans HGR1.out (grown_of_below hbl)⟩
end Go.Proofs.Ytnkbbmfhdabbkaa
