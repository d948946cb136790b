/-
  bag: the functions of a bag.
-/
import Derived.Test.YtfphpbhopfhlcaaBag
import Derived.Deep.RegionHeld3
namespace Go.Proofs.Ytfphpbhopfhlcaa.D
open Go.RowKit
set_option linter.unusedVariables false
set_option linter.unusedSimpArgs false
theorem kept_cell' {X : Nat → Prop} {w w' : World} {p : Addr} {v : Value} (hk : Kept X w w') (hx : X p.block) (h : w.cell? p = some v) : w'.cell? p = some v :=
  (World.cell?_of_block (hk.block _ hx (World.block_lt_of_cell? _ _ h))).trans h
/-- The bag at block g, apart from X. -/
def BagS (X : Nat → Prop) (W : World) (g most : Nat) (L : List Dg) (lost : Int) : Prop :=
  ¬ X g ∧ W.cell? ⟨g, 1, none⟩ = some (.int .i64 lost) ∧ W.frozen? ⟨g, 1, none⟩ = false ∧ ∃ r, W.cell? ⟨g, 0, none⟩ = some (.pointer (some ⟨r, 0, none⟩)) ∧ Ring (fun k => X k ∨ k = g) W r most L
theorem bag_lt {X : Nat → Prop} {W : World} {g most : Nat} {L : List Dg} {lost : Int} (h : BagS X W g most L lost) : g < W.heap.size := World.block_lt_of_cell? _ _ h.2.1
theorem bag_below {X : Nat → Prop} {w w' : World} {g most : Nat} {L : List Dg} {lost : Int} (h : BagS X w g most L lost) (hb : Below w.heap.size w w') : BagS X w' g most L lost := by
  obtain ⟨hx, h1, f1, r, h0, hr⟩ := h
  exact ⟨hx, cell_below hb h1, (hb.frozen (p := ⟨g, 1, none⟩) (World.block_lt_of_cell? _ _ h1)).trans f1, r, cell_below hb h0, ring_below hr hb⟩
/-- After a call that kept what lay in X and in block g, and gave the ring anew. -/
theorem bag_ring {X : Nat → Prop} {w w' : World} {g r most : Nat} {L' : List Dg} {lost : Int} (hx : ¬ X g) (h1 : w.cell? ⟨g, 1, none⟩ = some (.int .i64 lost)) (f1 : w.frozen? ⟨g, 1, none⟩ = false) (h0 : w.cell? ⟨g, 0, none⟩ = some (.pointer (some ⟨r, 0, none⟩)))
    (hk : Kept (fun k => X k ∨ k = g) w w') (hr : Ring (fun k => X k ∨ k = g) w' r most L') : BagS X w' g most L' lost :=
  ⟨hx, kept_cell' hk (.inr rfl) h1, (World.frozen?_of_block (a := ⟨g, 1, none⟩) (hk.block g (.inr rfl) (World.block_lt_of_cell? _ _ h1))).trans f1, r, kept_cell' hk (.inr rfl) h0, hr⟩
theorem bnone_no (g r : Nat) (w : World) (hc : w.cell? ⟨g, 0, none⟩ = some (.pointer (some ⟨r, 0, none⟩))) : Calls Try.prog 37 #[.pointer (some ⟨g, 0, none⟩)] w fun e w' => e = .returned (.bool false) ∧ w = w' := by
  go_enter Try.func37, Try.ntmps37
  go_wp2
  go_ret
  exact ⟨rfl, rfl⟩
theorem bag_none {X : Nat → Prop} {W : World} {g most : Nat} {L : List Dg} {lost : Int} (h : BagS X W g most L lost) : Calls Try.prog 37 #[.pointer (some ⟨g, 0, none⟩)] W fun e w' => e = .returned (.bool false) ∧ W = w' := by
  obtain ⟨hx, h1, f1, r, h0, hr⟩ := h
  exact bnone_no g r W h0
theorem blen (X : Nat → Prop) (g most : Nat) (L : List Dg) (lost : Int) (w : World) (h : BagS X w g most L lost) : Calls Try.prog 24 #[.pointer (some ⟨g, 0, none⟩)] w fun e w' => e = .returned (.int .i64 L.length) ∧ w = w' := by
  have H := Lib.hid (bag_none h)
  obtain ⟨hx, h1, f1, r, h0, hr⟩ := h
  have HL := Lib.hid (rlen _ _ _ _ w hr)
  clear hr f1 h1
  generalize L.length = n at *
  go_enter Try.func24, Try.ntmps24
  go_wp2_with (first | (go_at_call 37; refine H.out.mono ?_; rintro e w1 ⟨rfl, rfl⟩) | (go_at_call 41; refine HL.out.mono ?_; rintro e w1 ⟨rfl, rfl⟩))
  go_ret
  exact ⟨rfl, rfl⟩
theorem blost (X : Nat → Prop) (g most : Nat) (L : List Dg) (lost : Int) (w : World) (h : BagS X w g most L lost) : Calls Try.prog 26 #[.pointer (some ⟨g, 0, none⟩)] w fun e w' => e = .returned (.int .i64 lost) ∧ w = w' := by
  have H := Lib.hid (bag_none h)
  obtain ⟨hx, h1, f1, r, h0, hr⟩ := h
  clear hr f1
  go_enter Try.func26, Try.ntmps26
  go_wp2_with (first | (go_at_call 37; refine H.out.mono ?_; rintro e w1 ⟨rfl, rfl⟩))
  go_ret
  exact ⟨rfl, rfl⟩
theorem bat_any (X : Nat → Prop) (g most : Nat) (L : List Dg) (lost i : Int) (w : World) (h : BagS X w g most L lost) :
    Calls Try.prog 22 #[.pointer (some ⟨g, 0, none⟩), .int .i64 i] w fun e w' => e = .returned (.tuple #[dv (atV L i), .bool (atOk L i)]) ∧ Below w.heap.size w w' := by
  have hbl := (Below.refl w.heap.size w).alloc (Nat.le_refl _) Z49
  have h' := bag_below h hbl
  have H := Lib.hid (bag_none h')
  have HNEW : Hid (At5 (w.alloc Z49) w.heap.size 0 d0) := new_at5 w d0 49
  obtain ⟨hx, h1, f1, r, h0, hr⟩ := h'
  have HA := rat_any _ r most L i _ hr
  generalize atV L i = d at *
  generalize atOk L i = o at *
  have HD : Hid (dv d = .agg #[.int .u32 d.h1, .int .u16 d.p1, .int .u32 d.h2, .int .u16 d.p2, .string d.s]) := rfl
  unfold dv cs5 at HA
  have HA := Lib.hid HA
  clear hr f1 h1 h hbl
  go_enter Try.func22, Try.ntmps22
  go_wp2_with (first | (go_at_call 37; refine H.out.mono ?_; rintro e w1 ⟨rfl, rfl⟩) | (go_at_call 40; refine HA.out.mono ?_; rintro e w2 ⟨rfl, hg2⟩; obtain ⟨⟨s0, s1, s2, s3, s4⟩, t0, t1, t2, t3, t4⟩ := at5_below HNEW.out hg2))
  have hp := put5_at (at5_below HNEW.out hg2) d
  have hbb : Below w.heap.size w (put5 w2 w.heap.size 0 d) := put5_below (Below.trans ((Below.refl w.heap.size w).alloc (Nat.le_refl _) Z49) (hg2.mono (by simp))) _ _ _ (Nat.le_refl _)
  change bodyPost _ _ _ _ _ (put5 w2 w.heap.size 0 d)
  generalize put5 w2 w.heap.size 0 d = w5 at *
  obtain ⟨⟨c0, c1, c2, c3, c4⟩, -⟩ := hp
  refine bodyPost_ret (v := .tuple #[dv d, .bool o]) (by simp [results, Try.results22, go_sem, c0, c1, c2, c3, c4, dv, cs5]) rfl ?_
  exact ⟨rfl, hbb⟩
theorem btake_any (X : Nat → Prop) (g most : Nat) (L : List Dg) (lost i : Int) (w : World) (h : BagS X w g most L lost) (hX : ∀ k, X k → k < w.heap.size) :
    Calls Try.prog 21 #[.pointer (some ⟨g, 0, none⟩), .int .i64 i] w fun e w' => e = .returned (.tuple #[dv (atV L i), .bool (atOk L i)]) ∧ BagS X w' g most (cutL L i) lost ∧ Kept X w w' := by
  have hbl := (Below.refl w.heap.size w).alloc (Nat.le_refl _) Z49
  have hgl := bag_lt h
  have h' := bag_below h hbl
  have H := Lib.hid (bag_none h')
  have HNEW : Hid (At5 (w.alloc Z49) w.heap.size 0 d0) := new_at5 w d0 49
  obtain ⟨hx, h1, f1, r, h0, hr⟩ := h
  have hr2 : Ring (fun k => (X k ∨ k = g) ∨ k = w.heap.size) (w.alloc Z49) r most L := ring_widen hr hbl (fun k hk => hk.elim .inl (fun e => .inr (by omega)))
  have hc0 := cell_below hbl h0
  have HA := rcut_any _ r most L i _ hr2 (fun k hk => by simp; exact hk.elim (fun h => h.elim (fun h => by have := hX k h; omega) (fun h => by omega)) (fun h => by omega))
  unfold CutRes at HA
  generalize atV L i = d at *
  generalize atOk L i = o at *
  generalize cutL L i = l' at *
  unfold dv cs5 at HA
  have HA := Lib.hid HA
  have H0 := Lib.hid h0
  have H1 := Lib.hid h1
  have HF1 := Lib.hid f1
  have HX := Lib.hid hX
  have HBL := Lib.hid hbl
  clear hr hr2 f1 h1 h0 h' hX hbl
  go_enter Try.func21, Try.ntmps21
  go_wp2_with (first | (go_at_call 37; refine H.out.mono ?_; rintro e w1 ⟨rfl, rfl⟩) | (go_at_call 39; refine HA.out.mono ?_; rintro e w2 ⟨rfl, hr2, hk2⟩; obtain ⟨⟨s0, s1, s2, s3, s4⟩, t0, t1, t2, t3, t4⟩ := kept_at5 HNEW.out hk2 (.inr rfl)))
  have hp := put5_at (kept_at5 HNEW.out hk2 (.inr rfl)) d
  have hk3 : Kept (fun k => X k ∨ k = g) w (put5 w2 w.heap.size 0 d) := Kept.put5 ((Kept.of_below HBL.out).trans (hk2.mono (fun k h => .inl h))) _ _ _ (fun h => h.elim (fun h => by have := HX.out _ h; omega) (fun h => by omega))
  have hr3 : Ring (fun k => X k ∨ k = g) (put5 w2 w.heap.size 0 d) r most l' := by
    refine ring_narrow (Y := fun k => (X k ∨ k = g) ∨ k = w.heap.size) (ring_kept hr2 (fun k hk hnx => ?_)) (fun k h => .inl h)
    obtain ⟨ob, ho⟩ : ∃ ob, w2.heap[k]? = some ob := ⟨_, Array.getElem?_eq_getElem hk⟩
    rw [ho]; exact heap_put_other ho (fun e => hnx (.inr e))
  change bodyPost _ _ _ _ _ (put5 w2 w.heap.size 0 d)
  generalize put5 w2 w.heap.size 0 d = w5 at *
  obtain ⟨⟨c0, c1, c2, c3, c4⟩, -⟩ := hp
  refine bodyPost_ret (v := .tuple #[dv d, .bool o]) (by simp [results, Try.results21, go_sem, c0, c1, c2, c3, c4, dv, cs5]) rfl ?_
  exact ⟨rfl, bag_ring hx H1.out HF1.out H0.out hk3 hr3, hk3.mono (fun k h => .inl h)⟩
end Go.Proofs.Ytfphpbhopfhlcaa.D
