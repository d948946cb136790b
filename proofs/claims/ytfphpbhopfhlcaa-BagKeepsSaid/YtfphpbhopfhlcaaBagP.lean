/-
  bag: 'Put', 'Double', 'New'.
-/
import Derived.Test.YtfphpbhopfhlcaaBagB
namespace Go.Proofs.Ytfphpbhopfhlcaa.D
open Go.RowKit
set_option linter.unusedVariables false
set_option linter.unusedSimpArgs false
/-- What 'Put' answers, leaves, and loses. -/
def putE (most : Nat) (L : List Dg) (d : Dg) : Int := if 8192 < d.s.size then 11 else pushE most L
def putL (most : Nat) (L : List Dg) (d : Dg) : List Dg := if 8192 < d.s.size then L else pushL most L d
def putN (most : Nat) (L : List Dg) (d : Dg) (lost : Int) : Int := if 8192 < d.s.size then lost else if L.length < most then lost else lost + 1
theorem bput_any (X : Nat → Prop) (g most : Nat) (L : List Dg) (lost : Int) (d : Dg) (w : World) (h : BagS X w g most L lost) (hX : ∀ k, X k → k < w.heap.size) (hlo : 0 ≤ lost ∧ lost ≤ 1000000) (hds : d.s.size ≤ 9223372036854775807) :
    Calls Try.prog 20 #[.pointer (some ⟨g, 0, none⟩), dv d] w fun e w' => e = .returned (.int .i64 (putE most L d)) ∧ BagS X w' g most (putL most L d) (putN most L d lost) ∧ Kept X w w' := by
  have hbl := (Below.refl w.heap.size w).alloc (Nat.le_refl _) (B49 d)
  have hgl := bag_lt h
  have h' := bag_below h hbl
  have H := Lib.hid (bag_none h')
  have HBAG := Lib.hid h'
  have hnew : At5 (w.alloc (B49 d)) w.heap.size 0 d := new_at5 w d 49
  have HNEW := Lib.hid hnew
  obtain ⟨hx, h1, f1, r, h0, hr⟩ := h
  have hr2 : Ring (fun k => (X k ∨ k = g) ∨ k = w.heap.size) (w.alloc (B49 d)) r most L := ring_widen hr hbl (fun k hk => hk.elim .inl (fun e => .inr (by omega)))
  have hc0 := cell_below hbl h0
  have hXs : ∀ k, ((X k ∨ k = g) ∨ k = w.heap.size) → k < (w.alloc (B49 d)).heap.size := fun k hk => by simp; exact hk.elim (fun h => h.elim (fun h => by have := hX k h; omega) (fun h => by omega)) (fun h => by omega)
  have HPU : Hid (∀ W, Below (w.alloc (B49 d)).heap.size (w.alloc (B49 d)) W → Calls Try.prog 38 #[.pointer (some ⟨r, 0, none⟩), .agg #[.int .u32 d.h1, .int .u16 d.p1, .int .u32 d.h2, .int .u16 d.p2, .string d.s]] W fun e w' => e = .returned (.int .i64 (pushE most L)) ∧ Ring (fun k => (X k ∨ k = g) ∨ k = w.heap.size) w' r most (pushL most L d) ∧ Kept (fun k => (X k ∨ k = g) ∨ k = w.heap.size) (w.alloc (B49 d)) w') := by
    intro W hb
    refine (rpush_any _ r most L d W (ring_below hr2 hb) (fun k hk => Nat.lt_of_lt_of_le (hXs k hk) hb.size)).mono ?_
    rintro e w' ⟨he, hrr, hk⟩
    exact ⟨he, hrr, (Kept.of_below hb).trans hk⟩
  have H0 := Lib.hid h0
  have H1 := Lib.hid h1
  have HF1 := Lib.hid f1
  have HBL := Lib.hid hbl
  have HC0 := Lib.hid hc0
  obtain ⟨⟨x0, x1, x2, x3, x4⟩, -⟩ := hnew
  clear hr hr2 f1 h1 h0 h' hX hbl hXs
  by_cases hlong : 8192 < d.s.size
  · have e1 : putE most L d = 11 := if_pos hlong
    have e2 : putL most L d = L := if_pos hlong
    have e3 : putN most L d lost = lost := if_pos hlong
    rw [e1, e2, e3]
    clear e1 e2 e3
    have hl : (8192 : Int) < (d.s.size : Int) := by omega
    unfold dv cs5
    go_enter Try.func20, Try.ntmps20
    go_wp2_with (go_at_call 37; refine H.out.mono ?_; rintro e w1 ⟨rfl, rfl⟩)
    go_ret
    exact ⟨rfl, HBAG.out, Kept.of_below HBL.out⟩
  · have hl : ¬ ((8192 : Int) < (d.s.size : Int)) := by omega
    have hds2 : (d.s.size : Int) ≤ 9223372036854775807 := by omega
    by_cases hm : L.length < most
    · have e1 : putE most L d = 0 := by rw [putE, if_neg hlong, pushE, if_pos hm]
      have e2 : putL most L d = pushL most L d := if_neg hlong
      have e3 : putN most L d lost = lost := by rw [putN, if_neg hlong, if_pos hm]
      have e4 : pushE most L = 0 := if_pos hm
      rw [e1, e2, e3]
      rw [e4] at HPU
      clear e1 e2 e3 e4 hm hlong
      generalize pushL most L d = l' at *
      unfold dv cs5
      go_enter Try.func20, Try.ntmps20
      go_wp2_with (go_at_call 37; refine H.out.mono ?_; rintro e w1 ⟨rfl, rfl⟩)
      go_region_held3 (fun w' => w'.cell? ⟨g, 0, none⟩ = some (.pointer (some ⟨r, 0, none⟩)) ∧ w'.cell? ⟨w.heap.size, 0, none⟩ = some (.int .u32 d.h1) ∧ w'.cell? ⟨w.heap.size, 1, none⟩ = some (.int .u16 d.p1) ∧ w'.cell? ⟨w.heap.size, 2, none⟩ = some (.int .u32 d.h2) ∧ w'.cell? ⟨w.heap.size, 3, none⟩ = some (.int .u16 d.p2) ∧ w'.cell? ⟨w.heap.size, 4, none⟩ = some (.string d.s))
      (first
        | (refine ⟨?_, ?_, ?_, ?_, ?_, ?_⟩ <;> first | with_reducible assumption | exact kept_cell' hk2 (.inl (.inr rfl)) HC0.out | exact kept_cell' hk2 (.inr rfl) (by with_reducible assumption) | go_keep)
        | with_reducible assumption | go_keep)
      (first | (go_at_call 38; refine (HPU.out _ (Below.refl _ _).drew).mono ?_; rintro e w2 ⟨rfl, hr2, hk2⟩))
      have hk3 : Kept (fun k => X k ∨ k = g) w w2 := (Kept.of_below HBL.out).trans (hk2.mono (fun k h => .inl h))
      have hr3 := ring_narrow (X := fun k => X k ∨ k = g) hr2 (fun k h => .inl h)
      go_wp2
      go_ret
      exact ⟨rfl, bag_ring hx H1.out HF1.out H0.out hk3 hr3, hk3.mono (fun k h => .inl h)⟩
    · have e1 : putE most L d = 31 := by rw [putE, if_neg hlong, pushE, if_neg hm]
      have e2 : putL most L d = pushL most L d := if_neg hlong
      have e3 : putN most L d lost = lost + 1 := by rw [putN, if_neg hlong, if_neg hm]
      have e4 : pushE most L = 31 := if_neg hm
      rw [e1, e2, e3]
      rw [e4] at HPU
      clear e1 e2 e3 e4 hm hlong
      generalize pushL most L d = l' at *
      unfold dv cs5
      go_enter Try.func20, Try.ntmps20
      go_wp2_with (go_at_call 37; refine H.out.mono ?_; rintro e w1 ⟨rfl, rfl⟩)
      go_region_held3 (fun w' => w'.cell? ⟨g, 0, none⟩ = some (.pointer (some ⟨r, 0, none⟩)) ∧ w'.cell? ⟨w.heap.size, 0, none⟩ = some (.int .u32 d.h1) ∧ w'.cell? ⟨w.heap.size, 1, none⟩ = some (.int .u16 d.p1) ∧ w'.cell? ⟨w.heap.size, 2, none⟩ = some (.int .u32 d.h2) ∧ w'.cell? ⟨w.heap.size, 3, none⟩ = some (.int .u16 d.p2) ∧ w'.cell? ⟨w.heap.size, 4, none⟩ = some (.string d.s))
      (first
        | (refine ⟨?_, ?_, ?_, ?_, ?_, ?_⟩ <;> first | with_reducible assumption | exact kept_cell' hk2 (.inl (.inr rfl)) HC0.out | exact kept_cell' hk2 (.inr rfl) (by with_reducible assumption) | go_keep)
        | with_reducible assumption | go_keep)
      (first | (go_at_call 38; refine (HPU.out _ (Below.refl _ _).drew).mono ?_; rintro e w2 ⟨rfl, hr2, hk2⟩))
      have hk3 : Kept (fun k => X k ∨ k = g) w w2 := (Kept.of_below HBL.out).trans (hk2.mono (fun k h => .inl h))
      have hr3 := ring_narrow (X := fun k => X k ∨ k = g) hr2 (fun k h => .inl h)
      have hbag := bag_ring hx H1.out HF1.out H0.out hk3 hr3
      obtain ⟨_, q1, qf, r', q0, qr⟩ := hbag
      have QR := Lib.hid qr
      have Q0 := Lib.hid q0
      have HK3 := Lib.hid hk3
      clear qr q0 hk3 hr3 hr2 hk2
      go_wp2
      go_ret
      refine ⟨rfl, ⟨hx, set_same q1, by simp [qf], r', set_other Q0.out (by simp), ring_kept QR.out (fun k hk hnx => ?_)⟩, (HK3.out.mono (fun k h => .inl h)).set _ _ _ hx⟩
      exact Below.heap_setCell _ _ _ _ (fun e => hnx (.inr e))
theorem bdouble_no (X : Nat → Prop) (g most : Nat) (L : List Dg) (lost i : Int) (w : World) (h : BagS X w g most L lost) (hok : atOk L i = false) :
    Calls Try.prog 23 #[.pointer (some ⟨g, 0, none⟩), .int .i64 i] w fun e w' => e = .returned (.int .i64 51) ∧ Below w.heap.size w w' := by
  have H := Lib.hid (bag_none h)
  have HA := bat_any X g most L lost i w h
  have hv : atV L i = d0 := by simp [atV, hok]
  rw [hok, hv] at HA
  unfold dv cs5 at HA
  have HA := Lib.hid HA
  clear h hok hv
  go_enter Try.func23, Try.ntmps23
  go_wp2_with (first | (go_at_call 37; refine H.out.mono ?_; rintro e w1 ⟨rfl, rfl⟩) | (go_at_call 22; refine HA.out.mono ?_; rintro e w2 ⟨rfl, hg2⟩))
  go_ret
  exact ⟨rfl, hg2.trans (((Below.refl w2.heap.size w2).alloc (Nat.le_refl _) (B49 d0)).mono hg2.size)⟩
theorem bdouble_yes (X : Nat → Prop) (g most : Nat) (L : List Dg) (lost : Int) (k : Nat) (w : World) (h : BagS X w g most L lost) (hk : k < L.length) (hX : ∀ k, X k → k < w.heap.size) :
    Calls Try.prog 23 #[.pointer (some ⟨g, 0, none⟩), .int .i64 k] w fun e w' => e = .returned (.int .i64 (pushE most L)) ∧ BagS X w' g most (pushL most L (L.getD k d0)) lost ∧ Kept X w w' := by
  have H := Lib.hid (bag_none h)
  have HA := bat_any X g most L lost k w h
  have hok : atOk L (k : Int) = true := decide_eq_true ⟨by omega, by omega⟩
  have hv : atV L (k : Int) = L.getD k d0 := by simp [atV, hok]
  rw [hok, hv] at HA
  unfold dv cs5 at HA
  have HA := Lib.hid HA
  have HBAG := Lib.hid h
  have HX := Lib.hid hX
  generalize L.getD k d0 = d at *
  clear h hok hv hX
  go_enter Try.func23, Try.ntmps23
  go_upto_region 6 with (first | (go_at_call 37; refine H.out.mono ?_; rintro e w1 ⟨rfl, rfl⟩) | (go_at_call 22; refine HA.out.mono ?_; rintro e w1 ⟨rfl, hg1⟩))
  have hbag1 := bag_below HBAG.out hg1
  have hX1 : ∀ k, X k → k < w1.heap.size := fun k h => Nat.lt_of_lt_of_le (HX.out k h) hg1.size
  have hbl := (Below.refl w1.heap.size w1).alloc (Nat.le_refl _) (B49 d)
  have hgl := bag_lt hbag1
  have hnew : At5 (w1.alloc (B49 d)) w1.heap.size 0 d := new_at5 w1 d 49
  obtain ⟨hx, h1, f1, r, h0, hr⟩ := hbag1
  have hr2 : Ring (fun k => (X k ∨ k = g) ∨ k = w1.heap.size) (w1.alloc (B49 d)) r most L := ring_widen hr hbl (fun k hk => hk.elim .inl (fun e => .inr (by omega)))
  have hc0 := cell_below hbl h0
  have hXs : ∀ k, ((X k ∨ k = g) ∨ k = w1.heap.size) → k < (w1.alloc (B49 d)).heap.size := fun k hk => by simp; exact hk.elim (fun h => h.elim (fun h => by have := hX1 k h; omega) (fun h => by omega)) (fun h => by omega)
  have HPU : Hid (∀ W, Below (w1.alloc (B49 d)).heap.size (w1.alloc (B49 d)) W → Calls Try.prog 38 #[.pointer (some ⟨r, 0, none⟩), .agg #[.int .u32 d.h1, .int .u16 d.p1, .int .u32 d.h2, .int .u16 d.p2, .string d.s]] W fun e w' => e = .returned (.int .i64 (pushE most L)) ∧ Ring (fun k => (X k ∨ k = g) ∨ k = w1.heap.size) w' r most (pushL most L d) ∧ Kept (fun k => (X k ∨ k = g) ∨ k = w1.heap.size) (w1.alloc (B49 d)) w') := by
    intro W hb
    refine (rpush_any _ r most L d W (ring_below hr2 hb) (fun k hk => Nat.lt_of_lt_of_le (hXs k hk) hb.size)).mono ?_
    rintro e w' ⟨he, hrr, hk⟩
    exact ⟨he, hrr, (Kept.of_below hb).trans hk⟩
  have H0 := Lib.hid h0
  have H1 := Lib.hid h1
  have HF1 := Lib.hid f1
  have HBL : Hid (Kept X w (w1.alloc (B49 d))) := (Kept.of_below hg1).trans (Kept.of_below hbl)
  have HBL2 : Hid (Kept (fun k => X k ∨ k = g) w1 (w1.alloc (B49 d))) := Kept.of_below hbl
  have HC0 := Lib.hid hc0
  obtain ⟨⟨x0, x1, x2, x3, x4⟩, -⟩ := hnew
  clear hr hr2 f1 h1 h0 hX1 hbl hXs hg1
  go_region_held3 (fun w' => w'.cell? ⟨g, 0, none⟩ = some (.pointer (some ⟨r, 0, none⟩)) ∧ w'.cell? ⟨w1.heap.size, 0, none⟩ = some (.int .u32 d.h1) ∧ w'.cell? ⟨w1.heap.size, 1, none⟩ = some (.int .u16 d.p1) ∧ w'.cell? ⟨w1.heap.size, 2, none⟩ = some (.int .u32 d.h2) ∧ w'.cell? ⟨w1.heap.size, 3, none⟩ = some (.int .u16 d.p2) ∧ w'.cell? ⟨w1.heap.size, 4, none⟩ = some (.string d.s))
    (first
      | (refine ⟨?_, ?_, ?_, ?_, ?_, ?_⟩ <;> first | with_reducible assumption | exact kept_cell' hk2 (.inl (.inr rfl)) HC0.out | exact kept_cell' hk2 (.inr rfl) (by with_reducible assumption) | go_keep)
      | with_reducible assumption | go_keep)
    (first | (go_at_call 38; refine (HPU.out _ (Below.refl _ _).drew).mono ?_; rintro e w2 ⟨rfl, hr2, hk2⟩))
  have hk3 : Kept X w w2 := HBL.out.trans (hk2.mono (fun k h => .inl (.inl h)))
  have hk4 : Kept (fun k => X k ∨ k = g) w1 w2 := HBL2.out.trans (hk2.mono (fun k h => .inl h))
  have hr3 := ring_narrow (X := fun k => X k ∨ k = g) hr2 (fun k h => .inl h)
  go_wp2
  go_ret
  exact ⟨rfl, bag_ring hx H1.out HF1.out H0.out hk4 hr3, hk3⟩
def dblE (most : Nat) (L : List Dg) (i : Int) : Int := if atOk L i = true then pushE most L else 51
def dblL (most : Nat) (L : List Dg) (i : Int) : List Dg := if atOk L i = true then pushL most L (L.getD i.toNat d0) else L
theorem bdouble_any (X : Nat → Prop) (g most : Nat) (L : List Dg) (lost i : Int) (w : World) (h : BagS X w g most L lost) (hX : ∀ k, X k → k < w.heap.size) :
    Calls Try.prog 23 #[.pointer (some ⟨g, 0, none⟩), .int .i64 i] w fun e w' => e = .returned (.int .i64 (dblE most L i)) ∧ BagS X w' g most (dblL most L i) lost ∧ Kept X w w' := by
  cases hok : atOk L i with
  | true =>
    obtain ⟨h0, h1⟩ := of_decide_eq_true hok
    obtain ⟨k, rfl⟩ := Int.eq_ofNat_of_zero_le h0
    refine (bdouble_yes X g most L lost k w h (by omega) hX).mono ?_
    rintro e w' ⟨rfl, hr, hk⟩
    exact ⟨by simp [dblE, hok], by simpa [dblL, hok] using hr, hk⟩
  | false =>
    refine (bdouble_no X g most L lost i w h hok).mono ?_
    rintro e w' ⟨rfl, hb⟩
    exact ⟨by simp [dblE, hok], by simpa [dblL, hok] using bag_below h hb, Kept.of_below hb⟩
theorem bnew_yes (X : Nat → Prop) (most : Nat) (w : World) (h1 : 1 ≤ most) (h2 : most ≤ 1024) (hX : ∀ k, X k → k < w.heap.size) :
    Calls Try.prog 19 #[.int .i64 most] w fun e w' => ∃ g, e = .returned (.pointer (some ⟨g, 0, none⟩)) ∧ BagS X w' g most [] 0 ∧ Below w.heap.size w w' := by
  have hm2 : ¬ (1024 < (most : Int)) := by omega
  have HN := Lib.hid (rnew_yes X most w h1 (by omega) hX)
  have HX := Lib.hid hX
  clear hX
  go_enter Try.func19, Try.ntmps19
  go_wp2_with (go_at_call 36; refine HN.out.mono ?_; rintro e w1 ⟨rfl, hr, hb1, -⟩)
  go_ret
  refine ⟨w1.heap.size, rfl, ⟨fun hx => ?_, by simp, by simp, w.heap.size, by simp, ring_widen hr ((Below.refl _ _).alloc (Nat.le_refl _) _) (fun k hk => hk.elim .inl (fun e => .inr (by omega)))⟩, hb1.alloc hb1.size _⟩
  have := HX.out _ hx
  have := hb1.size
  omega
end Go.Proofs.Ytfphpbhopfhlcaa.D
