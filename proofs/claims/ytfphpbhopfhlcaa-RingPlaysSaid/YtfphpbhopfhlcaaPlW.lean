/-
  The walk of RingPlays.
-/
import Derived.Test.YtfphpbhopfhlcaaPl
namespace Go.Proofs.Ytfphpbhopfhlcaa
open Go.RowKit Go.Proofs.YtfphpbhopfhlcaaW.PrintWords
set_option linter.unusedVariables false
set_option linter.unusedSimpArgs false
set_option maxRecDepth 100000
set_option maxHeartbeats 4000000 in
theorem plays_walk (a0 : Int) (A : Option Addr) (n cap : Nat) (F : Nat → OpI) (ask : Int) (w : World) (HO : ReadsOpI w A n F) :
    Calls Try.prog 4 #[.int .i64 a0, .slice A n cap, .int .i64 ask] w fun e w' => e = .returned (.bool true) ∧ Below w.heap.size w w' := by
  have HOO := Lib.hid HO
  clear HO
  by_cases c0 : 60 < n
  · go_enter Try.func4, Try.ntmps4
    go_wp2_with (go_at_call 7; refine (ring_lives _).mono ?_; rintro e w9 ⟨rfl, hb9⟩)
    go_ret
    exact ⟨rfl, hb9⟩
  by_cases c1 : a0 < 1
  · have HN := Lib.hid (rnew_no a0 w (.inl c1))
    go_enter Try.func4, Try.ntmps4
    go_wp2_with (first
      | (go_at_call 8; refine HN.out.mono ?_; rintro e w1 ⟨rfl, rfl⟩)
      | (go_at_call 7; refine (ring_lives _).mono ?_; rintro e w9 ⟨rfl, hb9⟩))
    go_ret
    exact ⟨rfl, hb9⟩
  by_cases c2 : 65536 < a0
  · have HN := Lib.hid (rnew_no a0 w (.inr c2))
    go_enter Try.func4, Try.ntmps4
    go_wp2_with (first
      | (go_at_call 8; refine HN.out.mono ?_; rintro e w1 ⟨rfl, rfl⟩)
      | (go_at_call 7; refine (ring_lives _).mono ?_; rintro e w9 ⟨rfl, hb9⟩))
    go_ret
    exact ⟨rfl, hb9⟩
  obtain ⟨most, rfl⟩ := Int.eq_ofNat_of_zero_le (show 0 ≤ a0 by omega)
  have HN := Lib.hid (rnew_yes (fun k => k < w.heap.size) most w (by omega) (by omega) (fun k h => h))
  have hm1 : 1 ≤ most := by omega
  have hm2 : most ≤ 65536 := by omega
  go_enter Try.func4, Try.ntmps4
  go_wp2_with (go_at_call 8; refine HN.out.mono ?_; rintro e w1 ⟨rfl, hr1, hb1⟩)
  have HS1 : Hid (PlS w (fun k => k < w.heap.size) w.heap.size most [] none 0 w1) := Lib.hid ⟨hr1, ⟨⟨rfl, by simp, fun h => absurd h (by simp)⟩, Nat.le_refl _⟩, fun ad e => (by cases e), fun k h => h, fun k h => Nat.lt_of_lt_of_le h hb1.size, hb1⟩
  clear hr1 hb1 HN
  go_loopw [7, 8, 42] (fun r s x wr => ∃ (k g : Nat) (L : List Int) (A2 : Option Addr) (cc : Nat) (X : Nat → Prop), k ≤ n ∧ r = .pointer (some ⟨g, 0, none⟩) ∧ s = .slice A2 L.length cc ∧ x = .int .i64 k ∧ PlS w X g most L A2 cc wr) (fun _ _ x _ => n - (intOf x).toNat)
  case atStart => exact ⟨0, w.heap.size, [], none, 0, _, Nat.zero_le _, rfl, rfl, rfl, HS1.out⟩
  case round =>
    obtain ⟨k, g, L, A2, cc, X, hk, rfl, rfl, rfl, hs⟩ := hrel
    have HS := Lib.hid hs
    clear hs
    have hLm := (ring_len HS.out.ring).1
    by_cases hlt : k < n
    · obtain ⟨b, off, rfl, hops⟩ := HOO.out (by omega)
      have hop := opIAt_below (hops k hlt) HS.out.low
      have hop0 := (hops k hlt).2.2.2
      generalize F k = o at *
      obtain ⟨kd, nn, B, d, l⟩ := o
      obtain ⟨h0, h1, h2, hl⟩ := hop
      have HLW := Lib.hid hop0
      clear hop0
      have HL := Lib.hid hl
      dsimp only at h0 h1 h2
      clear hops hl
      by_cases c3 : 20 < l.length
      · go_wp2_with (go_at_call 7; refine (ring_lives _).mono ?_; rintro e w9 ⟨rfl, hb9⟩)
        go_ret
        exact ⟨rfl, (HS.out.low.trans (Below.alloc (Below.refl _ _) HS.out.low.size _)).trans (hb9.mono (by have := HS.out.low.size; simp; omega))⟩
      go_upto_region 14 with fail
      have hb1 : Below wr.heap.size wr (wr.alloc (.cells #[.int .i64 kd, .int .i64 nn, .slice B l.length d] 35)) := (Below.refl _ wr).alloc (Nat.le_refl _) _
      obtain ⟨k0, k1, k2⟩ := op_cells wr kd nn (.slice B l.length d)
      have hsz1 : (wr.alloc (.cells #[.int .i64 kd, .int .i64 nn, .slice B l.length d] 35)).heap.size = wr.heap.size + 1 := by simp
      obtain ⟨W1, hW1⟩ : ∃ W1, W1 = wr.alloc (.cells #[.int .i64 kd, .int .i64 nn, .slice B l.length d] 35) := ⟨_, rfl⟩
      rw [← hW1] at hb1 k0 k1 k2 hsz1 ⊢
      clear hW1 h0 h1 h2
      have HB1 := Lib.hid hb1
      have HS1 := Lib.hid (slI_below HS.out.sl hb1)
      have HLB := Lib.hid hb1
      have HL1 := Lib.hid (slI_below HL.out hb1)
      clear hb1 HLB
      by_cases c4 : kd < 0
      · have HC := Lib.hid (rclone X g most L W1 (ring_below HS.out.ring HB1.out))
        have HPO : Hid (∀ W, Below wr.heap.size wr W → Calls Try.prog 10 #[.pointer (some ⟨g, 0, none⟩)] W (CutRes (widX X wr.heap.size W.heap.size) g most L 0 W)) := fun W hW => rpop_any _ g most L W (HS.out.wide hW)
        go_wp2_with (first
          | (go_at_call 12; refine HC.out.mono ?_; rintro e w2 ⟨gc, rfl, hrc, hb2⟩; have HB2 := Lib.hid (HB1.out.trans (hb2.mono HB1.out.size)))
          | (go_at_call 10; refine (HPO.out w2 HB2.out).mono ?_; rintro e w3 ⟨rfl, hr3, hk3⟩)
          | (go_at_call 9; refine (rpush_any _ g most _ 5 w3 hr3 (fun k hk => Nat.lt_of_lt_of_le (HS.out.wlt HB2.out k hk) hk3.size)).mono ?_; rintro e w5 ⟨rfl, -, hk5⟩; have HQ := Lib.hid (clone_next HS.out HB1.out hsz1 hb2 hrc (hk3.trans hk5)))
          | (go_at_call 16; refine (rlike _ gc most cc _ A2 ask w5 HQ.out.ring (slI_reads HQ.out.sl)).mono ?_; rintro e w4 ⟨rfl, hb4⟩))
        go_roundw
        case rel => exact ⟨k + 1, gc, _, A2, cc, _, by omega, rfl, rfl, by go_num, HQ.out.below hb4⟩
        case measure => simp [intOf]; omega
      by_cases c5 : 3 < kd
      · have c4' : 0 ≤ kd := by omega
        have HC := Lib.hid (rclone X g most L W1 (ring_below HS.out.ring HB1.out))
        have HPO : Hid (∀ W, Below wr.heap.size wr W → Calls Try.prog 10 #[.pointer (some ⟨g, 0, none⟩)] W (CutRes (widX X wr.heap.size W.heap.size) g most L 0 W)) := fun W hW => rpop_any _ g most L W (HS.out.wide hW)
        go_wp2_with (first
          | (go_at_call 12; refine HC.out.mono ?_; rintro e w2 ⟨gc, rfl, hrc, hb2⟩; have HB2 := Lib.hid (HB1.out.trans (hb2.mono HB1.out.size)))
          | (go_at_call 10; refine (HPO.out w2 HB2.out).mono ?_; rintro e w3 ⟨rfl, hr3, hk3⟩)
          | (go_at_call 9; refine (rpush_any _ g most _ 5 w3 hr3 (fun k hk => Nat.lt_of_lt_of_le (HS.out.wlt HB2.out k hk) hk3.size)).mono ?_; rintro e w5 ⟨rfl, -, hk5⟩; have HQ := Lib.hid (clone_next HS.out HB1.out hsz1 hb2 hrc (hk3.trans hk5)))
          | (go_at_call 16; refine (rlike _ gc most cc _ A2 ask w5 HQ.out.ring (slI_reads HQ.out.sl)).mono ?_; rintro e w4 ⟨rfl, hb4⟩))
        go_roundw
        case rel => exact ⟨k + 1, gc, _, A2, cc, _, by omega, rfl, rfl, by go_num, HQ.out.below hb4⟩
        case measure => simp [intOf]; omega
      have ck : kd = 0 ∨ kd = 1 ∨ kd = 2 ∨ kd = 3 := by omega
      clear c4 c5
      rcases ck with rfl | rfl | rfl | rfl
      · by_cases c6 : L.length < most
        · have hlt2 : (L.length : Int) < (most : Int) := by omega
          have HP : Hid (Calls Try.prog 13 #[.agg #[.int .i64 0, .int .i64 nn, .slice B l.length d], .slice A2 L.length cc, .int .i64 most] W1 (StepRes W1 A2 (L ++ [nn]) 0 true)) := step_push 0 nn B d l A2 cc L most W1 HS1.out HL1.out hLm hm2 (by omega) rfl c6
          have HPU : Hid (∀ W, Below wr.heap.size wr W → Calls Try.prog 9 #[.pointer (some ⟨g, 0, none⟩), .int .i64 nn] W fun e w' => e = .returned (.int .i64 0) ∧ Ring (widX X wr.heap.size W.heap.size) w' g most (L ++ [nn]) ∧ Kept (widX X wr.heap.size W.heap.size) W w') := fun W hW => by
            have h := rpush_any _ g most L nn W (HS.out.wide hW) (HS.out.wlt hW)
            rwa [show pushE most L = 0 from if_pos c6, show pushL most L nn = L ++ [nn] from if_pos c6] at h
          generalize L ++ [nn] = L9 at *
          go_wp2_with (first
            | (go_at_call 13; refine HP.out.mono ?_; rintro e w2 ⟨A3, c3, rfl, hsl, hbk, hb2⟩; have HB2 := Lib.hid (HB1.out.trans (hb2.mono HB1.out.size)); have k0b := cell_below hb2 k0; have k1b := cell_below hb2 k1; have k2b := cell_below hb2 k2)
            | (go_at_call 9; refine (HPU.out w2 HB2.out).mono ?_; rintro e w3 ⟨rfl, hr3, hk3⟩; have HQ := Lib.hid (HS.out.next HB2.out hsl (fun ad e => (hbk ad e).imp (fun h => ⟨by omega, h.2⟩) id) hr3 hk3))
            | (go_at_call 16; refine (rlike _ g most c3 _ A3 ask w3 HQ.out.ring (slI_reads HQ.out.sl)).mono ?_; rintro e w4 ⟨rfl, hb4⟩))
          go_roundw
          case rel => exact ⟨k + 1, g, _, A3, c3, _, by omega, rfl, rfl, by go_num, HQ.out.below hb4⟩
          case measure => simp [intOf]; omega
        · have hlt2 : (most : Int) ≤ (L.length : Int) := by omega
          have HP : Hid (Calls Try.prog 13 #[.agg #[.int .i64 0, .int .i64 nn, .slice B l.length d], .slice A2 L.length cc, .int .i64 most] W1 (StepRes W1 A2 L 0 false)) := step_full 0 nn B d l A2 cc L most W1 HS1.out HL1.out hLm hm2 (by omega) rfl c6
          have HPU : Hid (∀ W, Below wr.heap.size wr W → Calls Try.prog 9 #[.pointer (some ⟨g, 0, none⟩), .int .i64 nn] W fun e w' => e = .returned (.int .i64 31) ∧ Ring (widX X wr.heap.size W.heap.size) w' g most L ∧ Kept (widX X wr.heap.size W.heap.size) W w') := fun W hW => by
            have h := rpush_any _ g most L nn W (HS.out.wide hW) (HS.out.wlt hW)
            rwa [show pushE most L = 31 from if_neg c6, show pushL most L nn = L from if_neg c6] at h
          go_wp2_with (first
            | (go_at_call 13; refine HP.out.mono ?_; rintro e w2 ⟨A3, c3, rfl, hsl, hbk, hb2⟩; have HB2 := Lib.hid (HB1.out.trans (hb2.mono HB1.out.size)); have k0b := cell_below hb2 k0; have k1b := cell_below hb2 k1; have k2b := cell_below hb2 k2)
            | (go_at_call 9; refine (HPU.out w2 HB2.out).mono ?_; rintro e w3 ⟨rfl, hr3, hk3⟩; have HQ := Lib.hid (HS.out.next HB2.out hsl (fun ad e => (hbk ad e).imp (fun h => ⟨by omega, h.2⟩) id) hr3 hk3))
            | (go_at_call 16; refine (rlike _ g most c3 _ A3 ask w3 HQ.out.ring (slI_reads HQ.out.sl)).mono ?_; rintro e w4 ⟨rfl, hb4⟩))
          go_roundw
          case rel => exact ⟨k + 1, g, _, A3, c3, _, by omega, rfl, rfl, by go_num, HQ.out.below hb4⟩
          case measure => simp [intOf]; omega
      · by_cases c6 : 0 < L.length
        · have e1 : atOk L 0 = true := decide_eq_true (by omega)
          have HP : Hid (Calls Try.prog 13 #[.agg #[.int .i64 1, .int .i64 nn, .slice B l.length d], .slice A2 L.length cc, .int .i64 most] W1 (StepRes W1 A2 (L.eraseIdx 0) (L.getD 0 0) true)) := step_pop 1 nn B d l A2 cc L most W1 HS1.out HL1.out hLm hm2 (by omega) rfl c6
          have HPU : Hid (∀ W, Below wr.heap.size wr W → Calls Try.prog 10 #[.pointer (some ⟨g, 0, none⟩)] W fun e w' => e = .returned (.tuple #[.int .i64 (L.getD 0 0), .bool true]) ∧ Ring (widX X wr.heap.size W.heap.size) w' g most (L.eraseIdx 0) ∧ Kept (widX X wr.heap.size W.heap.size) W w') := fun W hW => by
            have h := rpop_any _ g most L W (HS.out.wide hW)
            unfold CutRes at h
            rwa [show atV L 0 = L.getD 0 0 from (by rw [atV, if_pos e1]; rfl), show atOk L 0 = true from e1, show cutL L 0 = L.eraseIdx 0 from (by rw [cutL, if_pos e1]; rfl)] at h
          clear e1
          generalize L.getD 0 0 = y at *
          generalize L.eraseIdx 0 = L9 at *
          go_wp2_with (first
            | (go_at_call 13; refine HP.out.mono ?_; rintro e w2 ⟨A3, c3, rfl, hsl, hbk, hb2⟩; have HB2 := Lib.hid (HB1.out.trans (hb2.mono HB1.out.size)); have k0b := cell_below hb2 k0; have k1b := cell_below hb2 k1; have k2b := cell_below hb2 k2)
            | (go_at_call 10; refine (HPU.out w2 HB2.out).mono ?_; rintro e w3 ⟨rfl, hr3, hk3⟩; have HQ := Lib.hid (HS.out.next HB2.out hsl (fun ad e => (hbk ad e).imp (fun h => ⟨by omega, h.2⟩) id) hr3 hk3))
            | (go_at_call 16; refine (rlike _ g most c3 _ A3 ask w3 HQ.out.ring (slI_reads HQ.out.sl)).mono ?_; rintro e w4 ⟨rfl, hb4⟩))
          go_roundw
          case rel => exact ⟨k + 1, g, _, A3, c3, _, by omega, rfl, rfl, by go_num, HQ.out.below hb4⟩
          case measure => simp [intOf]; omega
        · have e1 : atOk L 0 = false := decide_eq_false (by omega)
          have HP : Hid (Calls Try.prog 13 #[.agg #[.int .i64 1, .int .i64 nn, .slice B l.length d], .slice A2 L.length cc, .int .i64 most] W1 (StepRes W1 A2 L 0 false)) := step_out 1 nn B d l A2 cc L most W1 HS1.out HL1.out hLm hm2 (by omega) 0 (.inl ⟨rfl, rfl⟩) (by omega)
          have HPU : Hid (∀ W, Below wr.heap.size wr W → Calls Try.prog 10 #[.pointer (some ⟨g, 0, none⟩)] W fun e w' => e = .returned (.tuple #[.int .i64 0, .bool false]) ∧ Ring (widX X wr.heap.size W.heap.size) w' g most L ∧ Kept (widX X wr.heap.size W.heap.size) W w') := fun W hW => by
            have h := rpop_any _ g most L W (HS.out.wide hW)
            unfold CutRes at h
            rwa [show atV L 0 = 0 from (by rw [atV, if_neg (by rw [e1]; exact Bool.false_ne_true)]), show atOk L 0 = false from e1, show cutL L 0 = L from (by rw [cutL, if_neg (by rw [e1]; exact Bool.false_ne_true)])] at h
          clear e1
          go_wp2_with (first
            | (go_at_call 13; refine HP.out.mono ?_; rintro e w2 ⟨A3, c3, rfl, hsl, hbk, hb2⟩; have HB2 := Lib.hid (HB1.out.trans (hb2.mono HB1.out.size)); have k0b := cell_below hb2 k0; have k1b := cell_below hb2 k1; have k2b := cell_below hb2 k2)
            | (go_at_call 10; refine (HPU.out w2 HB2.out).mono ?_; rintro e w3 ⟨rfl, hr3, hk3⟩; have HQ := Lib.hid (HS.out.next HB2.out hsl (fun ad e => (hbk ad e).imp (fun h => ⟨by omega, h.2⟩) id) hr3 hk3))
            | (go_at_call 16; refine (rlike _ g most c3 _ A3 ask w3 HQ.out.ring (slI_reads HQ.out.sl)).mono ?_; rintro e w4 ⟨rfl, hb4⟩))
          go_roundw
          case rel => exact ⟨k + 1, g, _, A3, c3, _, by omega, rfl, rfl, by go_num, HQ.out.below hb4⟩
          case measure => simp [intOf]; omega
      · by_cases c6 : nn < 0 ∨ (L.length : Int) ≤ nn
        · have e1 : atOk L nn = false := decide_eq_false (by omega)
          have HP : Hid (Calls Try.prog 13 #[.agg #[.int .i64 2, .int .i64 nn, .slice B l.length d], .slice A2 L.length cc, .int .i64 most] W1 (StepRes W1 A2 L 0 false)) := step_out 2 nn B d l A2 cc L most W1 HS1.out HL1.out hLm hm2 (by omega) nn (.inr ⟨rfl, rfl⟩) c6
          have HPU : Hid (∀ W, Below wr.heap.size wr W → Calls Try.prog 14 #[.pointer (some ⟨g, 0, none⟩), .int .i64 nn] W fun e w' => e = .returned (.tuple #[.int .i64 0, .bool false]) ∧ Ring (widX X wr.heap.size W.heap.size) w' g most L ∧ Kept (widX X wr.heap.size W.heap.size) W w') := fun W hW => by
            have h := rcut_any _ g most L nn W (HS.out.wide hW)
            unfold CutRes at h
            rwa [show atV L nn = 0 from (by rw [atV, if_neg (by rw [e1]; exact Bool.false_ne_true)]), show atOk L nn = false from e1, show cutL L nn = L from (by rw [cutL, if_neg (by rw [e1]; exact Bool.false_ne_true)])] at h
          clear e1
          go_wp2_with (first
            | (go_at_call 13; refine HP.out.mono ?_; rintro e w2 ⟨A3, c3, rfl, hsl, hbk, hb2⟩; have HB2 := Lib.hid (HB1.out.trans (hb2.mono HB1.out.size)); have k0b := cell_below hb2 k0; have k1b := cell_below hb2 k1; have k2b := cell_below hb2 k2)
            | (go_at_call 14; refine (HPU.out w2 HB2.out).mono ?_; rintro e w3 ⟨rfl, hr3, hk3⟩; have HQ := Lib.hid (HS.out.next HB2.out hsl (fun ad e => (hbk ad e).imp (fun h => ⟨by omega, h.2⟩) id) hr3 hk3))
            | (go_at_call 16; refine (rlike _ g most c3 _ A3 ask w3 HQ.out.ring (slI_reads HQ.out.sl)).mono ?_; rintro e w4 ⟨rfl, hb4⟩))
          go_roundw
          case rel => exact ⟨k + 1, g, _, A3, c3, _, by omega, rfl, rfl, by go_num, HQ.out.below hb4⟩
          case measure => simp [intOf]; omega
        · obtain ⟨q, rfl⟩ := Int.eq_ofNat_of_zero_le (show 0 ≤ nn by omega)
          have c7 : q < L.length := by omega
          have e1 : atOk L (q : Int) = true := decide_eq_true (by omega)
          have HP : Hid (Calls Try.prog 13 #[.agg #[.int .i64 2, .int .i64 (q : Int), .slice B l.length d], .slice A2 L.length cc, .int .i64 most] W1 (StepRes W1 A2 (L.eraseIdx q) (L.getD q 0) true)) := step_cut 2 (q : Int) B d l A2 cc L most W1 HS1.out HL1.out hLm hm2 (by omega) rfl q rfl c7
          have HPU : Hid (∀ W, Below wr.heap.size wr W → Calls Try.prog 14 #[.pointer (some ⟨g, 0, none⟩), .int .i64 q] W fun e w' => e = .returned (.tuple #[.int .i64 (L.getD q 0), .bool true]) ∧ Ring (widX X wr.heap.size W.heap.size) w' g most (L.eraseIdx q) ∧ Kept (widX X wr.heap.size W.heap.size) W w') := fun W hW => by
            have h := rcut_any _ g most L (q : Int) W (HS.out.wide hW)
            unfold CutRes at h
            rwa [show atV L (q : Int) = L.getD q 0 from (by rw [atV, if_pos e1]; rfl), show atOk L (q : Int) = true from e1, show cutL L (q : Int) = L.eraseIdx q from (by rw [cutL, if_pos e1]; rfl)] at h
          clear e1
          generalize L.getD q 0 = y at *
          generalize L.eraseIdx q = L9 at *
          go_wp2_with (first
            | (go_at_call 13; refine HP.out.mono ?_; rintro e w2 ⟨A3, c3, rfl, hsl, hbk, hb2⟩; have HB2 := Lib.hid (HB1.out.trans (hb2.mono HB1.out.size)); have k0b := cell_below hb2 k0; have k1b := cell_below hb2 k1; have k2b := cell_below hb2 k2)
            | (go_at_call 14; refine (HPU.out w2 HB2.out).mono ?_; rintro e w3 ⟨rfl, hr3, hk3⟩; have HQ := Lib.hid (HS.out.next HB2.out hsl (fun ad e => (hbk ad e).imp (fun h => ⟨by omega, h.2⟩) id) hr3 hk3))
            | (go_at_call 16; refine (rlike _ g most c3 _ A3 ask w3 HQ.out.ring (slI_reads HQ.out.sl)).mono ?_; rintro e w4 ⟨rfl, hb4⟩))
          go_roundw
          case rel => exact ⟨k + 1, g, _, A3, c3, _, by omega, rfl, rfl, by go_num, HQ.out.below hb4⟩
          case measure => simp [intOf]; omega
      · have HP : Hid (Calls Try.prog 13 #[.agg #[.int .i64 3, .int .i64 nn, .slice B l.length d], .slice A2 L.length cc, .int .i64 most] W1 (StepRes W1 A2 (fillL most L l) (fillN most L l : Nat) true)) := step_fill 3 nn B d l A2 cc L most W1 HS1.out HL1.out hLm hm2 (by omega) rfl
        have HPU : Hid (∀ W, Below wr.heap.size wr W → Calls Try.prog 15 #[.pointer (some ⟨g, 0, none⟩), .slice B l.length d] W fun e w' => e = .returned (.int .i64 (fillN most L l : Nat)) ∧ Ring (widX X wr.heap.size W.heap.size) w' g most (fillL most L l) ∧ Kept (widX X wr.heap.size W.heap.size) W w') := fun W hW => by
          have hLw : SlI W B l.length d l := slI_below HL.out hW
          exact rfill_any _ g most d L l B W (HS.out.wide hW) (HS.out.wlt hW) (slI_reads hLw) (fun ad e hp => .inl (HS.out.old _ (by
            obtain ⟨ad', e', hc⟩ := (slI_reads HLW.out) hp
            rw [e] at e'
            cases e'
            have := World.block_lt_of_cell? _ _ (hc 0 hp)
            rwa [add_block] at this))) (by omega)
        generalize fillN most L l = y at *
        generalize fillL most L l = L9 at *
        go_wp2_with (first
          | (go_at_call 13; refine HP.out.mono ?_; rintro e w2 ⟨A3, c3, rfl, hsl, hbk, hb2⟩; have HB2 := Lib.hid (HB1.out.trans (hb2.mono HB1.out.size)); have k0b := cell_below hb2 k0; have k1b := cell_below hb2 k1; have k2b := cell_below hb2 k2)
          | (go_at_call 15; refine (HPU.out w2 HB2.out).mono ?_; rintro e w3 ⟨rfl, hr3, hk3⟩; have HQ := Lib.hid (HS.out.next HB2.out hsl (fun ad e => (hbk ad e).imp (fun h => ⟨by omega, h.2⟩) id) hr3 hk3))
          | (go_at_call 16; refine (rlike _ g most c3 _ A3 ask w3 HQ.out.ring (slI_reads HQ.out.sl)).mono ?_; rintro e w4 ⟨rfl, hb4⟩))
        go_roundw
        case rel => exact ⟨k + 1, g, _, A3, c3, _, by omega, rfl, rfl, by go_num, HQ.out.below hb4⟩
        case measure => simp [intOf]; omega
    · obtain rfl : k = n := by omega
      have HLV := Lib.hid (ring_lives wr)
      go_wp2_with (go_at_call 7; refine HLV.out.mono ?_; rintro e w9 ⟨rfl, hb9⟩)
      go_ret
      exact ⟨rfl, HS.out.low.trans (hb9.mono HS.out.low.size)⟩
end Go.Proofs.Ytfphpbhopfhlcaa
