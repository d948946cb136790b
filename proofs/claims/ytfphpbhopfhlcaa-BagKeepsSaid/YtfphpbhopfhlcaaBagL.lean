/-
  bag's example.
-/
import Derived.Test.YtfphpbhopfhlcaaBagP
namespace Go.Proofs.Ytfphpbhopfhlcaa.D
open Go.RowKit
set_option linter.unusedVariables false
set_option linter.unusedSimpArgs false
def ds (s : ByteArray) : Dg := ⟨0, 0, 0, 0, s⟩
theorem datagram (s : ByteArray) (w : World) : Calls Try.prog 35 #[.string s] w fun e w' => e = .returned (.agg #[.int .u32 (ds s).h1, .int .u16 (ds s).p1, .int .u32 (ds s).h2, .int .u16 (ds s).p2, .string (ds s).s]) ∧ Below w.heap.size w w' := by
  go_enter Try.func35, Try.ntmps35
  go_wp2
  go_returns
  exact ⟨rfl, by go_grown⟩
theorem bag_any_put (X : Nat → Prop) (g most : Nat) (L : List Dg) (lost : Int) (d : Dg) (w : World) (h : BagS X w g most L lost) (hX : ∀ k, X k → k < w.heap.size) (hlo : 0 ≤ lost ∧ lost ≤ 1000000) (hds : d.s.size ≤ 9223372036854775807) :
    Calls Try.prog 20 #[.pointer (some ⟨g, 0, none⟩), .agg #[.int .u32 d.h1, .int .u16 d.p1, .int .u32 d.h2, .int .u16 d.p2, .string d.s]] w fun e w' => e = .returned (.int .i64 (putE most L d)) ∧ BagS X w' g most (putL most L d) (putN most L d lost) ∧ Kept X w w' :=
  bput_any X g most L lost d w h hX hlo hds
set_option maxHeartbeats 1000000 in
theorem bag_lives (w : World) : Calls Try.prog 18 #[] w fun e w' => e = .returned (.bool true) ∧ Below w.heap.size w w' := by
  obtain ⟨X, hXe⟩ : ∃ X : Nat → Prop, X = fun k => k < w.heap.size := ⟨_, rfl⟩
  have hX0 : ∀ k, X k → k < w.heap.size := fun k h => by rw [hXe] at h; exact h
  have HXE : Hid (∀ k, k < w.heap.size → X k) := fun k h => by rw [hXe]; exact h
  have HX0 := Lib.hid hX0
  have HN := Lib.hid (bnew_yes X 2 w (by decide) (by decide) hX0)
  clear hXe hX0
  obtain ⟨a, ha⟩ : ∃ a, a = ds ⟨#[97]⟩ := ⟨_, rfl⟩
  obtain ⟨b, hb⟩ : ∃ b, b = ds ⟨#[98]⟩ := ⟨_, rfl⟩
  obtain ⟨c, hc⟩ : ∃ c, c = ds ⟨#[99]⟩ := ⟨_, rfl⟩
  have HDA := Lib.hid (fun w => ha ▸ datagram ⟨#[97]⟩ w)
  have HDB := Lib.hid (fun w => hb ▸ datagram ⟨#[98]⟩ w)
  have HDC := Lib.hid (fun w => hc ▸ datagram ⟨#[99]⟩ w)
  have zs : Hid (a.s.size = 1 ∧ b.s.size = 1 ∧ c.s.size = 1 ∧ a.s = ⟨#[97]⟩) := by subst ha; subst hb; subst hc; exact ⟨rfl, rfl, rfl, rfl⟩
  clear ha hb hc
  have put : ∀ (L : List Dg) (d : Dg), d.s.size = 1 → putE 2 L d = pushE 2 L ∧ putL 2 L d = pushL 2 L d ∧ ∀ n, putN 2 L d n = if L.length < 2 then n else n + 1 := fun L d h => by
    have : ¬ 8192 < d.s.size := by omega
    exact ⟨if_neg this, if_neg this, fun n => if_neg this⟩
  have HPUT := Lib.hid put
  clear put
  go_enter Try.func18, Try.ntmps18
  go_wp2_with fail
  refine HN.out.mono ?_
  rintro e w1 ⟨g, rfl, hb1, hbl1⟩
  have HK1 : Hid (Kept X w w1) := Kept.of_below hbl1
  have HB1 := Lib.hid hb1
  clear hb1 hbl1
  go_wp2_with fail
  refine (HDA.out w1).mono ?_
  rintro e w2 ⟨rfl, hg⟩
  have HK2 := Lib.hid (HK1.out.trans (Kept.of_below hg))
  have HB2 := Lib.hid (bag_below HB1.out hg)
  clear hg
  have hput := bag_any_put X g 2 [] 0 a w2 HB2.out (fun k h => Nat.lt_of_lt_of_le (HX0.out k h) HK2.out.size) (by decide) (by have := zs.out.1; omega)
  rw [(HPUT.out [] a (by have := zs.out; omega)).1, (HPUT.out [] a (by have := zs.out; omega)).2.1, (HPUT.out [] a (by have := zs.out; omega)).2.2, show pushE 2 [] = 0 from rfl, show pushL 2 [] a = [a] from rfl, show (if [].length < 2 then (0 : Int) else 0 + 1) = 0 from rfl] at hput
  have HQ := Lib.hid hput
  clear hput
  go_wp2_with fail
  refine HQ.out.mono ?_
  rintro e w3 ⟨rfl, hbb, hkk⟩
  have HK3 := Lib.hid (HK2.out.trans hkk)
  have HB3 := Lib.hid hbb
  clear hbb hkk HQ
  go_wp2_with fail
  refine (HDB.out w3).mono ?_
  rintro e w4 ⟨rfl, hg⟩
  have HK4 := Lib.hid (HK3.out.trans (Kept.of_below hg))
  have HB4 := Lib.hid (bag_below HB3.out hg)
  clear hg
  have hput := bag_any_put X g 2 [a] 0 b w4 HB4.out (fun k h => Nat.lt_of_lt_of_le (HX0.out k h) HK4.out.size) (by decide) (by have := zs.out.2.1; omega)
  rw [(HPUT.out [a] b (by have := zs.out; omega)).1, (HPUT.out [a] b (by have := zs.out; omega)).2.1, (HPUT.out [a] b (by have := zs.out; omega)).2.2, show pushE 2 [a] = 0 from rfl, show pushL 2 [a] b = [a, b] from rfl, show (if [a].length < 2 then (0 : Int) else 0 + 1) = 0 from rfl] at hput
  have HQ := Lib.hid hput
  clear hput
  go_wp2_with fail
  refine HQ.out.mono ?_
  rintro e w5 ⟨rfl, hbb, hkk⟩
  have HK5 := Lib.hid (HK4.out.trans hkk)
  have HB5 := Lib.hid hbb
  clear hbb hkk HQ
  go_wp2_with fail
  refine (HDC.out w5).mono ?_
  rintro e w6 ⟨rfl, hg⟩
  have HK6 := Lib.hid (HK5.out.trans (Kept.of_below hg))
  have HB6 := Lib.hid (bag_below HB5.out hg)
  clear hg
  have hput := bag_any_put X g 2 [a, b] 0 c w6 HB6.out (fun k h => Nat.lt_of_lt_of_le (HX0.out k h) HK6.out.size) (by decide) (by have := zs.out.2.2.1; omega)
  rw [(HPUT.out [a, b] c (by have := zs.out; omega)).1, (HPUT.out [a, b] c (by have := zs.out; omega)).2.1, (HPUT.out [a, b] c (by have := zs.out; omega)).2.2, show pushE 2 [a, b] = 31 from rfl, show pushL 2 [a, b] c = [a, b] from rfl, show (if [a, b].length < 2 then (0 : Int) else 0 + 1) = 1 from rfl] at hput
  have HQ := Lib.hid hput
  clear hput
  go_wp2_with fail
  refine HQ.out.mono ?_
  rintro e w7 ⟨rfl, hbb, hkk⟩
  have HK7 := Lib.hid (HK6.out.trans hkk)
  have HB7 := Lib.hid hbb
  clear hbb hkk HQ
  have ht := btake_any X g 2 [a, b] 1 0 w7 HB7.out (fun k h => Nat.lt_of_lt_of_le (HX0.out k h) HK7.out.size)
  rw [show atV [a, b] 0 = a from rfl, show atOk [a, b] 0 = true from rfl, show cutL [a, b] 0 = [b] from rfl] at ht
  unfold dv cs5 at ht
  have HT := Lib.hid ht
  clear ht
  go_wp2_with fail
  refine HT.out.mono ?_
  rintro e w8 ⟨rfl, hbb, hkk⟩
  have HK8 := Lib.hid (HK7.out.trans hkk)
  have hbl := (Below.refl w8.heap.size w8).alloc (Nat.le_refl _) (B49 a)
  have HK9 := Lib.hid (HK8.out.trans (Kept.of_below hbl))
  have HB9 := Lib.hid (bag_below hbb hbl)
  clear hbb hkk hbl HT
  have hasz := zs.out.2.2.2
  have hd := bdouble_any X g 2 [b] 1 0 _ HB9.out (fun k h => Nat.lt_of_lt_of_le (HX0.out k h) HK9.out.size)
  rw [show dblE 2 [b] 0 = 0 from rfl, show dblL 2 [b] 0 = [b, b] from rfl] at hd
  simp only [B49, hasz] at hd HK9
  have HD := Lib.hid hd
  clear hd
  go_wp2_with fail
  refine HD.out.mono ?_
  rintro e w9 ⟨rfl, hbb, hkk⟩
  have HK10 := Lib.hid (HK9.out.trans hkk)
  have HL := Lib.hid (blen X g 2 [b, b] 1 w9 hbb)
  have HLO := Lib.hid (blost X g 2 [b, b] 1 w9 hbb)
  clear hbb hkk
  go_wp2_with (first | (go_at_call 24; refine HL.out.mono ?_; rintro e w10 ⟨rfl, rfl⟩) | (go_at_call 26; refine HLO.out.mono ?_; rintro e w11 ⟨rfl, rfl⟩))
  go_ret
  exact ⟨rfl, HK10.out.below HXE.out (Nat.le_refl _)⟩
end Go.Proofs.Ytfphpbhopfhlcaa.D
