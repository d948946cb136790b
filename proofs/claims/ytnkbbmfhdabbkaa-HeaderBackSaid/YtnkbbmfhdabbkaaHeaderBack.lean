/-
  signpost's HeaderBack: for every input the law returns true. No condition.
-/
import Derived.Test.YtnkbbmfhdabbkaaRows
import Derived.WalkKit
import Derived.ProofKit
import Derived.OpenShut
import Derived.ShutString
import Derived.ChangeOld
import Derived.Below
import Derived.Test.YtnkbbmfhdabbkaaHdrL
import Derived.Test.YtnkbbmfhdabbkaaHdrQ
import Derived.Test.YtnkbbmfhdabbkaaAgg
import Derived.Deep.DrawnRows
import Derived.Deep.RegionHeld3
namespace Go.Proofs.Ytnkbbmfhdabbkaa.headerBack
open Go.ChangeShapes Go.WideShapes Go.ChangeAt Go.RowKit
open Go.ChangeMaps (open_string shut_string)
open Go.Proofs.YtnkbbmfhdabbkaaW.PrintWords
set_option linter.unusedSimpArgs false
set_option linter.unusedVariables false

theorem own : ownKnob Try.prog.godebug = none := by kernel_rfl
theorem laidOut : laidOutB Try.prog = true := by kernel_rfl

theorem walk_far (a f q n u d : Int) (A : Option Addr) (len cap : Nat) (w : World) (h : (2000 : Int) < (len : Int)) :
    Calls Try.prog 5 #[.agg #[.int .u16 a, .int .u16 f, .int .u16 q, .int .u16 n, .int .u16 u, .int .u16 d], .slice A len cap] w fun e w' => e = .returned (.bool true) ∧ Below w.heap.size w w' := by
  have hg : Below w.heap.size w (w.alloc (.cells #[.int .u16 a, .int .u16 f, .int .u16 q, .int .u16 n, .int .u16 u, .int .u16 d] 36)) := by go_grown
  go_enter Try.func5, Try.ntmps5
  go_wp2_with (go_at_call 22; refine (based (hdr_lives _) hg).mono ?_; rintro e w' ⟨rfl, hg⟩)
  go_ret
  exact ⟨rfl, by assumption⟩

set_option maxHeartbeats 1000000 in
theorem walk_near (a f q n u d : Int) (A : Option Addr) (c : Nat) (l : List Int) (w : World) (HR : ReadsInt w .u8 A l.length l) (hc : l.length ≤ c) (hB : Bytes l) (hs : l.length ≤ 2000) (hl : 12 ≤ l.length)
    (a0 : 0 ≤ a) (a1 : a ≤ 65535) (f0 : 0 ≤ f) (f1 : f ≤ 65535) (q0 : 0 ≤ q) (q1 : q ≤ 65535) (n0 : 0 ≤ n) (n1 : n ≤ 65535) (u0 : 0 ≤ u) (u1 : u ≤ 65535) (d0 : 0 ≤ d) (d1 : d ≤ 65535) :
    Calls Try.prog 5 #[.agg #[.int .u16 a, .int .u16 f, .int .u16 q, .int .u16 n, .int .u16 u, .int .u16 d], .slice A l.length c] w fun e w' => e = .returned (.bool true) ∧ Below w.heap.size w w' := by
  have hc0 : ∀ j v, (#[.int .u16 a, .int .u16 f, .int .u16 q, .int .u16 n, .int .u16 u, .int .u16 d] : Array Value)[j]? = some v → (w.alloc (.cells #[.int .u16 a, .int .u16 f, .int .u16 q, .int .u16 n, .int .u16 u, .int .u16 d] 36)).cell? ⟨w.heap.size, j, none⟩ = some v := fun j v h => by simpa using h
  have HC0 := Lib.hid hc0
  have HG0 := Lib.hid ((Below.refl w.heap.size w).alloc (Nat.le_refl _) (.cells #[.int .u16 a, .int .u16 f, .int .u16 q, .int .u16 n, .int .u16 u, .int .u16 d] 36))
  have HR0 := Lib.hid (HR.allocS (.cells #[.int .u16 a, .int .u16 f, .int .u16 q, .int .u16 n, .int .u16 u, .int .u16 d] 36))
  have HBB := Lib.hid hB
  have HCC := Lib.hid hc
  have hT := two_hdr a f q n u d l a0 a1 f0 f1 q0 q1 n0 n1 u0 u1 d0 d1
  have HT := Lib.hid hT
  have HHB := Lib.hid (bytes_append (bytes_hdrL a f q n u d) hB)
  have hL2 : (hdrL a f q n u d ++ l).length = 12 + l.length := by rw [List.length_append, hdrL_length]
  have HL1 := Lib.hid (hdrL_length a f q n u d)
  have HL2 := Lib.hid hL2
  clear hc0 HR hB hc hT hL2
  go_enter Try.func5, Try.ntmps5
  go_wp2_with fail
  refine (hdr_bytes a f q n u d _ a0 a1 f0 f1 q0 q1 n0 n1 u0 u1 d0 d1).mono ?_
  rintro e w1 ⟨v1, rfl, ho1, hb1⟩
  have HO1 := Lib.hid ho1
  have HB1 := Lib.hid hb1
  clear ho1 hb1
  go_wp2_with (at_builtin; go_loud (refine print_append_row (w0 := w.alloc (.cells #[.int .u16 a, .int .u16 f, .int .u16 q, .int .u16 n, .int .u16 u, .int .u16 d] 36)) (w.alloc (.cells #[.int .u16 a, .int .u16 f, .int .u16 q, .int .u16 n, .int .u16 u, .int .u16 d] 36)).heap.size rfl (.tmp 17) (.tmp 18) 22 5 .u8 1 rfl Try.underlying22 info5 (by decide) v1 (hdrL a f q n u d) l A l.length c rfl rfl HO1.out (HR0.out.below HB1.out) HB1.out HB1.out.size (by rw [HL1.out]; omega) ?_); intro v2 w2 hown hbl hg hat; generalize hdrL a f q n u d ++ l = l2 at *; obtain ⟨A2, c2, rfl, hc2, hr2⟩ := own_reads_cap hown; have HR2 := Lib.hid hr2; have HB2 := Lib.hid hbl; have HC2 := Lib.hid hc2; clear hr2 hbl hown hg hat hc2)
  have HR2' := HR2
  refine (hread_any A2 c2 l2 _ HR2.out HHB.out (by rw [HL2.out]; omega) (by rw [HL2.out]; omega)).mono ?_
  rintro e w3 ⟨rfl, hb3⟩
  obtain ⟨e0, e1, e2, e3, e4, e5⟩ := HT.out
  rw [e0, e1, e2, e3, e4, e5]
  clear e0 e1 e2 e3 e4 e5
  have HR3 := Lib.hid ((HR0.out.below (HB2.out.mono (Nat.le_refl _))).below hb3)
  have HB3 := Lib.hid (HB2.out.trans (hb3.mono HB2.out.size))
  clear hb3
  go_wp2_with fail
  refine (hread_any A c l _ (HR3.out.allocS _) HBB.out hl (by omega)).mono ?_
  rintro e w4 ⟨rfl, hb4⟩
  have hh := hdr_two l HBB.out hl
  have q0 := two_bd l 0 HBB.out
  generalize g0 : two l 0 = t0 at *
  have T0 := Lib.hid g0
  clear g0
  have q1 := two_bd l 1 HBB.out
  generalize g1 : two l 1 = t1 at *
  have T1 := Lib.hid g1
  clear g1
  have q2 := two_bd l 2 HBB.out
  generalize g2 : two l 2 = t2 at *
  have T2 := Lib.hid g2
  clear g2
  have q3 := two_bd l 3 HBB.out
  generalize g3 : two l 3 = t3 at *
  have T3 := Lib.hid g3
  clear g3
  have q4 := two_bd l 4 HBB.out
  generalize g4 : two l 4 = t4 at *
  have T4 := Lib.hid g4
  clear g4
  have q5 := two_bd l 5 HBB.out
  generalize g5 : two l 5 = t5 at *
  have T5 := Lib.hid g5
  clear g5
  have HH := Lib.hid hh
  clear hh
  have HR4 := Lib.hid ((HR3.out.allocS (.cells #[.int .u16 a, .int .u16 f, .int .u16 q, .int .u16 n, .int .u16 u, .int .u16 d] 36)).below hb4)
  have HX4 := Lib.hid hb4
  clear hb4
  go_wp2_with fail
  refine (refread_any A c l _ (HR4.out.allocS _) HCC.out HBB.out hl (by omega)).mono ?_
  rintro e w5 ⟨rfl, hb5⟩
  rw [T0.out, T1.out, T2.out, T3.out, T4.out, T5.out]
  have HX5 := Lib.hid hb5
  clear hb5
  have b53 : Hid (Below w4.heap.size w4 (w5.alloc (.cells #[.int .u16 t0, .int .u16 t1, .int .u16 t2, .int .u16 t3, .int .u16 t4, .int .u16 t5] 43))) := ((Below.refl _ w4).alloc (Nat.le_refl _) _).trans ((HX5.out.mono (by simp)).trans (((Below.refl w5.heap.size w5).alloc (Nat.le_refl _) _).mono (Nat.le_trans (by simp) HX5.out.size)))
  have b33 : Hid (Below w3.heap.size w3 (w5.alloc (.cells #[.int .u16 t0, .int .u16 t1, .int .u16 t2, .int .u16 t3, .int .u16 t4, .int .u16 t5] 43))) := ((Below.refl _ w3).alloc (Nat.le_refl _) _).trans ((HX4.out.mono (by simp)).trans (b53.out.mono (Nat.le_trans (by simp) HX4.out.size)))
  have bw : Hid (Below w.heap.size w (w5.alloc (.cells #[.int .u16 t0, .int .u16 t1, .int .u16 t2, .int .u16 t3, .int .u16 t4, .int .u16 t5] 43))) := HG0.out.trans ((HB3.out.mono (by simp)).trans (b33.out.mono (Nat.le_trans (by simp) HB3.out.size)))
  have HR5 : Hid (ReadsInt (w5.alloc (.cells #[.int .u16 t0, .int .u16 t1, .int .u16 t2, .int .u16 t3, .int .u16 t4, .int .u16 t5] 43)) .u8 A l.length l) := HR3.out.below b33.out
  have x0 := cell_later b33.out (cell_later HB3.out (HC0.out 0 _ rfl))
  have x1 := cell_later b33.out (cell_later HB3.out (HC0.out 1 _ rfl))
  have x2 := cell_later b33.out (cell_later HB3.out (HC0.out 2 _ rfl))
  have x3 := cell_later b33.out (cell_later HB3.out (HC0.out 3 _ rfl))
  have x4 := cell_later b33.out (cell_later HB3.out (HC0.out 4 _ rfl))
  have x5 := cell_later b33.out (cell_later HB3.out (HC0.out 5 _ rfl))
  have y0 : (w5.alloc (.cells #[.int .u16 t0, .int .u16 t1, .int .u16 t2, .int .u16 t3, .int .u16 t4, .int .u16 t5] 43)).cell? ⟨w3.heap.size, 0, none⟩ = some (.int .u16 a) := cell_later (((HX4.out.trans (((Below.refl w4.heap.size w4).alloc (Nat.le_refl _) _).mono HX4.out.size)).trans ((HX5.out.mono (Nat.le_trans HX4.out.size (by simp))).trans (((Below.refl w5.heap.size w5).alloc (Nat.le_refl _) _).mono (Nat.le_trans (Nat.le_trans HX4.out.size (by simp)) HX5.out.size))))) (show (w3.alloc (.cells #[.int .u16 a, .int .u16 f, .int .u16 q, .int .u16 n, .int .u16 u, .int .u16 d] 36)).cell? ⟨w3.heap.size, 0, none⟩ = some (.int .u16 a) by simp)
  have y1 : (w5.alloc (.cells #[.int .u16 t0, .int .u16 t1, .int .u16 t2, .int .u16 t3, .int .u16 t4, .int .u16 t5] 43)).cell? ⟨w3.heap.size, 1, none⟩ = some (.int .u16 f) := cell_later (((HX4.out.trans (((Below.refl w4.heap.size w4).alloc (Nat.le_refl _) _).mono HX4.out.size)).trans ((HX5.out.mono (Nat.le_trans HX4.out.size (by simp))).trans (((Below.refl w5.heap.size w5).alloc (Nat.le_refl _) _).mono (Nat.le_trans (Nat.le_trans HX4.out.size (by simp)) HX5.out.size))))) (show (w3.alloc (.cells #[.int .u16 a, .int .u16 f, .int .u16 q, .int .u16 n, .int .u16 u, .int .u16 d] 36)).cell? ⟨w3.heap.size, 1, none⟩ = some (.int .u16 f) by simp)
  have y2 : (w5.alloc (.cells #[.int .u16 t0, .int .u16 t1, .int .u16 t2, .int .u16 t3, .int .u16 t4, .int .u16 t5] 43)).cell? ⟨w3.heap.size, 2, none⟩ = some (.int .u16 q) := cell_later (((HX4.out.trans (((Below.refl w4.heap.size w4).alloc (Nat.le_refl _) _).mono HX4.out.size)).trans ((HX5.out.mono (Nat.le_trans HX4.out.size (by simp))).trans (((Below.refl w5.heap.size w5).alloc (Nat.le_refl _) _).mono (Nat.le_trans (Nat.le_trans HX4.out.size (by simp)) HX5.out.size))))) (show (w3.alloc (.cells #[.int .u16 a, .int .u16 f, .int .u16 q, .int .u16 n, .int .u16 u, .int .u16 d] 36)).cell? ⟨w3.heap.size, 2, none⟩ = some (.int .u16 q) by simp)
  have y3 : (w5.alloc (.cells #[.int .u16 t0, .int .u16 t1, .int .u16 t2, .int .u16 t3, .int .u16 t4, .int .u16 t5] 43)).cell? ⟨w3.heap.size, 3, none⟩ = some (.int .u16 n) := cell_later (((HX4.out.trans (((Below.refl w4.heap.size w4).alloc (Nat.le_refl _) _).mono HX4.out.size)).trans ((HX5.out.mono (Nat.le_trans HX4.out.size (by simp))).trans (((Below.refl w5.heap.size w5).alloc (Nat.le_refl _) _).mono (Nat.le_trans (Nat.le_trans HX4.out.size (by simp)) HX5.out.size))))) (show (w3.alloc (.cells #[.int .u16 a, .int .u16 f, .int .u16 q, .int .u16 n, .int .u16 u, .int .u16 d] 36)).cell? ⟨w3.heap.size, 3, none⟩ = some (.int .u16 n) by simp)
  have y4 : (w5.alloc (.cells #[.int .u16 t0, .int .u16 t1, .int .u16 t2, .int .u16 t3, .int .u16 t4, .int .u16 t5] 43)).cell? ⟨w3.heap.size, 4, none⟩ = some (.int .u16 u) := cell_later (((HX4.out.trans (((Below.refl w4.heap.size w4).alloc (Nat.le_refl _) _).mono HX4.out.size)).trans ((HX5.out.mono (Nat.le_trans HX4.out.size (by simp))).trans (((Below.refl w5.heap.size w5).alloc (Nat.le_refl _) _).mono (Nat.le_trans (Nat.le_trans HX4.out.size (by simp)) HX5.out.size))))) (show (w3.alloc (.cells #[.int .u16 a, .int .u16 f, .int .u16 q, .int .u16 n, .int .u16 u, .int .u16 d] 36)).cell? ⟨w3.heap.size, 4, none⟩ = some (.int .u16 u) by simp)
  have y5 : (w5.alloc (.cells #[.int .u16 t0, .int .u16 t1, .int .u16 t2, .int .u16 t3, .int .u16 t4, .int .u16 t5] 43)).cell? ⟨w3.heap.size, 5, none⟩ = some (.int .u16 d) := cell_later (((HX4.out.trans (((Below.refl w4.heap.size w4).alloc (Nat.le_refl _) _).mono HX4.out.size)).trans ((HX5.out.mono (Nat.le_trans HX4.out.size (by simp))).trans (((Below.refl w5.heap.size w5).alloc (Nat.le_refl _) _).mono (Nat.le_trans (Nat.le_trans HX4.out.size (by simp)) HX5.out.size))))) (show (w3.alloc (.cells #[.int .u16 a, .int .u16 f, .int .u16 q, .int .u16 n, .int .u16 u, .int .u16 d] 36)).cell? ⟨w3.heap.size, 5, none⟩ = some (.int .u16 d) by simp)
  have z0 : (w5.alloc (.cells #[.int .u16 t0, .int .u16 t1, .int .u16 t2, .int .u16 t3, .int .u16 t4, .int .u16 t5] 43)).cell? ⟨w4.heap.size, 0, none⟩ = some (.int .u16 t0) := cell_later (HX5.out.trans (((Below.refl w5.heap.size w5).alloc (Nat.le_refl _) _).mono HX5.out.size)) (show (w4.alloc (.cells #[.int .u16 t0, .int .u16 t1, .int .u16 t2, .int .u16 t3, .int .u16 t4, .int .u16 t5] 36)).cell? ⟨w4.heap.size, 0, none⟩ = some (.int .u16 t0) by simp)
  have z1 : (w5.alloc (.cells #[.int .u16 t0, .int .u16 t1, .int .u16 t2, .int .u16 t3, .int .u16 t4, .int .u16 t5] 43)).cell? ⟨w4.heap.size, 1, none⟩ = some (.int .u16 t1) := cell_later (HX5.out.trans (((Below.refl w5.heap.size w5).alloc (Nat.le_refl _) _).mono HX5.out.size)) (show (w4.alloc (.cells #[.int .u16 t0, .int .u16 t1, .int .u16 t2, .int .u16 t3, .int .u16 t4, .int .u16 t5] 36)).cell? ⟨w4.heap.size, 1, none⟩ = some (.int .u16 t1) by simp)
  have z2 : (w5.alloc (.cells #[.int .u16 t0, .int .u16 t1, .int .u16 t2, .int .u16 t3, .int .u16 t4, .int .u16 t5] 43)).cell? ⟨w4.heap.size, 2, none⟩ = some (.int .u16 t2) := cell_later (HX5.out.trans (((Below.refl w5.heap.size w5).alloc (Nat.le_refl _) _).mono HX5.out.size)) (show (w4.alloc (.cells #[.int .u16 t0, .int .u16 t1, .int .u16 t2, .int .u16 t3, .int .u16 t4, .int .u16 t5] 36)).cell? ⟨w4.heap.size, 2, none⟩ = some (.int .u16 t2) by simp)
  have z3 : (w5.alloc (.cells #[.int .u16 t0, .int .u16 t1, .int .u16 t2, .int .u16 t3, .int .u16 t4, .int .u16 t5] 43)).cell? ⟨w4.heap.size, 3, none⟩ = some (.int .u16 t3) := cell_later (HX5.out.trans (((Below.refl w5.heap.size w5).alloc (Nat.le_refl _) _).mono HX5.out.size)) (show (w4.alloc (.cells #[.int .u16 t0, .int .u16 t1, .int .u16 t2, .int .u16 t3, .int .u16 t4, .int .u16 t5] 36)).cell? ⟨w4.heap.size, 3, none⟩ = some (.int .u16 t3) by simp)
  have z4 : (w5.alloc (.cells #[.int .u16 t0, .int .u16 t1, .int .u16 t2, .int .u16 t3, .int .u16 t4, .int .u16 t5] 43)).cell? ⟨w4.heap.size, 4, none⟩ = some (.int .u16 t4) := cell_later (HX5.out.trans (((Below.refl w5.heap.size w5).alloc (Nat.le_refl _) _).mono HX5.out.size)) (show (w4.alloc (.cells #[.int .u16 t0, .int .u16 t1, .int .u16 t2, .int .u16 t3, .int .u16 t4, .int .u16 t5] 36)).cell? ⟨w4.heap.size, 4, none⟩ = some (.int .u16 t4) by simp)
  have z5 : (w5.alloc (.cells #[.int .u16 t0, .int .u16 t1, .int .u16 t2, .int .u16 t3, .int .u16 t4, .int .u16 t5] 43)).cell? ⟨w4.heap.size, 5, none⟩ = some (.int .u16 t5) := cell_later (HX5.out.trans (((Below.refl w5.heap.size w5).alloc (Nat.le_refl _) _).mono HX5.out.size)) (show (w4.alloc (.cells #[.int .u16 t0, .int .u16 t1, .int .u16 t2, .int .u16 t3, .int .u16 t4, .int .u16 t5] 36)).cell? ⟨w4.heap.size, 5, none⟩ = some (.int .u16 t5) by simp)
  have v0 : (w5.alloc (.cells #[.int .u16 t0, .int .u16 t1, .int .u16 t2, .int .u16 t3, .int .u16 t4, .int .u16 t5] 43)).cell? ⟨w5.heap.size, 0, none⟩ = some (.int .u16 t0) := by simp
  have v1 : (w5.alloc (.cells #[.int .u16 t0, .int .u16 t1, .int .u16 t2, .int .u16 t3, .int .u16 t4, .int .u16 t5] 43)).cell? ⟨w5.heap.size, 1, none⟩ = some (.int .u16 t1) := by simp
  have v2 : (w5.alloc (.cells #[.int .u16 t0, .int .u16 t1, .int .u16 t2, .int .u16 t3, .int .u16 t4, .int .u16 t5] 43)).cell? ⟨w5.heap.size, 2, none⟩ = some (.int .u16 t2) := by simp
  have v3 : (w5.alloc (.cells #[.int .u16 t0, .int .u16 t1, .int .u16 t2, .int .u16 t3, .int .u16 t4, .int .u16 t5] 43)).cell? ⟨w5.heap.size, 3, none⟩ = some (.int .u16 t3) := by simp
  have v4 : (w5.alloc (.cells #[.int .u16 t0, .int .u16 t1, .int .u16 t2, .int .u16 t3, .int .u16 t4, .int .u16 t5] 43)).cell? ⟨w5.heap.size, 4, none⟩ = some (.int .u16 t4) := by simp
  have v5 : (w5.alloc (.cells #[.int .u16 t0, .int .u16 t1, .int .u16 t2, .int .u16 t3, .int .u16 t4, .int .u16 t5] 43)).cell? ⟨w5.heap.size, 5, none⟩ = some (.int .u16 t5) := by simp
  go_wp2_with fail
  clear x0 x1 x2 x3 x4 x5 y0 y1 y2 y3 y4 y5 v0 v1 v2 v3 v4 v5
  obtain ⟨i0, hi, hz0, hz1, hz2⟩ := info_parts info5
  have hcc := HCC.out
  obtain ⟨r1, r2, r3⟩ := print_take_of (P := Try.prog) (Value.int .u8) (0 : Int) 22 5 .i64 Try.underlying22 hi hz1 A c l 12 (by omega) (by omega) hcc
  have hY : l.take (12 : Int).toNat = l.take 12 := rfl
  rw [hY] at r1 r2 r3
  have hread := r2 _ HR5.out
  have HH2 := HH
  generalize l.take 12 = Y at *
  generalize hlY : Y.length = ly at r1 hread
  have hlY2 := hlY
  generalize hST : strOfNums Y = ST
  have HST := Lib.hid hST
  have HRY : Hid (ReadsInt (w5.alloc (.cells #[.int .u16 t0, .int .u16 t1, .int .u16 t2, .int .u16 t3, .int .u16 t4, .int .u16 t5] 43)) .u8 A ly Y) := readsInt_of.2 hread
  have sY : (convert 22 9 (.slice A ly c)).run Try.prog (w5.alloc (.cells #[.int .u16 t0, .int .u16 t1, .int .u16 t2, .int .u16 t3, .int .u16 t4, .int .u16 t5] 43)).drew = .ok (.string ST) (w5.alloc (.cells #[.int .u16 t0, .int .u16 t1, .int .u16 t2, .int .u16 t3, .int .u16 t4, .int .u16 t5] 43)).drew := by
    have := string_of_reads (src := 22) (dst := 9) (c := c) Try.underlying22 Try.underlying5 Try.underlying9 (show ReadsInt (w5.alloc (.cells #[.int .u16 t0, .int .u16 t1, .int .u16 t2, .int .u16 t3, .int .u16 t4, .int .u16 t5] 43)).drew .u8 A ly Y from HRY.out)
    rw [hST] at this
    exact this
  clear hi hz0 hz1 hz2 hcc r2 r3 hY hread hlY hlY2 hST i0
  refine wp_region_any (by kernel_rfl) ?_
  (try (change wpAny _ _ _ _ _ _ _ (World.drew _)))
  refine wpAny_take (i := 0) (oi := _) (v := ?_) (by simp only [List.getElem?_toArray, List.getElem?_cons_succ, List.getElem?_cons_zero]; rfl) (by kernel_rfl) (by kernel_rfl) (by kernel_rfl) (by intro _ _ _ h; exact h) (Or.inl ⟨by rfl, ?_⟩) ?_
  rotate_left
  focus (intro w; go_simp; try with_reducible rfl)
  (try simp only [Act.put, List.setIfInBounds_toArray, List.set_cons_zero, List.set_cons_succ])
  refine wpAny_take (i := 1) (oi := _) (v := ?_) (by simp only [List.getElem?_toArray, List.getElem?_cons_succ, List.getElem?_cons_zero]; rfl) (by kernel_rfl) (by kernel_rfl) (by kernel_rfl) (by intro _ _ _ h; exact h) (Or.inl ⟨by rfl, ?_⟩) ?_
  rotate_left
  focus (intro w; go_simp; try with_reducible rfl)
  (try simp only [Act.put, List.setIfInBounds_toArray, List.set_cons_zero, List.set_cons_succ])
  refine wpAny_take (i := 2) (oi := _) (v := ?_) (by simp only [List.getElem?_toArray, List.getElem?_cons_succ, List.getElem?_cons_zero]; rfl) (by kernel_rfl) (by kernel_rfl) (by kernel_rfl) (by intro _ _ _ h; exact h) (Or.inl ⟨by rfl, ?_⟩) ?_
  rotate_left
  focus (intro w; go_simp; try with_reducible rfl)
  (try simp only [Act.put, List.setIfInBounds_toArray, List.set_cons_zero, List.set_cons_succ])
  refine wpAny_take (i := 6) (oi := _) (v := ?_) (by simp only [List.getElem?_toArray, List.getElem?_cons_succ, List.getElem?_cons_zero]; rfl) (by kernel_rfl) (by kernel_rfl) (by kernel_rfl) (by intro _ _ _ h; exact h) (Or.inl ⟨by rfl, ?_⟩) ?_
  rotate_left
  focus (intro w; go_simp; try with_reducible rfl)
  (try simp only [Act.put, List.setIfInBounds_toArray, List.set_cons_zero, List.set_cons_succ])
  refine wpAny_take (i := 7) (oi := _) (v := ?_) (by simp only [List.getElem?_toArray, List.getElem?_cons_succ, List.getElem?_cons_zero]; rfl) (by kernel_rfl) (by kernel_rfl) (by kernel_rfl) (by intro _ _ _ h; exact h) (Or.inl ⟨by rfl, ?_⟩) ?_
  rotate_left
  focus (intro w; go_simp; try with_reducible rfl)
  (try simp only [Act.put, List.setIfInBounds_toArray, List.set_cons_zero, List.set_cons_succ])
  refine wpAny_ready (rs := [3, 8]) (by kernel_rfl) (by simp) ?_
  refine AllReady.cons rfl (fun K hK => ?_) ?_
  · go_simp
    (refine hK _ _ ?_; clear hK K)
    (try simp only [Act.put, List.setIfInBounds_toArray, List.set_cons_zero, List.set_cons_succ])
    refine wpAny_ready (rs := [4, 8]) (by kernel_rfl) (by simp) ?_
    refine AllReady.cons rfl (fun K hK => ?_) ?_
    · go_simp
      go_wp2_with (first
          | (go_at_call 24; refine (hdr_bytes t0 t1 t2 t3 t4 t5 _ q0.1 q0.2 q1.1 q1.2 q2.1 q2.2 q3.1 q3.2 q4.1 q4.2 q5.1 q5.2).mono ?_; rintro e w6 ⟨v6, rfl, ho6, hb6⟩; rw [HH2.out] at ho6; have s6 := str_own ho6; rw [HST.out] at s6; have sY6 := string_of_reads (src := 22) (dst := 9) (c := c) Try.underlying22 Try.underlying5 Try.underlying9 (ReadsInt.below (w := (w5.alloc (.cells #[.int .u16 t0, .int .u16 t1, .int .u16 t2, .int .u16 t3, .int .u16 t4, .int .u16 t5] 43)).drew) HRY.out hb6); rw [HST.out] at sY6; have bw6 := Lib.hid ((below_drew bw.out).trans (hb6.mono (below_drew bw.out).size)); clear ho6 hb6)
          | (go_at_call 22; refine (based (hdr_lives _) bw6.out).mono ?_; rintro e w7 ⟨rfl, hg7⟩))
      (try simp only [Act.put, List.setIfInBounds_toArray, List.set_cons_zero, List.set_cons_succ])
      refine wpAny_ready (rs := [5, 8]) (by kernel_rfl) (by simp) ?_
      refine AllReady.cons rfl (fun K hK => ?_) ?_
      · go_simp
        (refine hK _ _ ?_; clear hK K)
        (try simp only [Act.put, List.setIfInBounds_toArray, List.set_cons_zero, List.set_cons_succ])
        refine wpAny_ready (rs := [8]) (by kernel_rfl) (by simp) ?_
        refine AllReady.cons rfl (fun K hK => ?_) ?_
        · go_simp
          (refine hK _ _ ?_; clear hK K)
          (try simp only [Act.put, List.setIfInBounds_toArray, List.set_cons_zero, List.set_cons_succ])
          refine wpAny_take (i := 9) (oi := _) (v := ?_) (by simp only [List.getElem?_toArray, List.getElem?_cons_succ, List.getElem?_cons_zero]; rfl) (by kernel_rfl) (by kernel_rfl) (by kernel_rfl) (by intro _ _ _ h; exact h) (Or.inl ⟨by rfl, ?_⟩) ?_
          rotate_left
          focus (intro w; go_simp; try with_reducible rfl)
          (try simp only [Act.put, List.setIfInBounds_toArray, List.set_cons_zero, List.set_cons_succ])
          refine wpAny_take (i := 10) (oi := _) (v := ?_) (by simp only [List.getElem?_toArray, List.getElem?_cons_succ, List.getElem?_cons_zero]; rfl) (by kernel_rfl) (by kernel_rfl) (by kernel_rfl) (by intro _ _ _ h; exact h) (Or.inl ⟨by rfl, ?_⟩) ?_
          rotate_left
          focus (intro w; go_simp; try with_reducible rfl)
          (try simp only [Act.put, List.setIfInBounds_toArray, List.set_cons_zero, List.set_cons_succ])
          refine wpAny_take (i := 11) (oi := _) (v := ?_) (by simp only [List.getElem?_toArray, List.getElem?_cons_succ, List.getElem?_cons_zero]; rfl) (by kernel_rfl) (by kernel_rfl) (by kernel_rfl) (by intro _ _ _ h; exact h) (Or.inl ⟨by rfl, ?_⟩) ?_
          rotate_left
          focus (intro w; go_simp; try with_reducible rfl)
          (try simp only [Act.put, List.setIfInBounds_toArray, List.set_cons_zero, List.set_cons_succ])
          refine wpAny_take (i := 12) (oi := _) (v := ?_) (by simp only [List.getElem?_toArray, List.getElem?_cons_succ, List.getElem?_cons_zero]; rfl) (by kernel_rfl) (by kernel_rfl) (by kernel_rfl) (by intro _ _ _ h; exact h) (Or.inl ⟨by rfl, ?_⟩) ?_
          rotate_left
          focus (intro w; go_simp; try with_reducible rfl)
          (try simp only [Act.put, List.setIfInBounds_toArray, List.set_cons_zero, List.set_cons_succ])
          refine wpAny_take (i := 13) (oi := _) (v := ?_) (by simp only [List.getElem?_toArray, List.getElem?_cons_succ, List.getElem?_cons_zero]; rfl) (by kernel_rfl) (by kernel_rfl) (by kernel_rfl) (by intro _ _ _ h; exact h) (Or.inl ⟨by rfl, ?_⟩) ?_
          rotate_left
          focus (intro w; go_simp; try with_reducible rfl)
          (try simp only [Act.put, List.setIfInBounds_toArray, List.set_cons_zero, List.set_cons_succ])
          refine wpAny_take (i := 14) (oi := _) (v := ?_) (by simp only [List.getElem?_toArray, List.getElem?_cons_succ, List.getElem?_cons_zero]; rfl) (by kernel_rfl) (by kernel_rfl) (by kernel_rfl) (by intro _ _ _ h; exact h) (Or.inl ⟨by rfl, ?_⟩) ?_
          rotate_left
          focus (intro w; go_simp; try with_reducible rfl)
          (try simp only [Act.put, List.setIfInBounds_toArray, List.set_cons_zero, List.set_cons_succ])
          refine wpAny_take (i := 15) (oi := _) (v := ?_) (by simp only [List.getElem?_toArray, List.getElem?_cons_succ, List.getElem?_cons_zero]; rfl) (by kernel_rfl) (by kernel_rfl) (by kernel_rfl) (by intro _ _ _ h; exact h) (Or.inl ⟨by rfl, ?_⟩) ?_
          rotate_left
          focus (intro w; go_simp; try with_reducible rfl)
          (try simp only [Act.put, List.setIfInBounds_toArray, List.set_cons_zero, List.set_cons_succ])
          refine wpAny_take (i := 16) (oi := _) (v := ?_) (by simp only [List.getElem?_toArray, List.getElem?_cons_succ, List.getElem?_cons_zero]; rfl) (by kernel_rfl) (by kernel_rfl) (by kernel_rfl) (by intro _ _ _ h; exact h) (Or.inl ⟨by rfl, ?_⟩) ?_
          rotate_left
          focus (intro w; go_simp; try with_reducible rfl)
          (try simp only [Act.put, List.setIfInBounds_toArray, List.set_cons_zero, List.set_cons_succ])
          refine wpAny_take (i := 17) (oi := _) (v := ?_) (by simp only [List.getElem?_toArray, List.getElem?_cons_succ, List.getElem?_cons_zero]; rfl) (by kernel_rfl) (by kernel_rfl) (by kernel_rfl) (by intro _ _ _ h; exact h) (Or.inl ⟨by rfl, ?_⟩) ?_
          rotate_left
          focus (intro w; go_simp; try with_reducible rfl)
          (try simp only [Act.put, List.setIfInBounds_toArray, List.set_cons_zero, List.set_cons_succ])
          refine wpAny_take (i := 18) (oi := _) (v := ?_) (by simp only [List.getElem?_toArray, List.getElem?_cons_succ, List.getElem?_cons_zero]; rfl) (by kernel_rfl) (by kernel_rfl) (by kernel_rfl) (by intro _ _ _ h; exact h) (Or.inl ⟨by rfl, ?_⟩) ?_
          rotate_left
          focus (intro w; go_simp; try with_reducible rfl)
          (try simp only [Act.put, List.setIfInBounds_toArray, List.set_cons_zero, List.set_cons_succ])
          refine wpAny_take (i := 19) (oi := _) (v := ?_) (by simp only [List.getElem?_toArray, List.getElem?_cons_succ, List.getElem?_cons_zero]; rfl) (by kernel_rfl) (by kernel_rfl) (by kernel_rfl) (by intro _ _ _ h; exact h) (Or.inl ⟨by rfl, ?_⟩) ?_
          rotate_left
          focus (intro w; go_simp; try with_reducible rfl)
          (try simp only [Act.put, List.setIfInBounds_toArray, List.set_cons_zero, List.set_cons_succ])
          refine wpAny_ready (rs := [20]) (by kernel_rfl) (by simp) ?_
          refine AllReady.cons rfl (fun K hK => ?_) ?_
          · go_simp
            go_wp2_with (first
                | (go_at_call 24; refine (hdr_bytes t0 t1 t2 t3 t4 t5 _ q0.1 q0.2 q1.1 q1.2 q2.1 q2.2 q3.1 q3.2 q4.1 q4.2 q5.1 q5.2).mono ?_; rintro e w6 ⟨v6, rfl, ho6, hb6⟩; rw [HH2.out] at ho6; have s6 := str_own ho6; rw [HST.out] at s6; have sY6 := string_of_reads (src := 22) (dst := 9) (c := c) Try.underlying22 Try.underlying5 Try.underlying9 (ReadsInt.below (w := (w5.alloc (.cells #[.int .u16 t0, .int .u16 t1, .int .u16 t2, .int .u16 t3, .int .u16 t4, .int .u16 t5] 43)).drew) HRY.out hb6); rw [HST.out] at sY6; have bw6 := Lib.hid ((below_drew bw.out).trans (hb6.mono (below_drew bw.out).size)); clear ho6 hb6)
                | (go_at_call 22; refine (based (hdr_lives _) bw6.out).mono ?_; rintro e w7 ⟨rfl, hg7⟩))
            (try simp only [Act.put, List.setIfInBounds_toArray, List.set_cons_zero, List.set_cons_succ])
            refine wpAny_take (i := 21) (oi := _) (v := ?_) (by simp only [List.getElem?_toArray, List.getElem?_cons_succ, List.getElem?_cons_zero]; rfl) (by kernel_rfl) (by kernel_rfl) (by kernel_rfl) (by intro _ _ _ h; exact h) (Or.inl ⟨by rfl, ?_⟩) ?_
            rotate_left
            focus (intro w; go_simp; try with_reducible rfl)
            (try simp only [Act.put, List.setIfInBounds_toArray, List.set_cons_zero, List.set_cons_succ])
            refine wpAny_take (i := 22) (oi := _) (v := ?_) (by simp only [List.getElem?_toArray, List.getElem?_cons_succ, List.getElem?_cons_zero]; rfl) (by kernel_rfl) (by kernel_rfl) (by kernel_rfl) (by intro _ _ _ h; exact h) (Or.inl ⟨by rfl, ?_⟩) ?_
            rotate_left
            focus (intro w; go_simp; try with_reducible rfl)
            (try simp only [Act.put, List.setIfInBounds_toArray, List.set_cons_zero, List.set_cons_succ])
            refine wpAny_done (by kernel_rfl) ?_ _
            go_wp2
            go_ret
            exact ⟨rfl, by assumption⟩
          exact AllReady.nil
        exact AllReady.nil
      refine AllReady.cons rfl (fun K hK => ?_) ?_
      · go_simp
        (refine hK _ _ ?_; clear hK K)
        (try simp only [Act.put, List.setIfInBounds_toArray, List.set_cons_zero, List.set_cons_succ])
        refine wpAny_ready (rs := [5]) (by kernel_rfl) (by simp) ?_
        refine AllReady.cons rfl (fun K hK => ?_) ?_
        · go_simp
          (refine hK _ _ ?_; clear hK K)
          (try simp only [Act.put, List.setIfInBounds_toArray, List.set_cons_zero, List.set_cons_succ])
          refine wpAny_take (i := 9) (oi := _) (v := ?_) (by simp only [List.getElem?_toArray, List.getElem?_cons_succ, List.getElem?_cons_zero]; rfl) (by kernel_rfl) (by kernel_rfl) (by kernel_rfl) (by intro _ _ _ h; exact h) (Or.inl ⟨by rfl, ?_⟩) ?_
          rotate_left
          focus (intro w; go_simp; try with_reducible rfl)
          (try simp only [Act.put, List.setIfInBounds_toArray, List.set_cons_zero, List.set_cons_succ])
          refine wpAny_take (i := 10) (oi := _) (v := ?_) (by simp only [List.getElem?_toArray, List.getElem?_cons_succ, List.getElem?_cons_zero]; rfl) (by kernel_rfl) (by kernel_rfl) (by kernel_rfl) (by intro _ _ _ h; exact h) (Or.inl ⟨by rfl, ?_⟩) ?_
          rotate_left
          focus (intro w; go_simp; try with_reducible rfl)
          (try simp only [Act.put, List.setIfInBounds_toArray, List.set_cons_zero, List.set_cons_succ])
          refine wpAny_take (i := 11) (oi := _) (v := ?_) (by simp only [List.getElem?_toArray, List.getElem?_cons_succ, List.getElem?_cons_zero]; rfl) (by kernel_rfl) (by kernel_rfl) (by kernel_rfl) (by intro _ _ _ h; exact h) (Or.inl ⟨by rfl, ?_⟩) ?_
          rotate_left
          focus (intro w; go_simp; try with_reducible rfl)
          (try simp only [Act.put, List.setIfInBounds_toArray, List.set_cons_zero, List.set_cons_succ])
          refine wpAny_take (i := 12) (oi := _) (v := ?_) (by simp only [List.getElem?_toArray, List.getElem?_cons_succ, List.getElem?_cons_zero]; rfl) (by kernel_rfl) (by kernel_rfl) (by kernel_rfl) (by intro _ _ _ h; exact h) (Or.inl ⟨by rfl, ?_⟩) ?_
          rotate_left
          focus (intro w; go_simp; try with_reducible rfl)
          (try simp only [Act.put, List.setIfInBounds_toArray, List.set_cons_zero, List.set_cons_succ])
          refine wpAny_take (i := 13) (oi := _) (v := ?_) (by simp only [List.getElem?_toArray, List.getElem?_cons_succ, List.getElem?_cons_zero]; rfl) (by kernel_rfl) (by kernel_rfl) (by kernel_rfl) (by intro _ _ _ h; exact h) (Or.inl ⟨by rfl, ?_⟩) ?_
          rotate_left
          focus (intro w; go_simp; try with_reducible rfl)
          (try simp only [Act.put, List.setIfInBounds_toArray, List.set_cons_zero, List.set_cons_succ])
          refine wpAny_take (i := 14) (oi := _) (v := ?_) (by simp only [List.getElem?_toArray, List.getElem?_cons_succ, List.getElem?_cons_zero]; rfl) (by kernel_rfl) (by kernel_rfl) (by kernel_rfl) (by intro _ _ _ h; exact h) (Or.inl ⟨by rfl, ?_⟩) ?_
          rotate_left
          focus (intro w; go_simp; try with_reducible rfl)
          (try simp only [Act.put, List.setIfInBounds_toArray, List.set_cons_zero, List.set_cons_succ])
          refine wpAny_take (i := 15) (oi := _) (v := ?_) (by simp only [List.getElem?_toArray, List.getElem?_cons_succ, List.getElem?_cons_zero]; rfl) (by kernel_rfl) (by kernel_rfl) (by kernel_rfl) (by intro _ _ _ h; exact h) (Or.inl ⟨by rfl, ?_⟩) ?_
          rotate_left
          focus (intro w; go_simp; try with_reducible rfl)
          (try simp only [Act.put, List.setIfInBounds_toArray, List.set_cons_zero, List.set_cons_succ])
          refine wpAny_take (i := 16) (oi := _) (v := ?_) (by simp only [List.getElem?_toArray, List.getElem?_cons_succ, List.getElem?_cons_zero]; rfl) (by kernel_rfl) (by kernel_rfl) (by kernel_rfl) (by intro _ _ _ h; exact h) (Or.inl ⟨by rfl, ?_⟩) ?_
          rotate_left
          focus (intro w; go_simp; try with_reducible rfl)
          (try simp only [Act.put, List.setIfInBounds_toArray, List.set_cons_zero, List.set_cons_succ])
          refine wpAny_take (i := 17) (oi := _) (v := ?_) (by simp only [List.getElem?_toArray, List.getElem?_cons_succ, List.getElem?_cons_zero]; rfl) (by kernel_rfl) (by kernel_rfl) (by kernel_rfl) (by intro _ _ _ h; exact h) (Or.inl ⟨by rfl, ?_⟩) ?_
          rotate_left
          focus (intro w; go_simp; try with_reducible rfl)
          (try simp only [Act.put, List.setIfInBounds_toArray, List.set_cons_zero, List.set_cons_succ])
          refine wpAny_take (i := 18) (oi := _) (v := ?_) (by simp only [List.getElem?_toArray, List.getElem?_cons_succ, List.getElem?_cons_zero]; rfl) (by kernel_rfl) (by kernel_rfl) (by kernel_rfl) (by intro _ _ _ h; exact h) (Or.inl ⟨by rfl, ?_⟩) ?_
          rotate_left
          focus (intro w; go_simp; try with_reducible rfl)
          (try simp only [Act.put, List.setIfInBounds_toArray, List.set_cons_zero, List.set_cons_succ])
          refine wpAny_take (i := 19) (oi := _) (v := ?_) (by simp only [List.getElem?_toArray, List.getElem?_cons_succ, List.getElem?_cons_zero]; rfl) (by kernel_rfl) (by kernel_rfl) (by kernel_rfl) (by intro _ _ _ h; exact h) (Or.inl ⟨by rfl, ?_⟩) ?_
          rotate_left
          focus (intro w; go_simp; try with_reducible rfl)
          (try simp only [Act.put, List.setIfInBounds_toArray, List.set_cons_zero, List.set_cons_succ])
          refine wpAny_ready (rs := [20]) (by kernel_rfl) (by simp) ?_
          refine AllReady.cons rfl (fun K hK => ?_) ?_
          · go_simp
            go_wp2_with (first
                | (go_at_call 24; refine (hdr_bytes t0 t1 t2 t3 t4 t5 _ q0.1 q0.2 q1.1 q1.2 q2.1 q2.2 q3.1 q3.2 q4.1 q4.2 q5.1 q5.2).mono ?_; rintro e w6 ⟨v6, rfl, ho6, hb6⟩; rw [HH2.out] at ho6; have s6 := str_own ho6; rw [HST.out] at s6; have sY6 := string_of_reads (src := 22) (dst := 9) (c := c) Try.underlying22 Try.underlying5 Try.underlying9 (ReadsInt.below (w := (w5.alloc (.cells #[.int .u16 t0, .int .u16 t1, .int .u16 t2, .int .u16 t3, .int .u16 t4, .int .u16 t5] 43)).drew) HRY.out hb6); rw [HST.out] at sY6; have bw6 := Lib.hid ((below_drew bw.out).trans (hb6.mono (below_drew bw.out).size)); clear ho6 hb6)
                | (go_at_call 22; refine (based (hdr_lives _) bw6.out).mono ?_; rintro e w7 ⟨rfl, hg7⟩))
            (try simp only [Act.put, List.setIfInBounds_toArray, List.set_cons_zero, List.set_cons_succ])
            refine wpAny_take (i := 21) (oi := _) (v := ?_) (by simp only [List.getElem?_toArray, List.getElem?_cons_succ, List.getElem?_cons_zero]; rfl) (by kernel_rfl) (by kernel_rfl) (by kernel_rfl) (by intro _ _ _ h; exact h) (Or.inl ⟨by rfl, ?_⟩) ?_
            rotate_left
            focus (intro w; go_simp; try with_reducible rfl)
            (try simp only [Act.put, List.setIfInBounds_toArray, List.set_cons_zero, List.set_cons_succ])
            refine wpAny_take (i := 22) (oi := _) (v := ?_) (by simp only [List.getElem?_toArray, List.getElem?_cons_succ, List.getElem?_cons_zero]; rfl) (by kernel_rfl) (by kernel_rfl) (by kernel_rfl) (by intro _ _ _ h; exact h) (Or.inl ⟨by rfl, ?_⟩) ?_
            rotate_left
            focus (intro w; go_simp; try with_reducible rfl)
            (try simp only [Act.put, List.setIfInBounds_toArray, List.set_cons_zero, List.set_cons_succ])
            refine wpAny_done (by kernel_rfl) ?_ _
            go_wp2
            go_ret
            exact ⟨rfl, by assumption⟩
          exact AllReady.nil
        exact AllReady.nil
      exact AllReady.nil
    refine AllReady.cons rfl (fun K hK => ?_) ?_
    · go_simp
      (refine hK _ _ ?_; clear hK K)
      (try simp only [Act.put, List.setIfInBounds_toArray, List.set_cons_zero, List.set_cons_succ])
      refine wpAny_ready (rs := [4]) (by kernel_rfl) (by simp) ?_
      refine AllReady.cons rfl (fun K hK => ?_) ?_
      · go_simp
        go_wp2_with (first
            | (go_at_call 24; refine (hdr_bytes t0 t1 t2 t3 t4 t5 _ q0.1 q0.2 q1.1 q1.2 q2.1 q2.2 q3.1 q3.2 q4.1 q4.2 q5.1 q5.2).mono ?_; rintro e w6 ⟨v6, rfl, ho6, hb6⟩; rw [HH2.out] at ho6; have s6 := str_own ho6; rw [HST.out] at s6; have sY6 := string_of_reads (src := 22) (dst := 9) (c := c) Try.underlying22 Try.underlying5 Try.underlying9 (ReadsInt.below (w := (w5.alloc (.cells #[.int .u16 t0, .int .u16 t1, .int .u16 t2, .int .u16 t3, .int .u16 t4, .int .u16 t5] 43)).drew) HRY.out hb6); rw [HST.out] at sY6; have bw6 := Lib.hid ((below_drew bw.out).trans (hb6.mono (below_drew bw.out).size)); clear ho6 hb6)
            | (go_at_call 22; refine (based (hdr_lives _) bw6.out).mono ?_; rintro e w7 ⟨rfl, hg7⟩))
        (try simp only [Act.put, List.setIfInBounds_toArray, List.set_cons_zero, List.set_cons_succ])
        refine wpAny_ready (rs := [5]) (by kernel_rfl) (by simp) ?_
        refine AllReady.cons rfl (fun K hK => ?_) ?_
        · go_simp
          (refine hK _ _ ?_; clear hK K)
          (try simp only [Act.put, List.setIfInBounds_toArray, List.set_cons_zero, List.set_cons_succ])
          refine wpAny_take (i := 9) (oi := _) (v := ?_) (by simp only [List.getElem?_toArray, List.getElem?_cons_succ, List.getElem?_cons_zero]; rfl) (by kernel_rfl) (by kernel_rfl) (by kernel_rfl) (by intro _ _ _ h; exact h) (Or.inl ⟨by rfl, ?_⟩) ?_
          rotate_left
          focus (intro w; go_simp; try with_reducible rfl)
          (try simp only [Act.put, List.setIfInBounds_toArray, List.set_cons_zero, List.set_cons_succ])
          refine wpAny_take (i := 10) (oi := _) (v := ?_) (by simp only [List.getElem?_toArray, List.getElem?_cons_succ, List.getElem?_cons_zero]; rfl) (by kernel_rfl) (by kernel_rfl) (by kernel_rfl) (by intro _ _ _ h; exact h) (Or.inl ⟨by rfl, ?_⟩) ?_
          rotate_left
          focus (intro w; go_simp; try with_reducible rfl)
          (try simp only [Act.put, List.setIfInBounds_toArray, List.set_cons_zero, List.set_cons_succ])
          refine wpAny_take (i := 11) (oi := _) (v := ?_) (by simp only [List.getElem?_toArray, List.getElem?_cons_succ, List.getElem?_cons_zero]; rfl) (by kernel_rfl) (by kernel_rfl) (by kernel_rfl) (by intro _ _ _ h; exact h) (Or.inl ⟨by rfl, ?_⟩) ?_
          rotate_left
          focus (intro w; go_simp; try with_reducible rfl)
          (try simp only [Act.put, List.setIfInBounds_toArray, List.set_cons_zero, List.set_cons_succ])
          refine wpAny_take (i := 12) (oi := _) (v := ?_) (by simp only [List.getElem?_toArray, List.getElem?_cons_succ, List.getElem?_cons_zero]; rfl) (by kernel_rfl) (by kernel_rfl) (by kernel_rfl) (by intro _ _ _ h; exact h) (Or.inl ⟨by rfl, ?_⟩) ?_
          rotate_left
          focus (intro w; go_simp; try with_reducible rfl)
          (try simp only [Act.put, List.setIfInBounds_toArray, List.set_cons_zero, List.set_cons_succ])
          refine wpAny_take (i := 13) (oi := _) (v := ?_) (by simp only [List.getElem?_toArray, List.getElem?_cons_succ, List.getElem?_cons_zero]; rfl) (by kernel_rfl) (by kernel_rfl) (by kernel_rfl) (by intro _ _ _ h; exact h) (Or.inl ⟨by rfl, ?_⟩) ?_
          rotate_left
          focus (intro w; go_simp; try with_reducible rfl)
          (try simp only [Act.put, List.setIfInBounds_toArray, List.set_cons_zero, List.set_cons_succ])
          refine wpAny_take (i := 14) (oi := _) (v := ?_) (by simp only [List.getElem?_toArray, List.getElem?_cons_succ, List.getElem?_cons_zero]; rfl) (by kernel_rfl) (by kernel_rfl) (by kernel_rfl) (by intro _ _ _ h; exact h) (Or.inl ⟨by rfl, ?_⟩) ?_
          rotate_left
          focus (intro w; go_simp; try with_reducible rfl)
          (try simp only [Act.put, List.setIfInBounds_toArray, List.set_cons_zero, List.set_cons_succ])
          refine wpAny_take (i := 15) (oi := _) (v := ?_) (by simp only [List.getElem?_toArray, List.getElem?_cons_succ, List.getElem?_cons_zero]; rfl) (by kernel_rfl) (by kernel_rfl) (by kernel_rfl) (by intro _ _ _ h; exact h) (Or.inl ⟨by rfl, ?_⟩) ?_
          rotate_left
          focus (intro w; go_simp; try with_reducible rfl)
          (try simp only [Act.put, List.setIfInBounds_toArray, List.set_cons_zero, List.set_cons_succ])
          refine wpAny_take (i := 16) (oi := _) (v := ?_) (by simp only [List.getElem?_toArray, List.getElem?_cons_succ, List.getElem?_cons_zero]; rfl) (by kernel_rfl) (by kernel_rfl) (by kernel_rfl) (by intro _ _ _ h; exact h) (Or.inl ⟨by rfl, ?_⟩) ?_
          rotate_left
          focus (intro w; go_simp; try with_reducible rfl)
          (try simp only [Act.put, List.setIfInBounds_toArray, List.set_cons_zero, List.set_cons_succ])
          refine wpAny_take (i := 17) (oi := _) (v := ?_) (by simp only [List.getElem?_toArray, List.getElem?_cons_succ, List.getElem?_cons_zero]; rfl) (by kernel_rfl) (by kernel_rfl) (by kernel_rfl) (by intro _ _ _ h; exact h) (Or.inl ⟨by rfl, ?_⟩) ?_
          rotate_left
          focus (intro w; go_simp; try with_reducible rfl)
          (try simp only [Act.put, List.setIfInBounds_toArray, List.set_cons_zero, List.set_cons_succ])
          refine wpAny_take (i := 18) (oi := _) (v := ?_) (by simp only [List.getElem?_toArray, List.getElem?_cons_succ, List.getElem?_cons_zero]; rfl) (by kernel_rfl) (by kernel_rfl) (by kernel_rfl) (by intro _ _ _ h; exact h) (Or.inl ⟨by rfl, ?_⟩) ?_
          rotate_left
          focus (intro w; go_simp; try with_reducible rfl)
          (try simp only [Act.put, List.setIfInBounds_toArray, List.set_cons_zero, List.set_cons_succ])
          refine wpAny_take (i := 19) (oi := _) (v := ?_) (by simp only [List.getElem?_toArray, List.getElem?_cons_succ, List.getElem?_cons_zero]; rfl) (by kernel_rfl) (by kernel_rfl) (by kernel_rfl) (by intro _ _ _ h; exact h) (Or.inl ⟨by rfl, ?_⟩) ?_
          rotate_left
          focus (intro w; go_simp; try with_reducible rfl)
          (try simp only [Act.put, List.setIfInBounds_toArray, List.set_cons_zero, List.set_cons_succ])
          refine wpAny_ready (rs := [20]) (by kernel_rfl) (by simp) ?_
          refine AllReady.cons rfl (fun K hK => ?_) ?_
          · go_simp
            go_wp2_with (first
                | (go_at_call 24; refine (hdr_bytes t0 t1 t2 t3 t4 t5 _ q0.1 q0.2 q1.1 q1.2 q2.1 q2.2 q3.1 q3.2 q4.1 q4.2 q5.1 q5.2).mono ?_; rintro e w6 ⟨v6, rfl, ho6, hb6⟩; rw [HH2.out] at ho6; have s6 := str_own ho6; rw [HST.out] at s6; have sY6 := string_of_reads (src := 22) (dst := 9) (c := c) Try.underlying22 Try.underlying5 Try.underlying9 (ReadsInt.below (w := (w5.alloc (.cells #[.int .u16 t0, .int .u16 t1, .int .u16 t2, .int .u16 t3, .int .u16 t4, .int .u16 t5] 43)).drew) HRY.out hb6); rw [HST.out] at sY6; have bw6 := Lib.hid ((below_drew bw.out).trans (hb6.mono (below_drew bw.out).size)); clear ho6 hb6)
                | (go_at_call 22; refine (based (hdr_lives _) bw6.out).mono ?_; rintro e w7 ⟨rfl, hg7⟩))
            (try simp only [Act.put, List.setIfInBounds_toArray, List.set_cons_zero, List.set_cons_succ])
            refine wpAny_take (i := 21) (oi := _) (v := ?_) (by simp only [List.getElem?_toArray, List.getElem?_cons_succ, List.getElem?_cons_zero]; rfl) (by kernel_rfl) (by kernel_rfl) (by kernel_rfl) (by intro _ _ _ h; exact h) (Or.inl ⟨by rfl, ?_⟩) ?_
            rotate_left
            focus (intro w; go_simp; try with_reducible rfl)
            (try simp only [Act.put, List.setIfInBounds_toArray, List.set_cons_zero, List.set_cons_succ])
            refine wpAny_take (i := 22) (oi := _) (v := ?_) (by simp only [List.getElem?_toArray, List.getElem?_cons_succ, List.getElem?_cons_zero]; rfl) (by kernel_rfl) (by kernel_rfl) (by kernel_rfl) (by intro _ _ _ h; exact h) (Or.inl ⟨by rfl, ?_⟩) ?_
            rotate_left
            focus (intro w; go_simp; try with_reducible rfl)
            (try simp only [Act.put, List.setIfInBounds_toArray, List.set_cons_zero, List.set_cons_succ])
            refine wpAny_done (by kernel_rfl) ?_ _
            go_wp2
            go_ret
            exact ⟨rfl, by assumption⟩
          exact AllReady.nil
        exact AllReady.nil
      exact AllReady.nil
    exact AllReady.nil
  refine AllReady.cons rfl (fun K hK => ?_) ?_
  · go_simp
    (refine hK _ _ ?_; clear hK K)
    (try simp only [Act.put, List.setIfInBounds_toArray, List.set_cons_zero, List.set_cons_succ])
    refine wpAny_ready (rs := [3]) (by kernel_rfl) (by simp) ?_
    refine AllReady.cons rfl (fun K hK => ?_) ?_
    · go_simp
      (refine hK _ _ ?_; clear hK K)
      (try simp only [Act.put, List.setIfInBounds_toArray, List.set_cons_zero, List.set_cons_succ])
      refine wpAny_ready (rs := [4]) (by kernel_rfl) (by simp) ?_
      refine AllReady.cons rfl (fun K hK => ?_) ?_
      · go_simp
        go_wp2_with (first
            | (go_at_call 24; refine (hdr_bytes t0 t1 t2 t3 t4 t5 _ q0.1 q0.2 q1.1 q1.2 q2.1 q2.2 q3.1 q3.2 q4.1 q4.2 q5.1 q5.2).mono ?_; rintro e w6 ⟨v6, rfl, ho6, hb6⟩; rw [HH2.out] at ho6; have s6 := str_own ho6; rw [HST.out] at s6; have sY6 := string_of_reads (src := 22) (dst := 9) (c := c) Try.underlying22 Try.underlying5 Try.underlying9 (ReadsInt.below (w := (w5.alloc (.cells #[.int .u16 t0, .int .u16 t1, .int .u16 t2, .int .u16 t3, .int .u16 t4, .int .u16 t5] 43)).drew) HRY.out hb6); rw [HST.out] at sY6; have bw6 := Lib.hid ((below_drew bw.out).trans (hb6.mono (below_drew bw.out).size)); clear ho6 hb6)
            | (go_at_call 22; refine (based (hdr_lives _) bw6.out).mono ?_; rintro e w7 ⟨rfl, hg7⟩))
        (try simp only [Act.put, List.setIfInBounds_toArray, List.set_cons_zero, List.set_cons_succ])
        refine wpAny_ready (rs := [5]) (by kernel_rfl) (by simp) ?_
        refine AllReady.cons rfl (fun K hK => ?_) ?_
        · go_simp
          (refine hK _ _ ?_; clear hK K)
          (try simp only [Act.put, List.setIfInBounds_toArray, List.set_cons_zero, List.set_cons_succ])
          refine wpAny_take (i := 9) (oi := _) (v := ?_) (by simp only [List.getElem?_toArray, List.getElem?_cons_succ, List.getElem?_cons_zero]; rfl) (by kernel_rfl) (by kernel_rfl) (by kernel_rfl) (by intro _ _ _ h; exact h) (Or.inl ⟨by rfl, ?_⟩) ?_
          rotate_left
          focus (intro w; go_simp; try with_reducible rfl)
          (try simp only [Act.put, List.setIfInBounds_toArray, List.set_cons_zero, List.set_cons_succ])
          refine wpAny_take (i := 10) (oi := _) (v := ?_) (by simp only [List.getElem?_toArray, List.getElem?_cons_succ, List.getElem?_cons_zero]; rfl) (by kernel_rfl) (by kernel_rfl) (by kernel_rfl) (by intro _ _ _ h; exact h) (Or.inl ⟨by rfl, ?_⟩) ?_
          rotate_left
          focus (intro w; go_simp; try with_reducible rfl)
          (try simp only [Act.put, List.setIfInBounds_toArray, List.set_cons_zero, List.set_cons_succ])
          refine wpAny_take (i := 11) (oi := _) (v := ?_) (by simp only [List.getElem?_toArray, List.getElem?_cons_succ, List.getElem?_cons_zero]; rfl) (by kernel_rfl) (by kernel_rfl) (by kernel_rfl) (by intro _ _ _ h; exact h) (Or.inl ⟨by rfl, ?_⟩) ?_
          rotate_left
          focus (intro w; go_simp; try with_reducible rfl)
          (try simp only [Act.put, List.setIfInBounds_toArray, List.set_cons_zero, List.set_cons_succ])
          refine wpAny_take (i := 12) (oi := _) (v := ?_) (by simp only [List.getElem?_toArray, List.getElem?_cons_succ, List.getElem?_cons_zero]; rfl) (by kernel_rfl) (by kernel_rfl) (by kernel_rfl) (by intro _ _ _ h; exact h) (Or.inl ⟨by rfl, ?_⟩) ?_
          rotate_left
          focus (intro w; go_simp; try with_reducible rfl)
          (try simp only [Act.put, List.setIfInBounds_toArray, List.set_cons_zero, List.set_cons_succ])
          refine wpAny_take (i := 13) (oi := _) (v := ?_) (by simp only [List.getElem?_toArray, List.getElem?_cons_succ, List.getElem?_cons_zero]; rfl) (by kernel_rfl) (by kernel_rfl) (by kernel_rfl) (by intro _ _ _ h; exact h) (Or.inl ⟨by rfl, ?_⟩) ?_
          rotate_left
          focus (intro w; go_simp; try with_reducible rfl)
          (try simp only [Act.put, List.setIfInBounds_toArray, List.set_cons_zero, List.set_cons_succ])
          refine wpAny_take (i := 14) (oi := _) (v := ?_) (by simp only [List.getElem?_toArray, List.getElem?_cons_succ, List.getElem?_cons_zero]; rfl) (by kernel_rfl) (by kernel_rfl) (by kernel_rfl) (by intro _ _ _ h; exact h) (Or.inl ⟨by rfl, ?_⟩) ?_
          rotate_left
          focus (intro w; go_simp; try with_reducible rfl)
          (try simp only [Act.put, List.setIfInBounds_toArray, List.set_cons_zero, List.set_cons_succ])
          refine wpAny_take (i := 15) (oi := _) (v := ?_) (by simp only [List.getElem?_toArray, List.getElem?_cons_succ, List.getElem?_cons_zero]; rfl) (by kernel_rfl) (by kernel_rfl) (by kernel_rfl) (by intro _ _ _ h; exact h) (Or.inl ⟨by rfl, ?_⟩) ?_
          rotate_left
          focus (intro w; go_simp; try with_reducible rfl)
          (try simp only [Act.put, List.setIfInBounds_toArray, List.set_cons_zero, List.set_cons_succ])
          refine wpAny_take (i := 16) (oi := _) (v := ?_) (by simp only [List.getElem?_toArray, List.getElem?_cons_succ, List.getElem?_cons_zero]; rfl) (by kernel_rfl) (by kernel_rfl) (by kernel_rfl) (by intro _ _ _ h; exact h) (Or.inl ⟨by rfl, ?_⟩) ?_
          rotate_left
          focus (intro w; go_simp; try with_reducible rfl)
          (try simp only [Act.put, List.setIfInBounds_toArray, List.set_cons_zero, List.set_cons_succ])
          refine wpAny_take (i := 17) (oi := _) (v := ?_) (by simp only [List.getElem?_toArray, List.getElem?_cons_succ, List.getElem?_cons_zero]; rfl) (by kernel_rfl) (by kernel_rfl) (by kernel_rfl) (by intro _ _ _ h; exact h) (Or.inl ⟨by rfl, ?_⟩) ?_
          rotate_left
          focus (intro w; go_simp; try with_reducible rfl)
          (try simp only [Act.put, List.setIfInBounds_toArray, List.set_cons_zero, List.set_cons_succ])
          refine wpAny_take (i := 18) (oi := _) (v := ?_) (by simp only [List.getElem?_toArray, List.getElem?_cons_succ, List.getElem?_cons_zero]; rfl) (by kernel_rfl) (by kernel_rfl) (by kernel_rfl) (by intro _ _ _ h; exact h) (Or.inl ⟨by rfl, ?_⟩) ?_
          rotate_left
          focus (intro w; go_simp; try with_reducible rfl)
          (try simp only [Act.put, List.setIfInBounds_toArray, List.set_cons_zero, List.set_cons_succ])
          refine wpAny_take (i := 19) (oi := _) (v := ?_) (by simp only [List.getElem?_toArray, List.getElem?_cons_succ, List.getElem?_cons_zero]; rfl) (by kernel_rfl) (by kernel_rfl) (by kernel_rfl) (by intro _ _ _ h; exact h) (Or.inl ⟨by rfl, ?_⟩) ?_
          rotate_left
          focus (intro w; go_simp; try with_reducible rfl)
          (try simp only [Act.put, List.setIfInBounds_toArray, List.set_cons_zero, List.set_cons_succ])
          refine wpAny_ready (rs := [20]) (by kernel_rfl) (by simp) ?_
          refine AllReady.cons rfl (fun K hK => ?_) ?_
          · go_simp
            go_wp2_with (first
                | (go_at_call 24; refine (hdr_bytes t0 t1 t2 t3 t4 t5 _ q0.1 q0.2 q1.1 q1.2 q2.1 q2.2 q3.1 q3.2 q4.1 q4.2 q5.1 q5.2).mono ?_; rintro e w6 ⟨v6, rfl, ho6, hb6⟩; rw [HH2.out] at ho6; have s6 := str_own ho6; rw [HST.out] at s6; have sY6 := string_of_reads (src := 22) (dst := 9) (c := c) Try.underlying22 Try.underlying5 Try.underlying9 (ReadsInt.below (w := (w5.alloc (.cells #[.int .u16 t0, .int .u16 t1, .int .u16 t2, .int .u16 t3, .int .u16 t4, .int .u16 t5] 43)).drew) HRY.out hb6); rw [HST.out] at sY6; have bw6 := Lib.hid ((below_drew bw.out).trans (hb6.mono (below_drew bw.out).size)); clear ho6 hb6)
                | (go_at_call 22; refine (based (hdr_lives _) bw6.out).mono ?_; rintro e w7 ⟨rfl, hg7⟩))
            (try simp only [Act.put, List.setIfInBounds_toArray, List.set_cons_zero, List.set_cons_succ])
            refine wpAny_take (i := 21) (oi := _) (v := ?_) (by simp only [List.getElem?_toArray, List.getElem?_cons_succ, List.getElem?_cons_zero]; rfl) (by kernel_rfl) (by kernel_rfl) (by kernel_rfl) (by intro _ _ _ h; exact h) (Or.inl ⟨by rfl, ?_⟩) ?_
            rotate_left
            focus (intro w; go_simp; try with_reducible rfl)
            (try simp only [Act.put, List.setIfInBounds_toArray, List.set_cons_zero, List.set_cons_succ])
            refine wpAny_take (i := 22) (oi := _) (v := ?_) (by simp only [List.getElem?_toArray, List.getElem?_cons_succ, List.getElem?_cons_zero]; rfl) (by kernel_rfl) (by kernel_rfl) (by kernel_rfl) (by intro _ _ _ h; exact h) (Or.inl ⟨by rfl, ?_⟩) ?_
            rotate_left
            focus (intro w; go_simp; try with_reducible rfl)
            (try simp only [Act.put, List.setIfInBounds_toArray, List.set_cons_zero, List.set_cons_succ])
            refine wpAny_done (by kernel_rfl) ?_ _
            go_wp2
            go_ret
            exact ⟨rfl, by assumption⟩
          exact AllReady.nil
        exact AllReady.nil
      exact AllReady.nil
    exact AllReady.nil
  exact AllReady.nil

set_option maxHeartbeats 1000000 in
theorem walk_short (a f q n u d : Int) (A : Option Addr) (c : Nat) (l : List Int) (w : World) (HR : ReadsInt w .u8 A l.length l) (hc : l.length ≤ c) (hB : Bytes l) (hs : l.length ≤ 2000) (hl : l.length < 12)
    (a0 : 0 ≤ a) (a1 : a ≤ 65535) (f0 : 0 ≤ f) (f1 : f ≤ 65535) (q0 : 0 ≤ q) (q1 : q ≤ 65535) (n0 : 0 ≤ n) (n1 : n ≤ 65535) (u0 : 0 ≤ u) (u1 : u ≤ 65535) (d0 : 0 ≤ d) (d1 : d ≤ 65535) :
    Calls Try.prog 5 #[.agg #[.int .u16 a, .int .u16 f, .int .u16 q, .int .u16 n, .int .u16 u, .int .u16 d], .slice A l.length c] w fun e w' => e = .returned (.bool true) ∧ Below w.heap.size w w' := by
  have hc0 : ∀ j v, (#[.int .u16 a, .int .u16 f, .int .u16 q, .int .u16 n, .int .u16 u, .int .u16 d] : Array Value)[j]? = some v → (w.alloc (.cells #[.int .u16 a, .int .u16 f, .int .u16 q, .int .u16 n, .int .u16 u, .int .u16 d] 36)).cell? ⟨w.heap.size, j, none⟩ = some v := fun j v h => by simpa using h
  have HC0 := Lib.hid hc0
  have HG0 := Lib.hid ((Below.refl w.heap.size w).alloc (Nat.le_refl _) (.cells #[.int .u16 a, .int .u16 f, .int .u16 q, .int .u16 n, .int .u16 u, .int .u16 d] 36))
  have HR0 := Lib.hid (HR.allocS (.cells #[.int .u16 a, .int .u16 f, .int .u16 q, .int .u16 n, .int .u16 u, .int .u16 d] 36))
  have HBB := Lib.hid hB
  have HCC := Lib.hid hc
  have hT := two_hdr a f q n u d l a0 a1 f0 f1 q0 q1 n0 n1 u0 u1 d0 d1
  have HT := Lib.hid hT
  have HHB := Lib.hid (bytes_append (bytes_hdrL a f q n u d) hB)
  have hL2 : (hdrL a f q n u d ++ l).length = 12 + l.length := by rw [List.length_append, hdrL_length]
  have HL1 := Lib.hid (hdrL_length a f q n u d)
  have HL2 := Lib.hid hL2
  clear hc0 HR hB hc hT hL2
  go_enter Try.func5, Try.ntmps5
  go_wp2_with fail
  refine (hdr_bytes a f q n u d _ a0 a1 f0 f1 q0 q1 n0 n1 u0 u1 d0 d1).mono ?_
  rintro e w1 ⟨v1, rfl, ho1, hb1⟩
  have HO1 := Lib.hid ho1
  have HB1 := Lib.hid hb1
  clear ho1 hb1
  go_wp2_with (at_builtin; go_loud (refine print_append_row (w0 := w.alloc (.cells #[.int .u16 a, .int .u16 f, .int .u16 q, .int .u16 n, .int .u16 u, .int .u16 d] 36)) (w.alloc (.cells #[.int .u16 a, .int .u16 f, .int .u16 q, .int .u16 n, .int .u16 u, .int .u16 d] 36)).heap.size rfl (.tmp 17) (.tmp 18) 22 5 .u8 1 rfl Try.underlying22 info5 (by decide) v1 (hdrL a f q n u d) l A l.length c rfl rfl HO1.out (HR0.out.below HB1.out) HB1.out HB1.out.size (by rw [HL1.out]; omega) ?_); intro v2 w2 hown hbl hg hat; generalize hdrL a f q n u d ++ l = l2 at *; obtain ⟨A2, c2, rfl, hc2, hr2⟩ := own_reads_cap hown; have HR2 := Lib.hid hr2; have HB2 := Lib.hid hbl; have HC2 := Lib.hid hc2; clear hr2 hbl hown hg hat hc2)
  have HR2' := HR2
  refine (hread_any A2 c2 l2 _ HR2.out HHB.out (by rw [HL2.out]; omega) (by rw [HL2.out]; omega)).mono ?_
  rintro e w3 ⟨rfl, hb3⟩
  obtain ⟨e0, e1, e2, e3, e4, e5⟩ := HT.out
  rw [e0, e1, e2, e3, e4, e5]
  clear e0 e1 e2 e3 e4 e5
  have HR3 := Lib.hid ((HR0.out.below (HB2.out.mono (Nat.le_refl _))).below hb3)
  have HB3 := Lib.hid (HB2.out.trans (hb3.mono HB2.out.size))
  clear hb3
  go_wp2_with fail
  refine (hread_short A c l _ hl).mono ?_
  rintro e w4 ⟨rfl, hb4⟩
  have HR4 := Lib.hid ((HR3.out.allocS (.cells #[.int .u16 a, .int .u16 f, .int .u16 q, .int .u16 n, .int .u16 u, .int .u16 d] 36)).below hb4)
  have HX4 := Lib.hid hb4
  clear hb4
  go_wp2_with fail
  refine (refread_short A c l _ hl).mono ?_
  rintro e w5 ⟨rfl, hb5⟩
  have HX5 := Lib.hid hb5
  clear hb5
  have b53 : Hid (Below w4.heap.size w4 (w5.alloc (.cells #[.int .u16 0, .int .u16 0, .int .u16 0, .int .u16 0, .int .u16 0, .int .u16 0] 43))) := ((Below.refl _ w4).alloc (Nat.le_refl _) _).trans ((HX5.out.mono (by simp)).trans (((Below.refl w5.heap.size w5).alloc (Nat.le_refl _) _).mono (Nat.le_trans (by simp) HX5.out.size)))
  have b33 : Hid (Below w3.heap.size w3 (w5.alloc (.cells #[.int .u16 0, .int .u16 0, .int .u16 0, .int .u16 0, .int .u16 0, .int .u16 0] 43))) := ((Below.refl _ w3).alloc (Nat.le_refl _) _).trans ((HX4.out.mono (by simp)).trans (b53.out.mono (Nat.le_trans (by simp) HX4.out.size)))
  have bw : Hid (Below w.heap.size w (w5.alloc (.cells #[.int .u16 0, .int .u16 0, .int .u16 0, .int .u16 0, .int .u16 0, .int .u16 0] 43))) := HG0.out.trans ((HB3.out.mono (by simp)).trans (b33.out.mono (Nat.le_trans (by simp) HB3.out.size)))
  have x0 := cell_later b33.out (cell_later HB3.out (HC0.out 0 _ rfl))
  have x1 := cell_later b33.out (cell_later HB3.out (HC0.out 1 _ rfl))
  have x2 := cell_later b33.out (cell_later HB3.out (HC0.out 2 _ rfl))
  have x3 := cell_later b33.out (cell_later HB3.out (HC0.out 3 _ rfl))
  have x4 := cell_later b33.out (cell_later HB3.out (HC0.out 4 _ rfl))
  have x5 := cell_later b33.out (cell_later HB3.out (HC0.out 5 _ rfl))
  have y0 : (w5.alloc (.cells #[.int .u16 0, .int .u16 0, .int .u16 0, .int .u16 0, .int .u16 0, .int .u16 0] 43)).cell? ⟨w3.heap.size, 0, none⟩ = some (.int .u16 a) := cell_later (((HX4.out.trans (((Below.refl w4.heap.size w4).alloc (Nat.le_refl _) _).mono HX4.out.size)).trans ((HX5.out.mono (Nat.le_trans HX4.out.size (by simp))).trans (((Below.refl w5.heap.size w5).alloc (Nat.le_refl _) _).mono (Nat.le_trans (Nat.le_trans HX4.out.size (by simp)) HX5.out.size))))) (show (w3.alloc (.cells #[.int .u16 a, .int .u16 f, .int .u16 q, .int .u16 n, .int .u16 u, .int .u16 d] 36)).cell? ⟨w3.heap.size, 0, none⟩ = some (.int .u16 a) by simp)
  have y1 : (w5.alloc (.cells #[.int .u16 0, .int .u16 0, .int .u16 0, .int .u16 0, .int .u16 0, .int .u16 0] 43)).cell? ⟨w3.heap.size, 1, none⟩ = some (.int .u16 f) := cell_later (((HX4.out.trans (((Below.refl w4.heap.size w4).alloc (Nat.le_refl _) _).mono HX4.out.size)).trans ((HX5.out.mono (Nat.le_trans HX4.out.size (by simp))).trans (((Below.refl w5.heap.size w5).alloc (Nat.le_refl _) _).mono (Nat.le_trans (Nat.le_trans HX4.out.size (by simp)) HX5.out.size))))) (show (w3.alloc (.cells #[.int .u16 a, .int .u16 f, .int .u16 q, .int .u16 n, .int .u16 u, .int .u16 d] 36)).cell? ⟨w3.heap.size, 1, none⟩ = some (.int .u16 f) by simp)
  have y2 : (w5.alloc (.cells #[.int .u16 0, .int .u16 0, .int .u16 0, .int .u16 0, .int .u16 0, .int .u16 0] 43)).cell? ⟨w3.heap.size, 2, none⟩ = some (.int .u16 q) := cell_later (((HX4.out.trans (((Below.refl w4.heap.size w4).alloc (Nat.le_refl _) _).mono HX4.out.size)).trans ((HX5.out.mono (Nat.le_trans HX4.out.size (by simp))).trans (((Below.refl w5.heap.size w5).alloc (Nat.le_refl _) _).mono (Nat.le_trans (Nat.le_trans HX4.out.size (by simp)) HX5.out.size))))) (show (w3.alloc (.cells #[.int .u16 a, .int .u16 f, .int .u16 q, .int .u16 n, .int .u16 u, .int .u16 d] 36)).cell? ⟨w3.heap.size, 2, none⟩ = some (.int .u16 q) by simp)
  have y3 : (w5.alloc (.cells #[.int .u16 0, .int .u16 0, .int .u16 0, .int .u16 0, .int .u16 0, .int .u16 0] 43)).cell? ⟨w3.heap.size, 3, none⟩ = some (.int .u16 n) := cell_later (((HX4.out.trans (((Below.refl w4.heap.size w4).alloc (Nat.le_refl _) _).mono HX4.out.size)).trans ((HX5.out.mono (Nat.le_trans HX4.out.size (by simp))).trans (((Below.refl w5.heap.size w5).alloc (Nat.le_refl _) _).mono (Nat.le_trans (Nat.le_trans HX4.out.size (by simp)) HX5.out.size))))) (show (w3.alloc (.cells #[.int .u16 a, .int .u16 f, .int .u16 q, .int .u16 n, .int .u16 u, .int .u16 d] 36)).cell? ⟨w3.heap.size, 3, none⟩ = some (.int .u16 n) by simp)
  have y4 : (w5.alloc (.cells #[.int .u16 0, .int .u16 0, .int .u16 0, .int .u16 0, .int .u16 0, .int .u16 0] 43)).cell? ⟨w3.heap.size, 4, none⟩ = some (.int .u16 u) := cell_later (((HX4.out.trans (((Below.refl w4.heap.size w4).alloc (Nat.le_refl _) _).mono HX4.out.size)).trans ((HX5.out.mono (Nat.le_trans HX4.out.size (by simp))).trans (((Below.refl w5.heap.size w5).alloc (Nat.le_refl _) _).mono (Nat.le_trans (Nat.le_trans HX4.out.size (by simp)) HX5.out.size))))) (show (w3.alloc (.cells #[.int .u16 a, .int .u16 f, .int .u16 q, .int .u16 n, .int .u16 u, .int .u16 d] 36)).cell? ⟨w3.heap.size, 4, none⟩ = some (.int .u16 u) by simp)
  have y5 : (w5.alloc (.cells #[.int .u16 0, .int .u16 0, .int .u16 0, .int .u16 0, .int .u16 0, .int .u16 0] 43)).cell? ⟨w3.heap.size, 5, none⟩ = some (.int .u16 d) := cell_later (((HX4.out.trans (((Below.refl w4.heap.size w4).alloc (Nat.le_refl _) _).mono HX4.out.size)).trans ((HX5.out.mono (Nat.le_trans HX4.out.size (by simp))).trans (((Below.refl w5.heap.size w5).alloc (Nat.le_refl _) _).mono (Nat.le_trans (Nat.le_trans HX4.out.size (by simp)) HX5.out.size))))) (show (w3.alloc (.cells #[.int .u16 a, .int .u16 f, .int .u16 q, .int .u16 n, .int .u16 u, .int .u16 d] 36)).cell? ⟨w3.heap.size, 5, none⟩ = some (.int .u16 d) by simp)
  have z0 : (w5.alloc (.cells #[.int .u16 0, .int .u16 0, .int .u16 0, .int .u16 0, .int .u16 0, .int .u16 0] 43)).cell? ⟨w4.heap.size, 0, none⟩ = some (.int .u16 0) := cell_later (HX5.out.trans (((Below.refl w5.heap.size w5).alloc (Nat.le_refl _) _).mono HX5.out.size)) (show (w4.alloc (.cells #[.int .u16 0, .int .u16 0, .int .u16 0, .int .u16 0, .int .u16 0, .int .u16 0] 36)).cell? ⟨w4.heap.size, 0, none⟩ = some (.int .u16 0) by simp)
  have z1 : (w5.alloc (.cells #[.int .u16 0, .int .u16 0, .int .u16 0, .int .u16 0, .int .u16 0, .int .u16 0] 43)).cell? ⟨w4.heap.size, 1, none⟩ = some (.int .u16 0) := cell_later (HX5.out.trans (((Below.refl w5.heap.size w5).alloc (Nat.le_refl _) _).mono HX5.out.size)) (show (w4.alloc (.cells #[.int .u16 0, .int .u16 0, .int .u16 0, .int .u16 0, .int .u16 0, .int .u16 0] 36)).cell? ⟨w4.heap.size, 1, none⟩ = some (.int .u16 0) by simp)
  have z2 : (w5.alloc (.cells #[.int .u16 0, .int .u16 0, .int .u16 0, .int .u16 0, .int .u16 0, .int .u16 0] 43)).cell? ⟨w4.heap.size, 2, none⟩ = some (.int .u16 0) := cell_later (HX5.out.trans (((Below.refl w5.heap.size w5).alloc (Nat.le_refl _) _).mono HX5.out.size)) (show (w4.alloc (.cells #[.int .u16 0, .int .u16 0, .int .u16 0, .int .u16 0, .int .u16 0, .int .u16 0] 36)).cell? ⟨w4.heap.size, 2, none⟩ = some (.int .u16 0) by simp)
  have z3 : (w5.alloc (.cells #[.int .u16 0, .int .u16 0, .int .u16 0, .int .u16 0, .int .u16 0, .int .u16 0] 43)).cell? ⟨w4.heap.size, 3, none⟩ = some (.int .u16 0) := cell_later (HX5.out.trans (((Below.refl w5.heap.size w5).alloc (Nat.le_refl _) _).mono HX5.out.size)) (show (w4.alloc (.cells #[.int .u16 0, .int .u16 0, .int .u16 0, .int .u16 0, .int .u16 0, .int .u16 0] 36)).cell? ⟨w4.heap.size, 3, none⟩ = some (.int .u16 0) by simp)
  have z4 : (w5.alloc (.cells #[.int .u16 0, .int .u16 0, .int .u16 0, .int .u16 0, .int .u16 0, .int .u16 0] 43)).cell? ⟨w4.heap.size, 4, none⟩ = some (.int .u16 0) := cell_later (HX5.out.trans (((Below.refl w5.heap.size w5).alloc (Nat.le_refl _) _).mono HX5.out.size)) (show (w4.alloc (.cells #[.int .u16 0, .int .u16 0, .int .u16 0, .int .u16 0, .int .u16 0, .int .u16 0] 36)).cell? ⟨w4.heap.size, 4, none⟩ = some (.int .u16 0) by simp)
  have z5 : (w5.alloc (.cells #[.int .u16 0, .int .u16 0, .int .u16 0, .int .u16 0, .int .u16 0, .int .u16 0] 43)).cell? ⟨w4.heap.size, 5, none⟩ = some (.int .u16 0) := cell_later (HX5.out.trans (((Below.refl w5.heap.size w5).alloc (Nat.le_refl _) _).mono HX5.out.size)) (show (w4.alloc (.cells #[.int .u16 0, .int .u16 0, .int .u16 0, .int .u16 0, .int .u16 0, .int .u16 0] 36)).cell? ⟨w4.heap.size, 5, none⟩ = some (.int .u16 0) by simp)
  have v0 : (w5.alloc (.cells #[.int .u16 0, .int .u16 0, .int .u16 0, .int .u16 0, .int .u16 0, .int .u16 0] 43)).cell? ⟨w5.heap.size, 0, none⟩ = some (.int .u16 0) := by simp
  have v1 : (w5.alloc (.cells #[.int .u16 0, .int .u16 0, .int .u16 0, .int .u16 0, .int .u16 0, .int .u16 0] 43)).cell? ⟨w5.heap.size, 1, none⟩ = some (.int .u16 0) := by simp
  have v2 : (w5.alloc (.cells #[.int .u16 0, .int .u16 0, .int .u16 0, .int .u16 0, .int .u16 0, .int .u16 0] 43)).cell? ⟨w5.heap.size, 2, none⟩ = some (.int .u16 0) := by simp
  have v3 : (w5.alloc (.cells #[.int .u16 0, .int .u16 0, .int .u16 0, .int .u16 0, .int .u16 0, .int .u16 0] 43)).cell? ⟨w5.heap.size, 3, none⟩ = some (.int .u16 0) := by simp
  have v4 : (w5.alloc (.cells #[.int .u16 0, .int .u16 0, .int .u16 0, .int .u16 0, .int .u16 0, .int .u16 0] 43)).cell? ⟨w5.heap.size, 4, none⟩ = some (.int .u16 0) := by simp
  have v5 : (w5.alloc (.cells #[.int .u16 0, .int .u16 0, .int .u16 0, .int .u16 0, .int .u16 0, .int .u16 0] 43)).cell? ⟨w5.heap.size, 5, none⟩ = some (.int .u16 0) := by simp
  go_wp2_with fail
  clear x0 x1 x2 x3 x4 x5 y0 y1 y2 y3 y4 y5 z0 z1 z2 z3 z4 z5 v0 v1 v2 v3 v4 v5
  have hd1 : decide ((12 : Int) ≤ (l.length : Int)) = false := decide_eq_false (by omega)
  have hd2 : decide (12 ≤ l.length) = false := decide_eq_false (by omega)
  refine wp_region_any (by kernel_rfl) ?_
  (try (change wpAny _ _ _ _ _ _ _ (World.drew _)))
  refine wpAny_take (i := 0) (oi := _) (v := ?_) (by simp only [List.getElem?_toArray, List.getElem?_cons_succ, List.getElem?_cons_zero]; rfl) (by kernel_rfl) (by kernel_rfl) (by kernel_rfl) (by intro _ _ _ h; exact h) (Or.inl ⟨by rfl, ?_⟩) ?_
  rotate_left
  focus (intro w; go_simp; try with_reducible rfl)
  (try simp only [Act.put, List.setIfInBounds_toArray, List.set_cons_zero, List.set_cons_succ])
  refine wpAny_take (i := 1) (oi := _) (v := ?_) (by simp only [List.getElem?_toArray, List.getElem?_cons_succ, List.getElem?_cons_zero]; rfl) (by kernel_rfl) (by kernel_rfl) (by kernel_rfl) (by intro _ _ _ h; exact h) (Or.inl ⟨by rfl, ?_⟩) ?_
  rotate_left
  focus (intro w; go_simp; try with_reducible rfl)
  (try simp only [Act.put, List.setIfInBounds_toArray, List.set_cons_zero, List.set_cons_succ])
  refine wpAny_take (i := 2) (oi := _) (v := ?_) (by simp only [List.getElem?_toArray, List.getElem?_cons_succ, List.getElem?_cons_zero]; rfl) (by kernel_rfl) (by kernel_rfl) (by kernel_rfl) (by intro _ _ _ h; exact h) (Or.inl ⟨by rfl, ?_⟩) ?_
  rotate_left
  focus (intro w; go_simp; try with_reducible rfl)
  (try simp only [Act.put, List.setIfInBounds_toArray, List.set_cons_zero, List.set_cons_succ])
  refine wpAny_take (i := 3) (oi := _) (v := undef) (by simp only [List.getElem?_toArray, List.getElem?_cons_succ, List.getElem?_cons_zero]; rfl) (by kernel_rfl) (by kernel_rfl) (by kernel_rfl) (by intro _ _ _ h; exact h) (Or.inr ⟨by rfl, rfl⟩) ?_
  (try simp only [Act.put, List.setIfInBounds_toArray, List.set_cons_zero, List.set_cons_succ])
  refine wpAny_take (i := 4) (oi := _) (v := undef) (by simp only [List.getElem?_toArray, List.getElem?_cons_succ, List.getElem?_cons_zero]; rfl) (by kernel_rfl) (by kernel_rfl) (by kernel_rfl) (by intro _ _ _ h; exact h) (Or.inr ⟨by rfl, rfl⟩) ?_
  (try simp only [Act.put, List.setIfInBounds_toArray, List.set_cons_zero, List.set_cons_succ])
  refine wpAny_take (i := 5) (oi := _) (v := undef) (by simp only [List.getElem?_toArray, List.getElem?_cons_succ, List.getElem?_cons_zero]; rfl) (by kernel_rfl) (by kernel_rfl) (by kernel_rfl) (by intro _ _ _ h; exact h) (Or.inr ⟨by rfl, rfl⟩) ?_
  (try simp only [Act.put, List.setIfInBounds_toArray, List.set_cons_zero, List.set_cons_succ])
  refine wpAny_take (i := 6) (oi := _) (v := undef) (by simp only [List.getElem?_toArray, List.getElem?_cons_succ, List.getElem?_cons_zero]; rfl) (by kernel_rfl) (by kernel_rfl) (by kernel_rfl) (by intro _ _ _ h; exact h) (Or.inr ⟨by rfl, rfl⟩) ?_
  (try simp only [Act.put, List.setIfInBounds_toArray, List.set_cons_zero, List.set_cons_succ])
  refine wpAny_take (i := 7) (oi := _) (v := undef) (by simp only [List.getElem?_toArray, List.getElem?_cons_succ, List.getElem?_cons_zero]; rfl) (by kernel_rfl) (by kernel_rfl) (by kernel_rfl) (by intro _ _ _ h; exact h) (Or.inr ⟨by rfl, rfl⟩) ?_
  (try simp only [Act.put, List.setIfInBounds_toArray, List.set_cons_zero, List.set_cons_succ])
  refine wpAny_take (i := 8) (oi := _) (v := undef) (by simp only [List.getElem?_toArray, List.getElem?_cons_succ, List.getElem?_cons_zero]; rfl) (by kernel_rfl) (by kernel_rfl) (by kernel_rfl) (by intro _ _ _ h; exact h) (Or.inr ⟨by rfl, rfl⟩) ?_
  (try simp only [Act.put, List.setIfInBounds_toArray, List.set_cons_zero, List.set_cons_succ])
  refine wpAny_take (i := 9) (oi := _) (v := undef) (by simp only [List.getElem?_toArray, List.getElem?_cons_succ, List.getElem?_cons_zero]; rfl) (by kernel_rfl) (by kernel_rfl) (by kernel_rfl) (by intro _ _ _ h; exact h) (Or.inr ⟨by rfl, rfl⟩) ?_
  (try simp only [Act.put, List.setIfInBounds_toArray, List.set_cons_zero, List.set_cons_succ])
  refine wpAny_take (i := 10) (oi := _) (v := ?_) (by simp only [List.getElem?_toArray, List.getElem?_cons_succ, List.getElem?_cons_zero]; rfl) (by kernel_rfl) (by kernel_rfl) (by kernel_rfl) (by intro _ _ _ h; exact h) (Or.inl ⟨by rfl, ?_⟩) ?_
  rotate_left
  focus (intro w; go_simp; try with_reducible rfl)
  (try simp only [Act.put, List.setIfInBounds_toArray, List.set_cons_zero, List.set_cons_succ])
  refine wpAny_take (i := 11) (oi := _) (v := ?_) (by simp only [List.getElem?_toArray, List.getElem?_cons_succ, List.getElem?_cons_zero]; rfl) (by kernel_rfl) (by kernel_rfl) (by kernel_rfl) (by intro _ _ _ h; exact h) (Or.inl ⟨by rfl, ?_⟩) ?_
  rotate_left
  focus (intro w; go_simp; try with_reducible rfl)
  (try simp only [Act.put, List.setIfInBounds_toArray, List.set_cons_zero, List.set_cons_succ])
  refine wpAny_take (i := 12) (oi := _) (v := ?_) (by simp only [List.getElem?_toArray, List.getElem?_cons_succ, List.getElem?_cons_zero]; rfl) (by kernel_rfl) (by kernel_rfl) (by kernel_rfl) (by intro _ _ _ h; exact h) (Or.inl ⟨by rfl, ?_⟩) ?_
  rotate_left
  focus (intro w; go_simp; try with_reducible rfl)
  (try simp only [Act.put, List.setIfInBounds_toArray, List.set_cons_zero, List.set_cons_succ])
  refine wpAny_take (i := 13) (oi := _) (v := ?_) (by simp only [List.getElem?_toArray, List.getElem?_cons_succ, List.getElem?_cons_zero]; rfl) (by kernel_rfl) (by kernel_rfl) (by kernel_rfl) (by intro _ _ _ h; exact h) (Or.inl ⟨by rfl, ?_⟩) ?_
  rotate_left
  focus (intro w; go_simp; try with_reducible rfl)
  (try simp only [Act.put, List.setIfInBounds_toArray, List.set_cons_zero, List.set_cons_succ])
  refine wpAny_take (i := 14) (oi := _) (v := ?_) (by simp only [List.getElem?_toArray, List.getElem?_cons_succ, List.getElem?_cons_zero]; rfl) (by kernel_rfl) (by kernel_rfl) (by kernel_rfl) (by intro _ _ _ h; exact h) (Or.inl ⟨by rfl, ?_⟩) ?_
  rotate_left
  focus (intro w; go_simp; try with_reducible rfl)
  (try simp only [Act.put, List.setIfInBounds_toArray, List.set_cons_zero, List.set_cons_succ])
  refine wpAny_take (i := 15) (oi := _) (v := ?_) (by simp only [List.getElem?_toArray, List.getElem?_cons_succ, List.getElem?_cons_zero]; rfl) (by kernel_rfl) (by kernel_rfl) (by kernel_rfl) (by intro _ _ _ h; exact h) (Or.inl ⟨by rfl, ?_⟩) ?_
  rotate_left
  focus (intro w; go_simp; try with_reducible rfl)
  (try simp only [Act.put, List.setIfInBounds_toArray, List.set_cons_zero, List.set_cons_succ])
  refine wpAny_take (i := 16) (oi := _) (v := ?_) (by simp only [List.getElem?_toArray, List.getElem?_cons_succ, List.getElem?_cons_zero]; rfl) (by kernel_rfl) (by kernel_rfl) (by kernel_rfl) (by intro _ _ _ h; exact h) (Or.inl ⟨by rfl, ?_⟩) ?_
  rotate_left
  focus (intro w; go_simp; try with_reducible rfl)
  (try simp only [Act.put, List.setIfInBounds_toArray, List.set_cons_zero, List.set_cons_succ])
  refine wpAny_take (i := 17) (oi := _) (v := ?_) (by simp only [List.getElem?_toArray, List.getElem?_cons_succ, List.getElem?_cons_zero]; rfl) (by kernel_rfl) (by kernel_rfl) (by kernel_rfl) (by intro _ _ _ h; exact h) (Or.inl ⟨by rfl, ?_⟩) ?_
  rotate_left
  focus (intro w; go_simp; try with_reducible rfl)
  (try simp only [Act.put, List.setIfInBounds_toArray, List.set_cons_zero, List.set_cons_succ])
  refine wpAny_take (i := 18) (oi := _) (v := ?_) (by simp only [List.getElem?_toArray, List.getElem?_cons_succ, List.getElem?_cons_zero]; rfl) (by kernel_rfl) (by kernel_rfl) (by kernel_rfl) (by intro _ _ _ h; exact h) (Or.inl ⟨by rfl, ?_⟩) ?_
  rotate_left
  focus (intro w; go_simp; try with_reducible rfl)
  (try simp only [Act.put, List.setIfInBounds_toArray, List.set_cons_zero, List.set_cons_succ])
  refine wpAny_take (i := 19) (oi := _) (v := ?_) (by simp only [List.getElem?_toArray, List.getElem?_cons_succ, List.getElem?_cons_zero]; rfl) (by kernel_rfl) (by kernel_rfl) (by kernel_rfl) (by intro _ _ _ h; exact h) (Or.inl ⟨by rfl, ?_⟩) ?_
  rotate_left
  focus (intro w; go_simp; try with_reducible rfl)
  (try simp only [Act.put, List.setIfInBounds_toArray, List.set_cons_zero, List.set_cons_succ])
  refine wpAny_ready (rs := [20]) (by kernel_rfl) (by simp) ?_
  refine AllReady.cons rfl (fun K hK => ?_) ?_
  · go_simp
    go_wp2_with (go_at_call 22; refine (based (hdr_lives _) (below_drew bw.out)).mono ?_; rintro e w7 ⟨rfl, hg7⟩)
    (try simp only [Act.put, List.setIfInBounds_toArray, List.set_cons_zero, List.set_cons_succ])
    refine wpAny_take (i := 21) (oi := _) (v := ?_) (by simp only [List.getElem?_toArray, List.getElem?_cons_succ, List.getElem?_cons_zero]; rfl) (by kernel_rfl) (by kernel_rfl) (by kernel_rfl) (by intro _ _ _ h; exact h) (Or.inl ⟨by rfl, ?_⟩) ?_
    rotate_left
    focus (intro w; go_simp; try with_reducible rfl)
    (try simp only [Act.put, List.setIfInBounds_toArray, List.set_cons_zero, List.set_cons_succ])
    refine wpAny_take (i := 22) (oi := _) (v := ?_) (by simp only [List.getElem?_toArray, List.getElem?_cons_succ, List.getElem?_cons_zero]; rfl) (by kernel_rfl) (by kernel_rfl) (by kernel_rfl) (by intro _ _ _ h; exact h) (Or.inl ⟨by rfl, ?_⟩) ?_
    rotate_left
    focus (intro w; go_simp; try with_reducible rfl)
    (try simp only [Act.put, List.setIfInBounds_toArray, List.set_cons_zero, List.set_cons_succ])
    refine wpAny_done (by kernel_rfl) ?_ _
    go_wp2
    go_ret
    exact ⟨rfl, by assumption⟩
  exact AllReady.nil

theorem walk (a f q n u d : Int) (A : Option Addr) (len cap : Nat) (z : List Int) (w : World) (wa : (Lit.int .u16 a).wf = true) (wf : (Lit.int .u16 f).wf = true) (wq : (Lit.int .u16 q).wf = true) (wn : (Lit.int .u16 n).wf = true) (wu : (Lit.int .u16 u).wf = true) (wd : (Lit.int .u16 d).wf = true) (w1 : IsRow .u8 w A len cap z) :
    Calls Try.prog 5 #[.agg #[.int .u16 a, .int .u16 f, .int .u16 q, .int .u16 n, .int .u16 u, .int .u16 d], .slice A len cap] w fun e w' => e = .returned (.bool true) ∧ Below w.heap.size w w' := by
  have hcap : len ≤ cap := by rcases w1 with ⟨_, rfl, rfl, _⟩ | ⟨x, _, h, _⟩ <;> omega
  obtain ⟨l, rfl, HR, hm, hw⟩ := ReadsInt.ofRow w1
  obtain ⟨a0, a1⟩ := bounds_u16 wa
  obtain ⟨f0, f1⟩ := bounds_u16 wf
  obtain ⟨q0, q1⟩ := bounds_u16 wq
  obtain ⟨n0, n1⟩ := bounds_u16 wn
  obtain ⟨u0, u1⟩ := bounds_u16 wu
  obtain ⟨d0, d1⟩ := bounds_u16 wd
  have hB : Bytes l := fun x hx => bounds_u8 (hw x hx)
  by_cases h : (2000 : Int) < (l.length : Int)
  · exact walk_far a f q n u d A _ cap w h
  · rcases Nat.lt_or_ge l.length 12 with h12 | h12
    · exact walk_short a f q n u d A cap l w HR hcap hB (by omega) h12 a0 a1 f0 f1 q0 q1 n0 n1 u0 u1 d0 d1
    · exact walk_near a f q n u d A cap l w HR hcap hB (by omega) h12 a0 a1 f0 f1 q0 q1 n0 n1 u0 u1 d0 d1

set_option maxRecDepth 100000 in
theorem lifted (os : Os) (started : os.Started) (H : Type) (enc : TypeId × Value → H) :
    ReturnsInHanded {} Try.checked os 5 .any (Rows.headerBackSpec.pre6 enc Try.prog Try.f5 Rows.headerBackRow.domain false) (Rows.headerBackSpec.post enc Try.prog Try.f5 false true false false) := by
  refine returnsInHanded_of_change (C := Try.checked) own started (by kernel_rfl) Try.func5
    (ChangeSpec.witness6 (enc := enc) (C := Try.checked) false ⟨#[], #[.agg #[.int .u16 0, .int .u16 0, .int .u16 0, .int .u16 0, .int .u16 0, .int .u16 0], .slice none 0 0], []⟩ 8 (by kernel_rfl) (by kernel_rfl) (by kernel_rfl) (by kernel_rfl)) ?_
  intro W base args ds gs before hval0 hW hcnd _
  have hval : ∀ (j : Nat) t v, Try.f5.params[j]? = some t → args[j]? = some v → Value.okWide Try.prog W .any base t v := hval0
  have hW' := hW
  obtain ⟨p, q, hA0, hV, rfl, hfz, hnd⟩ := hW
  have hA : DataW.TrodAll enc Try.prog W 0 (fun _ => true) true Try.f5.params.toList args.toList ds p := hA0
  rw [Try.params5] at hA hval
  obtain ⟨v0, vs0, d0, ds0, p0, q0, hargs, rfl, rfl, h0, r0⟩ := trodAll_cons hA
  obtain ⟨v1, vs1, d1, ds1, p1, q1, rfl, rfl, rfl, h1, r1⟩ := trodAll_cons r0
  obtain ⟨rfl, rfl, rfl⟩ := trodAll_nil r1
  obtain rfl : args = #[v0, v1] := by cases args; simp_all
  obtain ⟨rfl, rfl⟩ := trodVars_none hV
  have k0 := h0
  have lt0 : ∀ x ∈ p0, x.block < W.heap.size := by obtain ⟨m, hm⟩ := k0; exact DataW.trod_lt m _ _ _ hm
  have k1 := h1
  have lt1 : ∀ x ∈ p1, x.block < W.heap.size := by obtain ⟨m, hm⟩ := k1; exact DataW.trod_lt m _ _ _ hm
  obtain ⟨a0, f0, q0, n0, u0, e0, rfl, wa0, wf0, wq0, wn0, wu0, we0⟩ := open_hdr (hval 0 36 v0 rfl rfl) h0
  obtain ⟨a1, len1, cap1, rfl⟩ := okWide_slice Try.underlying22 (hval 1 22 v1 rfl rfl)
  obtain ⟨z1, w1⟩ : ∃ zs, IsRow .u8 W a1 len1 cap1 zs := by
    obtain ⟨fuel, hf⟩ := h1
    rcases open_ints Try.underlying22 Try.underlying5 (by kernel_rfl) hf with ⟨hcs, _⟩ | ⟨x, l, c, zs, hcs, _, hl, hm, hz, _, hcell, hwz⟩
    · simp [Value.cells] at hcs
      obtain ⟨rfl, rfl, rfl⟩ := hcs
      exact ⟨[], .inl ⟨rfl, rfl, rfl, rfl⟩⟩
    · simp [Value.cells] at hcs
      obtain ⟨rfl, rfl, rfl⟩ := hcs
      exact ⟨zs, .inr ⟨_, rfl, hl, hm, by simpa using hz, hcell, hwz⟩⟩
  clear hA0 hval0
  refine (walk a0 f0 q0 n0 u0 e0 a1 len1 cap1 z1 W wa0 wf0 wq0 wn0 wu0 we0 w1).mono fun e W' ⟨he, bel⟩ => ?_
  subst he
  exact ⟨_, rfl, _, _, _, [], _, [], hW', trodAll_mk1 (shut_bool Try.underlying4 _), (trodAll_cons_mk (Below.trod laidOut (by kernel_rfl) (of_decide_eq_true (by kernel_rfl)) k0 bel lt0) (trodAll_cons_mk (Below.trod laidOut (by kernel_rfl) (of_decide_eq_true (by kernel_rfl)) k1 bel lt1) trodAll_mk0)), rfl, bel.frame _, fun h => by cases h⟩

theorem over : Rows.headerBackRow.holds Try.pinned (OpenSpec.ofChange Rows.headerBackSpec) :=
  OpenClaim.holds_of_wide 5 Try.f5 rfl rfl rfl rfl rfl rfl rfl ⟨rfl, rfl, rfl, rfl, rfl⟩ rfl rfl rfl rfl rfl (by kernel_rfl) Try.func5 (by kernel_rfl)
    (of_decide_eq_true (by kernel_rfl)) (by unfold Func.isWrapper; first | (rw [if_pos (by decide +kernel)]; kernel_rfl) | (rw [if_neg (by decide +kernel)]; exact ⟨rfl, rfl⟩))
    (fun os started H enc _ => lifted os started H enc)

/-- THE STATEMENT. -/
theorem proved : Rows.HeaderBackSaid := over
#print axioms proved
end Go.Proofs.Ytnkbbmfhdabbkaa.headerBack
