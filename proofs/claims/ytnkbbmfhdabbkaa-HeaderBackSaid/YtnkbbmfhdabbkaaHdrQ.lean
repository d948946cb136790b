/-
  The reference of header.Read.
-/
import Derived.Test.YtnkbbmfhdabbkaaHdrR
import Derived.Deep.DrawnRows
import Derived.Deep.RegionHeld3
namespace Go.Proofs.Ytnkbbmfhdabbkaa
open Go.RowKit Go.Proofs.YtnkbbmfhdabbkaaW.PrintWords
set_option linter.unusedVariables false
set_option linter.unusedSimpArgs false
attribute [local go_sem ↓] Go.wp_at_zero Go.wp_at_succ

theorem info34 : (Try.prog.info? 34).map (fun i => (i.zero, i.size, i.bytes)) = some (some (.int .u16 0), 1, 2) := by kernel_rfl
theorem refread_short (A : Option Addr) (c : Nat) (l : List Int) (w : World) (hl : l.length < 12) :
    Calls Try.prog 25 #[.slice A l.length c] w fun e w' => e = .returned (.tuple #[.agg #[.int .u16 0, .int .u16 0, .int .u16 0, .int .u16 0, .int .u16 0, .int .u16 0], .int .i64 10]) ∧ Below w.heap.size w w' := by
  go_enter Try.func25, Try.ntmps25
  go_wp2
  go_returns
  exact ⟨rfl, by go_grown⟩
def twos (l : List Int) (k : Nat) : List Int := (List.range k).map (two l)
theorem twos_succ (l : List Int) (k : Nat) : twos l (k + 1) = twos l k ++ [two l k] := by simp [twos, List.range_succ]
theorem twos_len (l : List Int) (k : Nat) : (twos l k).length = k := by simp [twos]
theorem getV_two (l : List Int) (k : Nat) (h : 2 * k + 2 ≤ l.length) : getV l (2 * (k : Int)) 2 = two l k := by
  unfold getV
  have : okG l.length (2 * (k : Int)) 2 = true := decide_eq_true (by omega)
  rw [this, if_pos rfl]
  unfold two
  congr 2

set_option maxHeartbeats 2000000 in
theorem refread_any (A : Option Addr) (c : Nat) (l : List Int) (w : World) (HR : ReadsInt w .u8 A l.length l) (hc : l.length ≤ c) (hB : Bytes l) (hl : 12 ≤ l.length) (hs : l.length ≤ 100000) :
    Calls Try.prog 25 #[.slice A l.length c] w (HdrRes l w) := by
  have HRR := Lib.hid HR
  have HBB := Lib.hid hB
  have HC := Lib.hid hc
  have HT : Hid (∀ k : Nat, k < 6 → getV l (2 * (k : Int)) 2 = two l k ∧ 0 ≤ two l k ∧ two l k ≤ 65535) := fun k hk => ⟨getV_two l k (by omega), two_bd l k hB⟩
  clear HR hB hc
  go_enter Try.func25, Try.ntmps25
  go_wp2
  go_loopw [4, 5] (fun v i wr => ∃ k : Nat, k ≤ 6 ∧ i = .int .i64 k ∧ wr.ownsRow (w.heap.size + 1) 34 1 v (twos l k).length (nums .u16 (twos l k)) ∧ Below (w.heap.size + 1) (w.alloc (.cells #[.int .u16 0, .int .u16 0, .int .u16 0, .int .u16 0, .int .u16 0, .int .u16 0] 43)) wr) (fun _ i _ => 6 - (intOf i).toNat)
  case atStart => exact ⟨0, by omega, rfl, own_nil _ _ _ _, Below.refl _ _⟩
  case round =>
    obtain ⟨k, hk, rfl, hro, hrb⟩ := hrel
    have HO := Lib.hid hro
    have HB := Lib.hid hrb
    clear hro hrb
    by_cases hlt : k < 6
    · obtain ⟨t1, t2, t3⟩ := HT.out k hlt
      have HT1 := Lib.hid t1
      have HS := Lib.hid (twos_succ l k)
      clear t1
      generalize two l k = t at *
      go_wp2_with (first
        | (go_at_call 11; go_loud (refine (refGet_any _ _ _ _ _ _ ((HRR.out.allocS _).below (HB.out.mono (by simp))) HC.out HBB.out).mono ?_); rintro e w1 ⟨rfl, rfl⟩; rw [HT1.out])
        | (at_builtin; go_loud (refine print_append_num (w0 := w.alloc (.cells #[.int .u16 0, .int .u16 0, .int .u16 0, .int .u16 0, .int .u16 0, .int .u16 0] 43)) (w.heap.size + 1) rfl (.tmp 23) (.tmp 26) 76 34 .u16 2 rfl Try.underlying76 info34 (by decide) u4 (twos l k) t rfl rfl HO.out HB.out (by have := HB.out.size; simpa using this) (by simp [twos_len]; omega) ?_); intro v2 w2 hown2 hbl2 hg2 hat2))
      go_roundw
      case rel => exact ⟨k + 1, by omega, by go_num, by rw [HS.out]; exact hown2, hbl2⟩
      case measure => simp [intOf]; omega
    · obtain rfl : k = 6 := by omega
      obtain ⟨g, cap, rfl, hgb, hgl⟩ := HO.out.form (by simp [twos_len])
      have hlen : (twos l 6).length = 6 := twos_len l 6
      rw [hlen] at HO
      have h0 : wr.cell? ⟨g, 0, none⟩ = some (.int .u16 (two l 0)) := (own_at HO.out 0 (by omega) (by omega)).1
      have h1 : wr.cell? ⟨g, 1, none⟩ = some (.int .u16 (two l 1)) := (own_at HO.out 1 (by omega) (by omega)).1
      have h2 : wr.cell? ⟨g, 2, none⟩ = some (.int .u16 (two l 2)) := (own_at HO.out 2 (by omega) (by omega)).1
      have h3 : wr.cell? ⟨g, 3, none⟩ = some (.int .u16 (two l 3)) := (own_at HO.out 3 (by omega) (by omega)).1
      have h4 : wr.cell? ⟨g, 4, none⟩ = some (.int .u16 (two l 4)) := (own_at HO.out 4 (by omega) (by omega)).1
      have h5 : wr.cell? ⟨g, 5, none⟩ = some (.int .u16 (two l 5)) := (own_at HO.out 5 (by omega) (by omega)).1
      have hgs : w.heap.size ≠ g := by omega
      have hcf : ∀ j, j < 6 → wr.cell? ⟨w.heap.size, j, none⟩ = some (.int .u16 0) ∧ wr.frozen? ⟨w.heap.size, j, none⟩ = false := by
        intro j hj
        have hw0 : (w.alloc (.cells #[.int .u16 0, .int .u16 0, .int .u16 0, .int .u16 0, .int .u16 0, .int .u16 0] 43)).cell? ⟨w.heap.size, j, none⟩ = some (.int .u16 0) := by
          have : j = 0 ∨ j = 1 ∨ j = 2 ∨ j = 3 ∨ j = 4 ∨ j = 5 := by omega
          rcases this with rfl | rfl | rfl | rfl | rfl | rfl <;> simp
        exact ⟨(HB.out.cell (p := ⟨w.heap.size, j, none⟩) (by simp)).trans hw0, (HB.out.frozen (p := ⟨w.heap.size, j, none⟩) (by simp)).trans (by simp)⟩
      obtain ⟨c0, f0⟩ := hcf 0 (by omega)
      obtain ⟨c1, f1⟩ := hcf 1 (by omega)
      obtain ⟨c2, f2⟩ := hcf 2 (by omega)
      obtain ⟨c3, f3⟩ := hcf 3 (by omega)
      obtain ⟨c4, f4⟩ := hcf 4 (by omega)
      obtain ⟨c5, f5⟩ := hcf 5 (by omega)
      have HBF : Hid (Below w.heap.size w wr) := ((Below.refl _ w).alloc (Nat.le_refl _) _).trans (HB.out.mono (by omega))
      clear hcf HO HB
      generalize T0' : two l 0 = t0 at *
      have T0 := Lib.hid T0'
      clear T0'
      generalize T1' : two l 1 = t1 at *
      have T1 := Lib.hid T1'
      clear T1'
      generalize T2' : two l 2 = t2 at *
      have T2 := Lib.hid T2'
      clear T2'
      generalize T3' : two l 3 = t3 at *
      have T3 := Lib.hid T3'
      clear T3'
      generalize T4' : two l 4 = t4 at *
      have T4 := Lib.hid T4'
      clear T4'
      generalize T5' : two l 5 = t5 at *
      have T5 := Lib.hid T5'
      clear T5'
      go_wp2_with fail
      go_region_held3 (fun w' => w'.cell? ⟨g, 0, none⟩ = some (.int .u16 t0) ∧ w'.cell? ⟨g, 1, none⟩ = some (.int .u16 t1) ∧ w'.cell? ⟨g, 2, none⟩ = some (.int .u16 t2) ∧ w'.cell? ⟨g, 3, none⟩ = some (.int .u16 t3) ∧ w'.cell? ⟨g, 4, none⟩ = some (.int .u16 t4) ∧ w'.cell? ⟨g, 5, none⟩ = some (.int .u16 t5)) (go_keep) (fail)
      go_wp2
      refine bodyPost_ret (v := .tuple #[.agg #[.int .u16 t0, .int .u16 t1, .int .u16 t2, .int .u16 t3, .int .u16 t4, .int .u16 t5], .int .i64 0]) (by simp [results, Try.results25, go_sem, c0, c1, c2, c3, c4, c5]) rfl ?_
      unfold HdrRes
      rw [T0.out, T1.out, T2.out, T3.out, T4.out, T5.out]
      exact ⟨rfl, below_drew ((((((HBF.out.setCell (Nat.le_refl _) _).setCell (Nat.le_refl _) _).setCell (Nat.le_refl _) _).setCell (Nat.le_refl _) _).setCell (Nat.le_refl _) _).setCell (Nat.le_refl _) _)⟩
end Go.Proofs.Ytnkbbmfhdabbkaa
