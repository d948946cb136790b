/-
  header.Read: the six numbers that stand first.
-/
import Derived.Test.YtnkbbmfhdabbkaaRd2
import Derived.Test.YtnkbbmfhdabbkaaHdrB
namespace Go.Proofs.Ytnkbbmfhdabbkaa
open Go.RowKit Go.Proofs.YtnkbbmfhdabbkaaW.PrintWords
set_option linter.unusedVariables false
set_option linter.unusedSimpArgs false

def two (l : List Int) (i : Nat) : Int := num ((l.drop (2 * i)).take 2)
theorem two_bd (l : List Int) (i : Nat) (hB : Bytes l) : 0 ≤ two l i ∧ two l i ≤ 65535 := by
  have h := num_bd ((l.drop (2 * i)).take 2) (bytes_take (bytes_drop hB _) _)
  have hlen : ((l.drop (2 * i)).take 2).length ≤ 2 := by simp; omega
  have h2 : ∀ n, n < 3 → (256 : Int) ^ n ≤ 65536 := by decide
  have h3 := h2 _ (show ((l.drop (2 * i)).take 2).length < 3 by omega)
  unfold two
  omega
def Two (p : Addr) (g : Nat) (l : List Int) (i : Nat) (w : World) (e : Ending) (w' : World) : Prop :=
  e = .returned (.int .u16 (two l i)) ∧ Rdr w' g (l.drop (2 * (i + 1))) false ∧ w.grownBy w' (some g)
theorem two_any (B g : Nat) (l : List Int) (i : Nat) (w : World) (hp : w.cell? ⟨B, 0, none⟩ = some (.pointer (some ⟨g, 0, none⟩))) (h : Rdr w g (l.drop (2 * i)) false) (hB : Bytes l) (hl : 2 * (i + 1) ≤ l.length) :
    Calls Try.prog 41 #[.pointer (some ⟨B, 0, none⟩)] w (Two ⟨B, 0, none⟩ g l i w) := by
  have HX := Lib.hid (rnum_yes g (l.drop (2 * i)) 2 w h (bytes_drop hB _) (by omega) (by omega) (by simp; omega))
  have hb := two_bd l i hB
  unfold Two
  have hd : (l.drop (2 * i)).drop 2 = l.drop (2 * (i + 1)) := by rw [List.drop_drop]; congr 1
  unfold NumYes at HX
  rw [hd] at HX
  have e1 : num ((l.drop (2 * i)).take 2) = two l i := rfl
  rw [e1] at HX
  generalize two l i = t at *
  clear h hd e1
  go_enter Try.func41, Try.ntmps41
  go_wp2_with (go_at_call 28; refine HX.out.mono ?_; rintro e w1 ⟨rfl, hr, hg⟩; have HR := Lib.hid hr; have HG := Lib.hid hg; clear hr hg)
  go_ret
  exact ⟨rfl, HR.out, HG.out⟩

def HdrRes (l : List Int) (w : World) (e : Ending) (w' : World) : Prop :=
  e = .returned (.tuple #[.agg #[.int .u16 (two l 0), .int .u16 (two l 1), .int .u16 (two l 2), .int .u16 (two l 3), .int .u16 (two l 4), .int .u16 (two l 5)], .int .i64 0]) ∧ Below w.heap.size w w'
theorem hread_short (A : Option Addr) (c : Nat) (l : List Int) (w : World) (hl : l.length < 12) :
    Calls Try.prog 23 #[.slice A l.length c] w fun e w' => e = .returned (.tuple #[.agg #[.int .u16 0, .int .u16 0, .int .u16 0, .int .u16 0, .int .u16 0, .int .u16 0], .int .i64 10]) ∧ Below w.heap.size w w' := by
  go_enter Try.func23, Try.ntmps23
  go_wp2
  go_returns
  exact ⟨rfl, by go_grown⟩
set_option maxHeartbeats 1000000 in
theorem hread_any (A : Option Addr) (c : Nat) (l : List Int) (w : World) (HR : ReadsInt w .u8 A l.length l) (hB : Bytes l) (hl : 12 ≤ l.length) (hs : l.length ≤ 100000) :
    Calls Try.prog 23 #[.slice A l.length c] w (HdrRes l w) := by
  have HO := Lib.hid (ropen_any A c l (w.alloc (.cells #[.int .u16 0, .int .u16 0, .int .u16 0, .int .u16 0, .int .u16 0, .int .u16 0] 36)) (HR.allocS _) (by omega))
  have HBB := Lib.hid hB
  clear HR hB
  go_enter Try.func23, Try.ntmps23
  go_wp2_with (go_at_call 27; refine HO.out.mono ?_; rintro e w1 ⟨g, rfl, hg, hr, hb⟩)
  have hgl := rdr_lt hr
  have hg' : w.heap.size + 1 ≤ g := by simpa using hg
  have hne : some w1.heap.size ≠ some g := by simp; omega
  have hne2 : some w.heap.size ≠ some g := by simp; omega
  have hb0 : Below w.heap.size w w1 := ((Below.refl _ w).alloc (Nat.le_refl _) _).trans (hb.mono (by simp))
  have hz : w.heap.size < w1.heap.size := by omega
  have hp0 : (w1.alloc (.cells #[.pointer (some ⟨g, 0, none⟩)] 51)).cell? ⟨w1.heap.size, 0, none⟩ = some (.pointer (some ⟨g, 0, none⟩)) := by simp
  have hr0 : Rdr (w1.alloc (.cells #[.pointer (some ⟨g, 0, none⟩)] 51)) g (l.drop (2 * 0)) false := rdr_grown (by simpa using hr) ((Below.refl _ _).alloc (Nat.le_refl _) _)
  have hG0 : w1.grownBy (w1.alloc (.cells #[.pointer (some ⟨g, 0, none⟩)] 51)) (some g) := World.grownBy_alloc _ _ _
  have hc : ∀ j, j < 6 → w1.cell? ⟨w.heap.size, j, none⟩ = some (.int .u16 0) ∧ w1.frozen? ⟨w.heap.size, j, none⟩ = false := by
    intro j hj
    have h1 : (w.alloc (.cells #[.int .u16 0, .int .u16 0, .int .u16 0, .int .u16 0, .int .u16 0, .int .u16 0] 36)).cell? ⟨w.heap.size, j, none⟩ = some (.int .u16 0) := by
      have : j = 0 ∨ j = 1 ∨ j = 2 ∨ j = 3 ∨ j = 4 ∨ j = 5 := by omega
      rcases this with rfl | rfl | rfl | rfl | rfl | rfl <;> simp
    exact ⟨cell_later hb h1, (hb.frozen (p := ⟨w.heap.size, j, none⟩) (by simp)).trans (by simp)⟩
  have HP0 := Lib.hid hp0
  have HR0 := Lib.hid hr0
  have HG0 := Lib.hid hG0
  have HC := Lib.hid hc
  have HB0 := Lib.hid hb0
  have HNE := Lib.hid hne
  have HNE2 := Lib.hid hne2
  have HGG := Lib.hid hg'
  clear hp0 hr0 hG0 hc hb0 hne hne2 hr hb hg hg' HO
  refine (two_any w1.heap.size g l 0 _ HP0.out HR0.out HBB.out (by omega)).mono ?_
  rintro e w2 ⟨rfl, hr, hgr⟩
  have HR1 := Lib.hid hr
  have HP1 := Lib.hid (hgr.cell HP0.out HNE.out)
  have HG1 := Lib.hid (World.grownBy.trans HG0.out hgr)
  clear hr hgr
  go_wp2_with fail
  refine (two_any w1.heap.size g l 1 _ HP1.out HR1.out HBB.out (by omega)).mono ?_
  rintro e w3 ⟨rfl, hr, hgr⟩
  have HR2 := Lib.hid hr
  have HP2 := Lib.hid (hgr.cell HP1.out HNE.out)
  have HG2 := Lib.hid (World.grownBy.trans HG1.out hgr)
  clear hr hgr
  go_wp2_with fail
  refine (two_any w1.heap.size g l 2 _ HP2.out HR2.out HBB.out (by omega)).mono ?_
  rintro e w4 ⟨rfl, hr, hgr⟩
  have HR3 := Lib.hid hr
  have HP3 := Lib.hid (hgr.cell HP2.out HNE.out)
  have HG3 := Lib.hid (World.grownBy.trans HG2.out hgr)
  clear hr hgr
  go_wp2_with fail
  refine (two_any w1.heap.size g l 3 _ HP3.out HR3.out HBB.out (by omega)).mono ?_
  rintro e w5 ⟨rfl, hr, hgr⟩
  have HR4 := Lib.hid hr
  have HP4 := Lib.hid (hgr.cell HP3.out HNE.out)
  have HG4 := Lib.hid (World.grownBy.trans HG3.out hgr)
  clear hr hgr
  go_wp2_with fail
  refine (two_any w1.heap.size g l 4 _ HP4.out HR4.out HBB.out (by omega)).mono ?_
  rintro e w6 ⟨rfl, hr, hgr⟩
  have HR5 := Lib.hid hr
  have HP5 := Lib.hid (hgr.cell HP4.out HNE.out)
  have HG5 := Lib.hid (World.grownBy.trans HG4.out hgr)
  clear hr hgr
  go_wp2_with fail
  refine (two_any w1.heap.size g l 5 _ HP5.out HR5.out HBB.out (by omega)).mono ?_
  rintro e w7 ⟨rfl, hr, hgr⟩
  have HR6 := Lib.hid hr
  have HP6 := Lib.hid (hgr.cell HP5.out HNE.out)
  have HG6 := Lib.hid (World.grownBy.trans HG5.out hgr)
  clear hr hgr
  have c0 := HG6.out.cell (HC.out 0 (by omega)).1 HNE2.out
  have f0 := (HG6.out.frozen_far ⟨w.heap.size, 0, none⟩ hz HNE2.out).trans (HC.out 0 (by omega)).2
  have c1 := HG6.out.cell (HC.out 1 (by omega)).1 HNE2.out
  have f1 := (HG6.out.frozen_far ⟨w.heap.size, 1, none⟩ hz HNE2.out).trans (HC.out 1 (by omega)).2
  have c2 := HG6.out.cell (HC.out 2 (by omega)).1 HNE2.out
  have f2 := (HG6.out.frozen_far ⟨w.heap.size, 2, none⟩ hz HNE2.out).trans (HC.out 2 (by omega)).2
  have c3 := HG6.out.cell (HC.out 3 (by omega)).1 HNE2.out
  have f3 := (HG6.out.frozen_far ⟨w.heap.size, 3, none⟩ hz HNE2.out).trans (HC.out 3 (by omega)).2
  have c4 := HG6.out.cell (HC.out 4 (by omega)).1 HNE2.out
  have f4 := (HG6.out.frozen_far ⟨w.heap.size, 4, none⟩ hz HNE2.out).trans (HC.out 4 (by omega)).2
  have c5 := HG6.out.cell (HC.out 5 (by omega)).1 HNE2.out
  have f5 := (HG6.out.frozen_far ⟨w.heap.size, 5, none⟩ hz HNE2.out).trans (HC.out 5 (by omega)).2
  have HBF := Lib.hid (HB0.out.grown HG6.out HB0.out.size (fun k hk => by cases hk; have := HGG.out; omega))
  generalize T0' : two l 0 = t0
  generalize T1' : two l 1 = t1
  generalize T2' : two l 2 = t2
  generalize T3' : two l 3 = t3
  generalize T4' : two l 4 = t4
  generalize T5' : two l 5 = t5
  have T0 := Lib.hid T0'
  have T1 := Lib.hid T1'
  have T2 := Lib.hid T2'
  have T3 := Lib.hid T3'
  have T4 := Lib.hid T4'
  have T5 := Lib.hid T5'
  clear T0' T1' T2' T3' T4' T5'
  go_wp2
  refine bodyPost_ret (v := .tuple #[.agg #[.int .u16 t0, .int .u16 t1, .int .u16 t2, .int .u16 t3, .int .u16 t4, .int .u16 t5], .int .i64 0]) (by simp [results, Try.results23, go_sem, c0, c1, c2, c3, c4, c5]) rfl ?_
  unfold HdrRes
  rw [T0.out, T1.out, T2.out, T3.out, T4.out, T5.out]
  exact ⟨rfl, (((((HBF.out.setCell (Nat.le_refl _) _).setCell (Nat.le_refl _) _).setCell (Nat.le_refl _) _).setCell (Nat.le_refl _) _).setCell (Nat.le_refl _) _).setCell (Nat.le_refl _) _⟩
end Go.Proofs.Ytnkbbmfhdabbkaa
