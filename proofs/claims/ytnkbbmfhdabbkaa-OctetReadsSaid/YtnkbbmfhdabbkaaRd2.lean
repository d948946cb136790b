/-
  A reader of bytes, further: Take, Text, Left, Bad, Done, Open.
-/
import Derived.Test.YtnkbbmfhdabbkaaRd
namespace Go.Proofs.Ytnkbbmfhdabbkaa
open Go.RowKit Go.Proofs.YtnkbbmfhdabbkaaW.PrintWords
set_option linter.unusedVariables false
set_option linter.unusedSimpArgs false

theorem rdr_open {w : World} {g : Nat} {l : List Int} {bad : Bool} (h : Rdr w g l bad) : w.cell? ⟨g, 1, none⟩ = some (.bool true) := by
  obtain ⟨A, c, h0, h1, h2, f0, f2, hr, hc⟩ := h; exact h1
theorem rdr_bad {w : World} {g : Nat} {l : List Int} {bad : Bool} (h : Rdr w g l bad) : w.cell? ⟨g, 2, none⟩ = some (.bool bad) := by
  obtain ⟨A, c, h0, h1, h2, f0, f2, hr, hc⟩ := h; exact h2
theorem rdr_row {w : World} {g : Nat} {l : List Int} {bad : Bool} (h : Rdr w g l bad) : ∃ A c, w.cell? ⟨g, 0, none⟩ = some (.slice A l.length c) ∧ l.length ≤ 9223372036854775807 := by
  obtain ⟨A, c, h0, h1, h2, f0, f2, hr, hc⟩ := h; exact ⟨A, c, h0, hr.2.1⟩
theorem rdr_lt {w : World} {g : Nat} {l : List Int} {bad : Bool} (h : Rdr w g l bad) : g < w.heap.size := by
  obtain ⟨A, c, h0, h1, h2, f0, f2, hr, hc⟩ := h; exact World.block_lt_of_cell? _ _ h0

theorem rleft46 (g : Nat) (l : List Int) (bad : Bool) (w : World) (h : Rdr w g l bad) : Calls Try.prog 46 #[.pointer (some ⟨g, 0, none⟩)] w fun e w' => e = .returned (.int .i64 l.length) ∧ w = w' := by
  obtain ⟨A, c, h0, hm⟩ := rdr_row h
  clear h
  go_enter Try.func46, Try.ntmps46
  go_wp2
  go_ret
  exact ⟨rfl, rfl⟩
theorem rleft (g : Nat) (l : List Int) (bad : Bool) (w : World) (h : Rdr w g l bad) : Calls Try.prog 32 #[.pointer (some ⟨g, 0, none⟩)] w fun e w' => e = .returned (.int .i64 l.length) ∧ w = w' := by
  have hp := rdr_open h
  have H := Lib.hid (rleft46 g l bad w h)
  clear h
  go_enter Try.func32, Try.ntmps32
  go_wp2_with (first
    | (go_at_call 43; refine (rnone_ptr _ _ _ hp).mono ?_; rintro e w1 ⟨rfl, rfl⟩)
    | (go_at_call 46; refine H.out.mono ?_; rintro e w1 ⟨rfl, rfl⟩))
  go_ret
  exact ⟨rfl, rfl⟩
theorem rbad (g : Nat) (l : List Int) (bad : Bool) (w : World) (h : Rdr w g l bad) : Calls Try.prog 33 #[.pointer (some ⟨g, 0, none⟩)] w fun e w' => e = .returned (.bool bad) ∧ w = w' := by
  have hp := rdr_open h
  have hb := rdr_bad h
  clear h
  go_enter Try.func33, Try.ntmps33
  go_wp2_with (go_at_call 43; refine (rnone_ptr _ _ _ hp).mono ?_; rintro e w1 ⟨rfl, rfl⟩)
  go_ret
  exact ⟨rfl, rfl⟩
def doneE (l : List Int) (bad : Bool) : Int := if bad = true ∨ 0 < l.length then 10 else 0
theorem rdone (g : Nat) (l : List Int) (bad : Bool) (w : World) (h : Rdr w g l bad) : Calls Try.prog 30 #[.pointer (some ⟨g, 0, none⟩)] w fun e w' => e = .returned (.int .i64 (doneE l bad)) ∧ w = w' := by
  have hp := rdr_open h
  have hb := rdr_bad h
  have H := Lib.hid (rleft46 g l bad w h)
  clear h
  cases bad with
  | true =>
    have hd : doneE l true = 10 := by simp [doneE]
    rw [hd]
    clear hd
    go_enter Try.func30, Try.ntmps30
    go_wp2_with (first
      | (go_at_call 43; refine (rnone_ptr _ _ _ hp).mono ?_; rintro e w1 ⟨rfl, rfl⟩)
      | (go_at_call 46; refine H.out.mono ?_; rintro e w1 ⟨rfl, rfl⟩))
    go_ret
    exact ⟨rfl, rfl⟩
  | false =>
    by_cases hl : 0 < l.length
    · have hd : doneE l false = 10 := by simp [doneE, hl]
      rw [hd]
      clear hd
      go_enter Try.func30, Try.ntmps30
      go_wp2_with (first
        | (go_at_call 43; refine (rnone_ptr _ _ _ hp).mono ?_; rintro e w1 ⟨rfl, rfl⟩)
        | (go_at_call 46; refine H.out.mono ?_; rintro e w1 ⟨rfl, rfl⟩))
      go_ret
      exact ⟨rfl, rfl⟩
    · have hd : doneE l false = 0 := by simp [doneE, hl]
      have hl0 : l.length = 0 := by omega
      have hl' : ¬ (0 : Int) < (l.length : Int) := by omega
      rw [hd]
      clear hd hl0 hl
      go_enter Try.func30, Try.ntmps30
      go_wp2_with (first
        | (go_at_call 43; refine (rnone_ptr _ _ _ hp).mono ?_; rintro e w1 ⟨rfl, rfl⟩)
        | (go_at_call 46; refine H.out.mono ?_; rintro e w1 ⟨rfl, rfl⟩))
      go_ret
      exact ⟨rfl, rfl⟩

/-- What 'Take' tells, and what it leaves. -/
def takeOk (l : List Int) (bad : Bool) (n : Int) : Bool := decide (bad = false ∧ 0 ≤ n ∧ n ≤ l.length)
def takeV (l : List Int) (bad : Bool) (n : Int) : List Int := if takeOk l bad n = true then l.take n.toNat else []
def takeL (l : List Int) (bad : Bool) (n : Int) : List Int := if takeOk l bad n = true then l.drop n.toNat else []
def TakeRes (g : Nat) (l : List Int) (bad : Bool) (n : Int) (w : World) (e : Ending) (w' : World) : Prop :=
  ∃ v, e = .returned v ∧ w'.ownsRow w.heap.size 5 1 v (takeV l bad n).length (nums .u8 (takeV l bad n)) ∧ Rdr w' g (takeL l bad n) (!takeOk l bad n) ∧ w.grownBy w' (some g)
def TakeYes (g : Nat) (l : List Int) (n : Nat) (w : World) (e : Ending) (w' : World) : Prop :=
  ∃ v, e = .returned v ∧ w'.ownsRow w.heap.size 5 1 v (l.take n).length (nums .u8 (l.take n)) ∧ Rdr w' g (l.drop n) false ∧ w.grownBy w' (some g)
def TakeNo (g : Nat) (w : World) (e : Ending) (w' : World) : Prop :=
  e = .returned (.slice none 0 0) ∧ Rdr w' g [] true ∧ w.grownBy w' (some g)

theorem rtake_no (g : Nat) (l : List Int) (bad : Bool) (n : Int) (w : World) (h : Rdr w g l bad) (hok : takeOk l bad n = false) :
    Calls Try.prog 31 #[.pointer (some ⟨g, 0, none⟩), .int .i64 n] w (TakeNo g w) := by
  have hp := rdr_open h
  have HX := Lib.hid (rcut_bad g l bad n w h (of_decide_eq_false hok))
  clear h hok
  go_enter Try.func31, Try.ntmps31
  go_wp2_with (go_at_call 43; refine (rnone_ptr _ _ _ hp).mono ?_; rintro e w1 ⟨rfl, rfl⟩)
  refine HX.out.mono ?_
  rintro e w1 ⟨rfl, hrd, hgr⟩
  have HRD := Lib.hid hrd
  have HGR := Lib.hid hgr
  clear hrd hgr
  go_wp2
  go_ret
  exact ⟨rfl, HRD.out, HGR.out⟩
theorem rtake_yes (g : Nat) (l : List Int) (n : Nat) (w : World) (h : Rdr w g l false) (hn : n ≤ l.length) (hsm : l.length ≤ 140000000000000) :
    Calls Try.prog 31 #[.pointer (some ⟨g, 0, none⟩), .int .i64 (n : Int)] w (TakeYes g l n w) := by
  have hp := rdr_open h
  have hX := rcut_good g l n w h hn
  unfold CutYes at hX
  have hL : (l.take n).length ≤ 140000000000000 := by simp; omega
  unfold TakeYes
  generalize hy : l.take n = y at hX hL ⊢
  have HX := Lib.hid hX
  have hlt := rdr_lt h
  clear h hX hy
  go_enter Try.func31, Try.ntmps31
  go_wp2_with (go_at_call 43; refine (rnone_ptr _ _ _ hp).mono ?_; rintro e w1 ⟨rfl, rfl⟩)
  refine HX.out.mono ?_
  rintro e w1 ⟨A, c, rfl, hr, hc, hrd, hgr⟩
  have HR := Lib.hid hr
  have HRD := Lib.hid hrd
  have HGR := Lib.hid hgr
  clear hr hrd hgr
  go_wp2_with (at_builtin; go_loud (refine print_append_row (w0 := w1) w1.heap.size rfl (.tmp 19) (.tmp 20) 22 5 .u8 1 rfl Try.underlying22 info5 (by decide) (.slice (some ⟨w1.heap.size, 0, none⟩) 0 0) [] y A y.length c rfl rfl (own_lit w1 w1.heap.size 5 .u8 [] (Nat.le_refl _) (by simp)) (HR.out.allocS _) (below_alloc (Below.refl _ _) _) (by simp) (by simp; omega) ?_); intro v1 w2 hown hbl hg hat)
  go_ret
  exact ⟨v1, rfl, own_less (by simpa using hown) HGR.out.size, rdr_grown HRD.out hbl, HGR.out.trans (grown_of_below hbl _)⟩
theorem rtake_any (g : Nat) (l : List Int) (bad : Bool) (n : Int) (w : World) (h : Rdr w g l bad) (hsm : l.length ≤ 140000000000000) :
    Calls Try.prog 31 #[.pointer (some ⟨g, 0, none⟩), .int .i64 n] w (TakeRes g l bad n w) := by
  cases hok : takeOk l bad n with
  | true =>
    obtain ⟨rfl, h0, hl⟩ := of_decide_eq_true hok
    obtain ⟨m, rfl⟩ := Int.eq_ofNat_of_zero_le h0
    refine (rtake_yes g l m w h (by omega) hsm).mono fun e w' ⟨v, h1, h2, h3⟩ => ?_
    unfold TakeRes takeV takeL
    rw [hok]
    simp only [if_true, Int.toNat_natCast]
    exact ⟨v, h1, h2, h3⟩
  | false =>
    refine (rtake_no g l bad n w h hok).mono fun e w' ⟨h1, h2, h3⟩ => ?_
    unfold TakeRes takeV takeL
    rw [hok]
    exact ⟨_, h1, own_nil _ _ _ _, h2, h3⟩

theorem own_reads_cap {w : World} {base n : Nat} {e : TypeId} {k : IntKind} {v : Value} {xs : List Int} (h : w.ownsRow base e 1 v n (nums k xs)) : ∃ A c, v = .slice A n c ∧ n ≤ c ∧ ReadsInt w k A n xs := by
  obtain ⟨A, c, rfl, hr⟩ := own_reads h
  refine ⟨A, c, rfl, ?_, hr⟩
  rcases h.2 with ⟨h, h0⟩ | ⟨g, cap, cur, h, _, _, hn, _⟩
  · omega
  · injection h with _ _ hcc
    omega
/-- 'Open'. -/
def OpenRes (l : List Int) (w : World) (e : Ending) (w' : World) : Prop := ∃ g, e = .returned (.pointer (some ⟨g, 0, none⟩)) ∧ w.heap.size ≤ g ∧ Rdr w' g l false ∧ Below w.heap.size w w'
theorem ropen_any (A : Option Addr) (c : Nat) (l : List Int) (w : World) (HR : ReadsInt w .u8 A l.length l) (hl : l.length ≤ 140000000000000) :
    Calls Try.prog 27 #[.slice A l.length c] w (OpenRes l w) := by
  have HRR := Lib.hid HR
  clear HR
  go_enter Try.func27, Try.ntmps27
  go_wp2_with (at_builtin; go_loud (refine print_append_row (w0 := w) w.heap.size rfl (.tmp 3) (.tmp 4) 22 5 .u8 1 rfl Try.underlying22 info5 (by decide) (.slice (some ⟨w.heap.size, 0, none⟩) 0 0) [] l A l.length c rfl rfl (own_lit w w.heap.size 5 .u8 [] (Nat.le_refl _) (by simp)) (HRR.out.allocS _) (below_alloc (Below.refl _ _) _) (by simp) (by simp; omega) ?_); intro v1 w1 hown hbl hg hat; rw [List.nil_append] at hown; obtain ⟨A1, c1, rfl, hc1, hr1⟩ := own_reads_cap hown; have HR1 := Lib.hid hr1; have HB1 := Lib.hid hbl; clear hr1 hbl hown hg hat)
  go_ret
  refine ⟨w1.heap.size, rfl, HB1.out.size, ⟨A1, c1, by simp, by simp, by simp, by simp, by simp, HR1.out.allocS _, hc1⟩, below_alloc HB1.out _⟩
end Go.Proofs.Ytnkbbmfhdabbkaa
