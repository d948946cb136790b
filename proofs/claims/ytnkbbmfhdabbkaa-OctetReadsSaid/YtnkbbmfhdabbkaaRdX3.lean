/-
  A reader of bytes: Text.
-/
import Derived.Test.YtnkbbmfhdabbkaaRdX2
namespace Go.Proofs.Ytnkbbmfhdabbkaa.X
open Go.RowKit Go.Proofs.YtnkbbmfhdabbkaaW.PrintWords
set_option linter.unusedVariables false
variable {X : Nat}
set_option linter.unusedSimpArgs false

theorem num2_bd (l : List Int) (bad : Bool) (hB : Bytes l) : 0 ≤ numV l bad 2 ∧ numV l bad 2 ≤ 65535 := by
  unfold numV
  split
  · have h := num_bd (l.take (2 : Int).toNat) (bytes_take hB _)
    rename_i hok
    obtain ⟨_, _, _, hl⟩ := of_decide_eq_true hok
    have hlen : (l.take (2 : Int).toNat).length = 2 := by simp; omega
    rw [hlen] at h
    have h2 : (256 : Int) ^ 2 = 65536 := by decide
    rw [h2] at h
    omega
  · omega
theorem bytes_numL (l : List Int) (bad : Bool) (wd : Int) (hB : Bytes l) : Bytes (numL l bad wd) := by
  unfold numL; split
  · exact bytes_drop hB _
  · intro x hx; simp at hx
theorem numL_len (l : List Int) (bad : Bool) (wd : Int) : (numL l bad wd).length ≤ l.length := by
  unfold numL; split <;> simp
def txtOk (l : List Int) (bad : Bool) (most : Int) : Bool := decide (numOk l bad 2 = true ∧ numV l bad 2 ≤ most ∧ numV l bad 2 ≤ 1024)
def txtV (l : List Int) (bad : Bool) (most : Int) : List Int := if txtOk l bad most = true then takeV (numL l bad 2) false (numV l bad 2) else []
def txtL (l : List Int) (bad : Bool) (most : Int) : List Int := if txtOk l bad most = true then takeL (numL l bad 2) false (numV l bad 2) else []
def txtB (l : List Int) (bad : Bool) (most : Int) : Bool := if txtOk l bad most = true then !takeOk (numL l bad 2) false (numV l bad 2) else true
def TxtRes (X : Nat) (g : Nat) (V L : List Int) (b : Bool) (w : World) (e : Ending) (w' : World) : Prop :=
  e = .returned (.string (strOfNums V)) ∧ Rdr X w' g L b ∧ w.grownBy w' (some g)

theorem rtext_any (g : Nat) (l : List Int) (bad : Bool) (most : Int) (w : World) (h : Rdr X w g l bad) (hB : Bytes l) (hsm : l.length ≤ 140000000000000) :
    Calls Try.prog 29 #[.pointer (some ⟨g, 0, none⟩), .int .i64 most] w (TxtRes X g (txtV l bad most) (txtL l bad most) (txtB l bad most) w) := by
  have hp := rdr_open h
  have HN := Lib.hid (rnum_any g l bad 2 w h hB)
  obtain ⟨v0, v1⟩ := num2_bd l bad hB
  have hlen := Nat.le_trans (numL_len l bad 2) hsm
  have hV : txtV l bad most = if txtOk l bad most = true then takeV (numL l bad 2) false (numV l bad 2) else [] := rfl
  have hL : txtL l bad most = if txtOk l bad most = true then takeL (numL l bad 2) false (numV l bad 2) else [] := rfl
  have hBd : txtB l bad most = if txtOk l bad most = true then !takeOk (numL l bad 2) false (numV l bad 2) else true := rfl
  have hok : txtOk l bad most = decide (numOk l bad 2 = true ∧ numV l bad 2 ≤ most ∧ numV l bad 2 ≤ 1024) := rfl
  unfold NumRes at HN
  generalize numV l bad 2 = v at *
  generalize numL l bad 2 = l1 at *
  generalize numOk l bad 2 = o at *
  generalize txtV l bad most = V at *
  generalize txtL l bad most = L at *
  generalize txtB l bad most = b at *
  generalize txtOk l bad most = ok at *
  cases o with
  | false =>
    rw [decide_eq_false (by simp)] at hok
    subst hok
    obtain rfl : V = [] := by simpa using hV
    obtain rfl : L = [] := by simpa using hL
    obtain rfl : b = true := by simpa using hBd
    clear hV hL hBd h
    go_enter Try.func29, Try.ntmps29
    go_wp2_with (go_at_call 43; refine (rnone_ptr _ _ _ hp).mono ?_; rintro e w1 ⟨rfl, rfl⟩)
    refine HN.out.mono ?_
    rintro e w1 ⟨rfl, hr1, hg1⟩
    have hb1 : w1.cell? ⟨g, 2, none⟩ = some (.bool true) := rdr_bad hr1
    have HX := Lib.hid (rfail g _ _ _ hr1)
    have HG := Lib.hid hg1
    clear hr1 hg1
    go_wp2_with (go_at_call 44; refine HX.out.mono ?_; rintro e w2 ⟨⟨r, rfl⟩, hr2, hg2⟩)
    go_ret
    exact ⟨ret_val (by rfl), hr2, World.grownBy.trans HG.out hg2⟩
  | true =>
    by_cases h1 : v ≤ most
    · by_cases h2 : v ≤ 1024
      · rw [decide_eq_true (by exact ⟨rfl, h1, h2⟩)] at hok
        subst hok
        simp only [if_true] at hV hL hBd
        have HV := Lib.hid hV
        have HL := Lib.hid hL
        have HBd := Lib.hid hBd
        clear hV hL hBd h
        go_enter Try.func29, Try.ntmps29
        go_wp2_with (go_at_call 43; refine (rnone_ptr _ _ _ hp).mono ?_; rintro e w1 ⟨rfl, rfl⟩)
        refine HN.out.mono ?_
        rintro e w1 ⟨rfl, hr1, hg1⟩
        have hb1 : w1.cell? ⟨g, 2, none⟩ = some (.bool false) := rdr_bad hr1
        have HX := Lib.hid (rtake_any g l1 _ v _ hr1 hlen)
        have HG := Lib.hid hg1
        clear hr1 hg1
        go_wp2_with (go_at_call 31; refine HX.out.mono ?_; rintro e w2 ⟨x, rfl, ho2, hr2, hg2⟩; have hs := str_own ho2; have HR2 := Lib.hid hr2; have HG2 := Lib.hid hg2; clear ho2 hr2 hg2)
        go_ret
        exact ⟨ret_val (by rw [HV.out]; rfl), by rw [HL.out, HBd.out]; exact HR2.out, World.grownBy.trans HG.out HG2.out⟩
      · rw [decide_eq_false (by simp; omega)] at hok
        subst hok
        obtain rfl : V = [] := by simpa using hV
        obtain rfl : L = [] := by simpa using hL
        obtain rfl : b = true := by simpa using hBd
        clear hV hL hBd h
        go_enter Try.func29, Try.ntmps29
        go_wp2_with (go_at_call 43; refine (rnone_ptr _ _ _ hp).mono ?_; rintro e w1 ⟨rfl, rfl⟩)
        refine HN.out.mono ?_
        rintro e w1 ⟨rfl, hr1, hg1⟩
        have hb1 : w1.cell? ⟨g, 2, none⟩ = some (.bool false) := rdr_bad hr1
        have HX := Lib.hid (rfail g _ _ _ hr1)
        have HG := Lib.hid hg1
        clear hr1 hg1
        go_wp2_with (go_at_call 44; refine HX.out.mono ?_; rintro e w2 ⟨⟨r, rfl⟩, hr2, hg2⟩)
        go_ret
        exact ⟨ret_val (by rfl), hr2, World.grownBy.trans HG.out hg2⟩
    · rw [decide_eq_false (by simp; omega)] at hok
      subst hok
      obtain rfl : V = [] := by simpa using hV
      obtain rfl : L = [] := by simpa using hL
      obtain rfl : b = true := by simpa using hBd
      clear hV hL hBd h
      go_enter Try.func29, Try.ntmps29
      go_wp2_with (go_at_call 43; refine (rnone_ptr _ _ _ hp).mono ?_; rintro e w1 ⟨rfl, rfl⟩)
      refine HN.out.mono ?_
      rintro e w1 ⟨rfl, hr1, hg1⟩
      have hb1 : w1.cell? ⟨g, 2, none⟩ = some (.bool false) := rdr_bad hr1
      have HX := Lib.hid (rfail g _ _ _ hr1)
      have HG := Lib.hid hg1
      clear hr1 hg1
      go_wp2_with (go_at_call 44; refine HX.out.mono ?_; rintro e w2 ⟨⟨r, rfl⟩, hr2, hg2⟩)
      go_ret
      exact ⟨ret_val (by rfl), hr2, World.grownBy.trans HG.out hg2⟩
end Go.Proofs.Ytnkbbmfhdabbkaa.X
