/-
  The reference's reader over what is left: 'Num', 'Take', 'Text', 'Left', 'Done'.
-/
import Derived.Test.YtnkbbmfhdabbkaaRr3
namespace Go.Proofs.Ytnkbbmfhdabbkaa.X
open Go.RowKit Go.Proofs.YtnkbbmfhdabbkaaW.PrintWords
set_option linter.unusedVariables false
set_option linter.unusedSimpArgs false

/-- 'Num', over what is left. -/
theorem rR_num (G g : Nat) (B l : List Int) (bad : Bool) (wd : Int) (w : World) (h : RR G w g B l bad) (hG : G ≤ g) (hB : Bytes B) :
    Calls Try.prog 34 #[.pointer (some ⟨g, 0, none⟩), .int .i64 wd] w fun e w' => e = .returned (.int .u64 (numV l bad wd)) ∧ RR G w' g B (numL l bad wd) (!numOk l bad wd) ∧ w.grownBy w' (some g) := by
  obtain ⟨A, c, at_, hr, ha, rfl, hR, hc, hA⟩ := h
  have hAg : ∀ ad, A = some ad → 0 < B.length → ad.block ≠ g := fun ad e hn e2 => by have := hA ad e hn; omega
  have hlen : (B.drop at_).length = B.length - at_ := List.length_drop
  cases hok : numOk (B.drop at_) bad wd with
  | true =>
    obtain ⟨rfl, h1, h8, hl⟩ := of_decide_eq_true hok
    obtain ⟨m, rfl⟩ := Int.eq_ofNat_of_zero_le (show 0 ≤ wd by omega)
    rw [hlen] at hl
    have hg : okG B.length at_ m = true := decide_eq_true ⟨h1, h8, by omega, by omega, by omega⟩
    refine (rr_num_yes g A c at_ m (at_ + m) rfl B w hr hR hc hB hg (by have := hR.2.1; omega)).mono ?_
    rintro e w' ⟨he, hr', hg'⟩
    refine ⟨?_, ⟨A, c, at_ + m, hr', by omega, ?_, reads_grown hR hg' hAg, hc, hA⟩, hg'⟩
    · rw [he]; unfold numV getV; rw [hok, hg, if_pos rfl, if_pos rfl, Int.toNat_natCast, Int.toNat_natCast]
    · unfold numL; rw [hok, if_pos rfl, List.drop_drop, Int.toNat_natCast]
  | false =>
    have hno : bad = true ∨ okG B.length at_ wd = false := by
      cases bad with
      | true => exact .inl rfl
      | false =>
        refine .inr (decide_eq_false fun h => of_decide_eq_false hok ⟨rfl, h.1, h.2.1, ?_⟩)
        rw [hlen]; omega
    refine (rr_num_no g A c at_ bad B wd w hr hR hc hB hno).mono ?_
    rintro e w' ⟨he, hr', hg'⟩
    refine ⟨?_, ⟨A, c, B.length, hr', Nat.le_refl _, ?_, reads_grown hR hg' hAg, hc, hA⟩, hg'⟩
    · rw [he]; unfold numV; rw [hok]; rfl
    · unfold numL; rw [hok]; simp
theorem rR_take (G g : Nat) (B l : List Int) (bad : Bool) (x : Int) (w : World) (h : RR G w g B l bad) (hG : G ≤ g) (hsm : B.length ≤ 140000000000000) :
    Calls Try.prog 35 #[.pointer (some ⟨g, 0, none⟩), .int .i64 x] w fun e w' => ∃ v, e = .returned v ∧ w'.ownsRow w.heap.size 5 1 v (takeV l bad x).length (nums .u8 (takeV l bad x)) ∧ RR G w' g B (takeL l bad x) (!takeOk l bad x) ∧ w.grownBy w' (some g) := by
  obtain ⟨A, c, at_, hr, ha, rfl, hR, hc, hA⟩ := h
  have hAg : ∀ ad, A = some ad → 0 < B.length → ad.block ≠ g := fun ad e hn e2 => by have := hA ad e hn; omega
  have hlen : (B.drop at_).length = B.length - at_ := List.length_drop
  cases hok : takeOk (B.drop at_) bad x with
  | true =>
    obtain ⟨rfl, h0, hl⟩ := of_decide_eq_true hok
    obtain ⟨m, rfl⟩ := Int.eq_ofNat_of_zero_le h0
    rw [hlen] at hl
    refine (rr_take_yes g A c at_ m (at_ + m) rfl B _ rfl w hr hR hc (by omega) hsm hAg).mono ?_
    rintro e w' ⟨v, he, ho, hr', hg'⟩
    refine ⟨v, he, ?_, ⟨A, c, at_ + m, hr', by omega, ?_, reads_grown hR hg' hAg, hc, hA⟩, hg'⟩
    · unfold takeV; rw [hok, if_pos rfl, Int.toNat_natCast]; exact ho
    · unfold takeL; rw [hok, if_pos rfl, List.drop_drop, Int.toNat_natCast]
  | false =>
    have hno : ¬ (bad = false ∧ 0 ≤ x ∧ x ≤ (B.length : Int) - at_) := fun h => of_decide_eq_false hok ⟨h.1, h.2.1, by rw [hlen]; omega⟩
    refine (rr_take_no g A B.length c at_ bad x w hr ha hR.2.1 hno).mono ?_
    rintro e w' ⟨he, hr', hg'⟩
    refine ⟨_, he, ?_, ⟨A, c, B.length, hr', Nat.le_refl _, ?_, reads_grown hR hg' hAg, hc, hA⟩, hg'⟩
    · unfold takeV; rw [hok]; exact own_nil _ _ _ _
    · unfold takeL; rw [hok]; simp
theorem rR_bad {G g : Nat} {w : World} {B l : List Int} {bad : Bool} (h : RR G w g B l bad) : w.cell? ⟨g, 2, none⟩ = some (.bool bad) := by
  obtain ⟨A, c, at_, hr, ha, rfl, hR, hc, hA⟩ := h
  exact hr.2.2.1
theorem rR_fail (G g : Nat) (B l : List Int) (bad : Bool) (w : World) (h : RR G w g B l bad) (hG : G ≤ g) :
    Calls Try.prog 47 #[.pointer (some ⟨g, 0, none⟩)] w fun e w' => (∃ r, e = .returned r) ∧ RR G w' g B [] true ∧ w.grownBy w' (some g) := by
  obtain ⟨A, c, at_, hr, ha, rfl, hR, hc, hA⟩ := h
  have hAg : ∀ ad, A = some ad → 0 < B.length → ad.block ≠ g := fun ad e hn e2 => by have := hA ad e hn; omega
  refine (rr_fail g A B.length c at_ bad w hr).mono ?_
  rintro e w' ⟨he, hr', hg'⟩
  exact ⟨he, ⟨A, c, B.length, hr', Nat.le_refl _, by simp, reads_grown hR hg' hAg, hc, hA⟩, hg'⟩
theorem rR_left (G g : Nat) (B l : List Int) (bad : Bool) (w : World) (h : RR G w g B l bad) :
    Calls Try.prog 37 #[.pointer (some ⟨g, 0, none⟩)] w fun e w' => e = .returned (.int .i64 l.length) ∧ Below w.heap.size w w' := by
  obtain ⟨A, c, at_, hr, ha, rfl, hR, hc, hA⟩ := h
  refine (rr_left g A B.length c at_ bad w hr ha hR.2.1).mono ?_
  rintro e w' ⟨he, hb⟩
  exact ⟨by rw [he]; congr 2; rw [List.length_drop]; omega, hb⟩
theorem rR_done (G g : Nat) (B l : List Int) (bad : Bool) (w : World) (h : RR G w g B l bad) :
    Calls Try.prog 38 #[.pointer (some ⟨g, 0, none⟩)] w fun e w' => e = .returned (.int .i64 (doneE l bad)) ∧ Below w.heap.size w w' := by
  obtain ⟨A, c, at_, hr, ha, rfl, hR, hc, hA⟩ := h
  refine (rr_done g A B.length c at_ bad w hr ha hR.2.1).mono ?_
  rintro e w' ⟨he, hb⟩
  refine ⟨?_, hb⟩
  rw [he, rrDone, doneE, List.length_drop]
  congr 2
  by_cases h1 : at_ < B.length
  · rw [if_pos (.inr h1), if_pos (.inr (by omega))]
  · cases bad
    · rw [if_neg (by simp; omega), if_neg (by simp; omega)]
    · rw [if_pos (.inl rfl), if_pos (.inl rfl)]
theorem rR_text (G g : Nat) (B l : List Int) (bad : Bool) (most : Int) (w : World) (h : RR G w g B l bad) (hG : G ≤ g) (hB : Bytes B) (hsm : B.length ≤ 140000000000000) :
    Calls Try.prog 36 #[.pointer (some ⟨g, 0, none⟩), .int .i64 most] w fun e w' => e = .returned (.string (strOfNums (txtV l bad most))) ∧ RR G w' g B (txtL l bad most) (txtB l bad most) ∧ w.grownBy w' (some g) := by
  have hBl : Bytes l := by obtain ⟨A, c, at_, hr, ha, rfl, hR, hc, hA⟩ := h; exact bytes_drop hB _
  have HN := Lib.hid (rR_num G g B l bad 2 w h hG hB)
  obtain ⟨v0, v1⟩ := num2_bd l bad hBl
  have hV : txtV l bad most = if txtOk l bad most = true then takeV (numL l bad 2) false (numV l bad 2) else [] := rfl
  have hL : txtL l bad most = if txtOk l bad most = true then takeL (numL l bad 2) false (numV l bad 2) else [] := rfl
  have hBd : txtB l bad most = if txtOk l bad most = true then !takeOk (numL l bad 2) false (numV l bad 2) else true := rfl
  have hok : txtOk l bad most = decide (numOk l bad 2 = true ∧ numV l bad 2 ≤ most ∧ numV l bad 2 ≤ 1024) := rfl
  generalize numV l bad 2 = v at *
  generalize numL l bad 2 = l1 at *
  generalize numOk l bad 2 = o at *
  generalize txtV l bad most = V at *
  generalize txtL l bad most = L at *
  generalize txtB l bad most = b at *
  generalize txtOk l bad most = ok at *
  have hw : IntKind.i64.wrap v = v := by rw [IntKind.wrap_i64]; omega
  have hno : ok = false → (o = false ∨ most < v ∨ 1024 < v) := fun e => by
    rw [e] at hok
    have := of_decide_eq_false hok.symm
    cases o
    · exact .inl rfl
    · rcases Int.lt_or_le most v with h | h
      · exact .inr (.inl h)
      · rcases Int.lt_or_le 1024 v with h2 | h2
        · exact .inr (.inr h2)
        · exact absurd ⟨rfl, h, h2⟩ this
  cases ok with
  | true =>
    obtain ⟨rfl, h1, h2⟩ := of_decide_eq_true hok.symm
    simp only [if_true] at hV hL hBd
    have HV := Lib.hid hV
    have HL := Lib.hid hL
    have HBd := Lib.hid hBd
    clear hV hL hBd h hok hno
    go_enter Try.func36, Try.ntmps36
    go_wp2_with fail
    refine HN.out.mono ?_
    rintro e w1 ⟨rfl, hr1, hg1⟩
    have hb1 : w1.cell? ⟨g, 2, none⟩ = some (.bool false) := rR_bad hr1
    have HX := Lib.hid (rR_take G g B l1 _ v _ hr1 hG hsm)
    have HG := Lib.hid hg1
    clear hr1 hg1
    go_wp2_with (go_at_call 35; refine HX.out.mono ?_; rintro e w2 ⟨x, rfl, ho2, hr2, hg2⟩; have hs := str_own ho2; have HR2 := Lib.hid hr2; have HG2 := Lib.hid hg2; clear ho2 hr2 hg2)
    go_ret
    exact ⟨ret_val (by rw [HV.out]; rfl), by rw [HL.out, HBd.out]; exact HR2.out, World.grownBy.trans HG.out HG2.out⟩
  | false =>
    obtain rfl : V = [] := by simpa using hV
    obtain rfl : L = [] := by simpa using hL
    obtain rfl : b = true := by simpa using hBd
    have hno := hno rfl
    clear hV hL hBd h hok
    cases o with
    | false =>
      clear hno
      go_enter Try.func36, Try.ntmps36
      go_wp2_with fail
      refine HN.out.mono ?_
      rintro e w1 ⟨rfl, hr1, hg1⟩
      have hb1 : w1.cell? ⟨g, 2, none⟩ = some (.bool true) := rR_bad hr1
      have HX := Lib.hid (rR_fail G g B _ _ w1 hr1 hG)
      have HG := Lib.hid hg1
      clear hr1 hg1
      go_wp2_with (go_at_call 47; refine HX.out.mono ?_; rintro e w2 ⟨⟨r, rfl⟩, hr2, hg2⟩)
      go_ret
      exact ⟨ret_val (by rfl), hr2, World.grownBy.trans HG.out hg2⟩
    | true =>
      by_cases h1 : most < v
      · clear hno
        go_enter Try.func36, Try.ntmps36
        go_wp2_with fail
        refine HN.out.mono ?_
        rintro e w1 ⟨rfl, hr1, hg1⟩
        have hb1 : w1.cell? ⟨g, 2, none⟩ = some (.bool false) := rR_bad hr1
        have HX := Lib.hid (rR_fail G g B _ _ w1 hr1 hG)
        have HG := Lib.hid hg1
        clear hr1 hg1
        go_wp2_with (go_at_call 47; refine HX.out.mono ?_; rintro e w2 ⟨⟨r, rfl⟩, hr2, hg2⟩)
        go_ret
        exact ⟨ret_val (by rfl), hr2, World.grownBy.trans HG.out hg2⟩
      · have h2 : 1024 < v := by rcases hno with h | h | h <;> first | cases h | omega
        clear hno
        go_enter Try.func36, Try.ntmps36
        go_wp2_with fail
        refine HN.out.mono ?_
        rintro e w1 ⟨rfl, hr1, hg1⟩
        have hb1 : w1.cell? ⟨g, 2, none⟩ = some (.bool false) := rR_bad hr1
        have HX := Lib.hid (rR_fail G g B _ _ w1 hr1 hG)
        have HG := Lib.hid hg1
        clear hr1 hg1
        go_wp2_with (go_at_call 47; refine HX.out.mono ?_; rintro e w2 ⟨⟨r, rfl⟩, hr2, hg2⟩)
        go_ret
        exact ⟨ret_val (by rfl), hr2, World.grownBy.trans HG.out hg2⟩
end Go.Proofs.Ytnkbbmfhdabbkaa.X
