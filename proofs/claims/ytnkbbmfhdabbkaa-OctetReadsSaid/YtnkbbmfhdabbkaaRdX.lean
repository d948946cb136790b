/-
  A reader of bytes: what it shows and what each call makes of it.
-/
import Derived.Test.YtnkbbmfhdabbkaaGet
import Derived.Test.YtnkbbmfhdabbkaaTxt
namespace Go.Proofs.Ytnkbbmfhdabbkaa.X
open Go.RowKit Go.Proofs.YtnkbbmfhdabbkaaW.PrintWords
set_option linter.unusedVariables false
variable {X : Nat}
set_option linter.unusedSimpArgs false

theorem set_other2 {w : World} {a b : Addr} {u v : Value} (h : w.cell? b = some v) (hne : a ≠ b) : (w.setCell a u).cell? b = some v := (World.cell?_setCell_other _ _ _ _ hne).trans h
theorem set_same2 {w : World} {a : Addr} {u v : Value} (h : w.cell? a = some v) : (w.setCell a u).cell? a = some u := World.cell?_setCell_same _ _ _ h
/-- A store over a value that is no number leaves rows of numbers as they read. -/
theorem reads_set {w : World} {k : IntKind} {A : Option Addr} {n : Nat} {xs : List Int} {p : Addr} {v : Value} (h : ReadsInt w k A n xs) (hp : w.cell? p = some v) (hv : ∀ x, v ≠ .int k x) (u : Value) :
    ReadsInt (w.setCell p u) k A n xs :=
  ⟨h.1, h.2.1, fun hn => by
    obtain ⟨ad, e, hc⟩ := h.2.2 hn
    refine ⟨ad, e, fun j hj => set_other2 (hc j hj) fun e => ?_⟩
    have := hc j hj
    rw [← e, hp] at this
    exact hv _ (Option.some.inj this)⟩

theorem grown_set (w : World) (g j : Nat) (u : Value) : w.grownBy (w.setCell ⟨g, j, none⟩ u) (some g) :=
  ⟨rfl, rfl, rfl, by simp [World.setCell], fun i _ hne => Below.heap_setCell _ _ _ _ (fun e => hne (by rw [e]))⟩
/-- The reader at block g: what is left, and whether it is bad. -/
def Rdr (X : Nat) (W : World) (g : Nat) (l : List Int) (bad : Bool) : Prop :=
  ∃ A c, W.cell? ⟨g, 0, none⟩ = some (.slice A l.length c) ∧ W.cell? ⟨g, 1, none⟩ = some (.bool true) ∧ W.cell? ⟨g, 2, none⟩ = some (.bool bad) ∧
    W.frozen? ⟨g, 0, none⟩ = false ∧ W.frozen? ⟨g, 2, none⟩ = false ∧ ReadsInt W .u8 A l.length l ∧ l.length ≤ c ∧ ∀ ad, A = some ad → 0 < l.length → ad.block ≠ X

theorem rnone_nil (w : World) : Calls Try.prog 43 #[.pointer none] w fun e w' => e = .returned (.bool true) ∧ w = w' := by
  go_enter Try.func43, Try.ntmps43
  go_wp2
  go_ret
  exact ⟨rfl, rfl⟩
theorem rnone_ptr (g : Nat) (m : Bool) (w : World) (hc : w.cell? ⟨g, 1, none⟩ = some (.bool m)) :
    Calls Try.prog 43 #[.pointer (some ⟨g, 0, none⟩)] w fun e w' => e = .returned (.bool !m) ∧ w = w' := by
  go_enter Try.func43, Try.ntmps43
  go_wp2
  go_ret
  exact ⟨rfl, rfl⟩
/-- What a call that fails leaves. -/
theorem rfail (g : Nat) (l : List Int) (bad : Bool) (w : World) (h : Rdr X w g l bad) :
    Calls Try.prog 44 #[.pointer (some ⟨g, 0, none⟩)] w fun e w' => (∃ r, e = .returned r) ∧ Rdr X w' g [] true ∧ w.grownBy w' (some g) := by
  obtain ⟨A, c, h0, h1, h2, f0, f2, hr, hc, hx⟩ := h
  have n1 : (⟨g, 0, none⟩ : Addr) ≠ ⟨g, 1, none⟩ := by simp
  have n2 : (⟨g, 0, none⟩ : Addr) ≠ ⟨g, 2, none⟩ := by simp
  have n3 : (⟨g, 2, none⟩ : Addr) ≠ ⟨g, 1, none⟩ := by simp
  have n4 : (⟨g, 2, none⟩ : Addr) ≠ ⟨g, 0, none⟩ := by simp
  have HR := Lib.hid hr
  clear hr
  go_enter Try.func44, Try.ntmps44
  go_wp2
  go_end0
  refine ⟨⟨_, rfl⟩, ⟨none, 0, set_other2 (set_same2 h0) n4, set_other2 (set_other2 h1 n1) n3, set_same2 (set_other2 h2 n2), by simp [f0], by simp [f2], ReadsInt.nil _ _, by simp, by simp⟩, ?_⟩
  exact World.grownBy.trans (grown_set _ _ _ _) (grown_set _ _ _ _)

theorem rdr_grown {w w' : World} {g : Nat} {l : List Int} {bad : Bool} (h : Rdr X w g l bad) (hb : Below w.heap.size w w') : Rdr X w' g l bad := by
  obtain ⟨A, c, h0, h1, h2, f0, f2, hr, hc, hx⟩ := h
  have hg : g < w.heap.size := World.block_lt_of_cell? _ _ h0
  exact ⟨A, c, pw_cell_below hb h0, pw_cell_below hb h1, pw_cell_below hb h2, (hb.frozen (p := ⟨g, 0, none⟩) hg).trans f0, (hb.frozen (p := ⟨g, 2, none⟩) hg).trans f2, hr.below hb, hc, hx⟩
def CutYes (X : Nat) (g : Nat) (l : List Int) (n : Nat) (w : World) (e : Ending) (w' : World) : Prop :=
  ∃ A c, e = .returned (.tuple #[.slice A (l.take n).length c, .bool true]) ∧ ReadsInt w' .u8 A (l.take n).length (l.take n) ∧ (l.take n).length ≤ c ∧ Rdr X w' g (l.drop n) false ∧ w.grownBy w' (some g)
def CutNo (X : Nat) (g : Nat) (w : World) (e : Ending) (w' : World) : Prop := e = .returned (.tuple #[.slice none 0 0, .bool false]) ∧ Rdr X w' g [] true ∧ w.grownBy w' (some g)

/-- A row that reads wherever a row apart from block X does lies apart from X too. -/
theorem cell_apart (w : World) (a : Addr) (h : a.block ≠ X) : ({ w with heap := w.heap.setIfInBounds X (.cells #[] 0 (0, 0)) } : World).cell? a = w.cell? a := by
  simp [World.cell?, Array.getElem?_setIfInBounds, Ne.symm h]
theorem cell_in (w : World) (a : Addr) (h : a.block = X) : ({ w with heap := w.heap.setIfInBounds X (.cells #[] 0 (0, 0)) } : World).cell? a = none := by
  simp only [World.cell?, h]
  by_cases hX : X < w.heap.size <;> simp [hX]
theorem add_block (a : Addr) (j : Nat) : (a.add j).block = a.block := by unfold Addr.add; split <;> rfl
theorem row_apart {w : World} {A A' : Option Addr} {l m : List Int} (hr : ReadsInt w .u8 A l.length l) (hx : ∀ ad, A = some ad → 0 < l.length → ad.block ≠ X)
    (h : ∀ w, ReadsOf (Value.int .u8) (0 : Int) w A l.length l → ReadsOf (Value.int .u8) (0 : Int) w A' m.length m) : ∀ ad, A' = some ad → 0 < m.length → ad.block ≠ X := by
  rintro ad rfl hm e
  have hr' : ReadsInt { w with heap := w.heap.setIfInBounds X (.cells #[] 0 (0, 0)) } .u8 A l.length l := by
    refine ⟨hr.1, hr.2.1, fun hn => ?_⟩
    obtain ⟨ad, rfl, hc⟩ := hr.2.2 hn
    have := hx ad rfl hn
    exact ⟨ad, rfl, fun j hj => (cell_apart w _ (by rw [add_block]; exact this)).trans (hc j hj)⟩
  have h2 := readsInt_of.2 (h _ (readsInt_of.1 hr'))
  obtain ⟨ad', e', hc⟩ := h2.2.2 hm
  obtain rfl := Option.some.inj e'
  have := hc 0 hm
  rw [cell_in w _ (by rw [add_block]; exact e)] at this
  cases this
theorem rcut_good (g : Nat) (l : List Int) (n : Nat) (w : World) (h : Rdr X w g l false) (hn : n ≤ l.length) :
    Calls Try.prog 45 #[.pointer (some ⟨g, 0, none⟩), .int .i64 (n : Int)] w (CutYes X g l n w) := by
  obtain ⟨A, c, h0, h1, h2, f0, f2, hr, hc, hx⟩ := h
  have n1 : (⟨g, 0, none⟩ : Addr) ≠ ⟨g, 1, none⟩ := by simp
  have n2 : (⟨g, 0, none⟩ : Addr) ≠ ⟨g, 2, none⟩ := by simp
  have hmax := hr.2.1
  obtain ⟨i0, hi, hz0, hz1, hz2⟩ := info_parts info5
  obtain ⟨r1, q1, c1⟩ := print_take_of (P := Try.prog) (Value.int .u8) (0 : Int) 22 5 .i64 Try.underlying22 hi hz1 A c l (n : Int) (by omega) (by omega) hc
  obtain ⟨A', r2, q2, c2⟩ := print_drop_of (P := Try.prog) (Value.int .u8) (0 : Int) 22 5 .i64 Try.underlying22 hi hz1 A c l (n : Int) (by omega) (by omega) hc
  have h00 := h0
  have HF : Hid (∀ e w', (∃ A c, e = .returned (.tuple #[.slice A (l.take n).length c, .bool true]) ∧ ReadsInt w' .u8 A (l.take n).length (l.take n) ∧ (l.take n).length ≤ c ∧ Rdr X w' g (l.drop n) false ∧ w.grownBy w' (some g)) → CutYes X g l n w e w') :=
    fun e w' h => h
  rw [Int.toNat_natCast] at r1 q1 c1 r2 q2 c2
  have HR := Lib.hid hr
  have HQ1 := Lib.hid (q1 w hr)
  have HQ2 := Lib.hid (q2 w hr)
  have HC2 := Lib.hid c2
  have HX2 := Lib.hid (row_apart (X := X) hr hx q2)
  have H00 := Lib.hid h00
  generalize hxx : (l.take n).length = x at *
  generalize hy : (l.drop n).length = y at *
  have HX := Lib.hid hxx
  have HY := Lib.hid hy
  clear hr q1 q2 hz0 hz1 hz2 hi h00 hxx hy c2 hx
  go_enter Try.func45, Try.ntmps45
  go_wp2
  go_ret2
  have hv : ∀ z, Value.slice A l.length c ≠ .int .u8 z := fun z => by simp
  refine HF.out _ _ ⟨A, c, rfl, reads_set (readsInt_of.2 HQ1.out) H00.out hv _, c1, ⟨A', c - n, ?_, set_other2 h1 n1, set_other2 h2 n2, by simp [f0], by simp [f2], ?_, ?_, ?_⟩, grown_set _ _ _ _⟩
  · rw [HY.out]; exact set_same2 H00.out
  · rw [HY.out]; exact reads_set (readsInt_of.2 HQ2.out) H00.out hv _
  · rw [HY.out]; exact HC2.out
  · rw [HY.out]; exact HX2.out

theorem rcut_bad (g : Nat) (l : List Int) (bad : Bool) (n : Int) (w : World) (h : Rdr X w g l bad) (hn : ¬ (bad = false ∧ 0 ≤ n ∧ n ≤ l.length)) :
    Calls Try.prog 45 #[.pointer (some ⟨g, 0, none⟩), .int .i64 n] w (CutNo X g w) := by
  have hl : l.length ≤ 9223372036854775807 := by obtain ⟨A, c, h0, h1, h2, f0, f2, hr, hc, hx⟩ := h; exact hr.2.1
  have HH := Lib.hid h
  obtain ⟨A, c, h0, h1, h2, f0, f2, hr, hc, hx⟩ := h
  have hfx := Lib.hid (rfail g l bad w HH.out)
  clear hr hc f0 f2 h1 hx
  cases bad with
  | true =>
    clear hn
    go_enter Try.func45, Try.ntmps45
    go_wp2_with (go_at_call 44; refine hfx.out.mono ?_; rintro e w1 ⟨⟨r, rfl⟩, hr1, hg1⟩)
    go_ret2
    exact ⟨rfl, hr1, hg1⟩
  | false =>
    by_cases h3 : n < 0
    · clear hn
      go_enter Try.func45, Try.ntmps45
      go_wp2_with (go_at_call 44; refine hfx.out.mono ?_; rintro e w1 ⟨⟨r, rfl⟩, hr1, hg1⟩)
      go_ret2
      exact ⟨rfl, hr1, hg1⟩
    · have h4 : (l.length : Int) < n := by
        rcases Int.lt_or_le (l.length : Int) n with h | h
        · exact h
        · exact absurd ⟨rfl, by omega, h⟩ hn
      clear hn
      go_enter Try.func45, Try.ntmps45
      go_wp2_with (go_at_call 44; refine hfx.out.mono ?_; rintro e w1 ⟨⟨r, rfl⟩, hr1, hg1⟩)
      go_ret2
      exact ⟨rfl, hr1, hg1⟩
/-- What 'Num' tells, and what it leaves. -/
def numOk (l : List Int) (bad : Bool) (wd : Int) : Bool := decide (bad = false ∧ 1 ≤ wd ∧ wd ≤ 8 ∧ wd ≤ l.length)
def numV (l : List Int) (bad : Bool) (wd : Int) : Int := if numOk l bad wd = true then num (l.take wd.toNat) else 0
def numL (l : List Int) (bad : Bool) (wd : Int) : List Int := if numOk l bad wd = true then l.drop wd.toNat else []
def NumRes (X : Nat) (g : Nat) (l : List Int) (bad : Bool) (wd : Int) (w : World) (e : Ending) (w' : World) : Prop :=
  e = .returned (.int .u64 (numV l bad wd)) ∧ Rdr X w' g (numL l bad wd) (!numOk l bad wd) ∧ w.grownBy w' (some g)
def NumYes (X : Nat) (g : Nat) (l : List Int) (m : Nat) (w : World) (e : Ending) (w' : World) : Prop :=
  e = .returned (.int .u64 (num (l.take m))) ∧ Rdr X w' g (l.drop m) false ∧ w.grownBy w' (some g)
def NumNo (X : Nat) (g : Nat) (w : World) (e : Ending) (w' : World) : Prop :=
  e = .returned (.int .u64 0) ∧ Rdr X w' g [] true ∧ w.grownBy w' (some g)

theorem rnum_yes (g : Nat) (l : List Int) (m : Nat) (w : World) (h : Rdr X w g l false) (hB : Bytes l) (h1 : 1 ≤ m) (h8 : m ≤ 8) (hl : m ≤ l.length) :
    Calls Try.prog 28 #[.pointer (some ⟨g, 0, none⟩), .int .i64 (m : Int)] w (NumYes X g l m w) := by
  have hp : w.cell? ⟨g, 1, none⟩ = some (.bool true) := by obtain ⟨A, c, h0, h1, h2, f0, f2, hr, hc, hx⟩ := h; exact h1
  have hd : decide (1 ≤ (m : Int) ∧ (m : Int) ≤ 8) = true := decide_eq_true (by omega)
  have hX := rcut_good g l m w h hl
  unfold CutYes at hX
  have hbb := bytes_take hB m
  have hL : (l.take m).length = m := by simp; omega
  generalize hy : l.take m = y at hX hbb hL
  have HY := Lib.hid hy
  have HX := Lib.hid hX
  have HBB := Lib.hid hbb
  have HL := Lib.hid hL
  clear h hX hbb hL hy
  go_enter Try.func28, Try.ntmps28
  go_wp2_with (first
    | (go_at_call 43; refine (rnone_ptr _ _ _ hp).mono ?_; rintro e w1 ⟨rfl, rfl⟩)
    | (go_at_call 39; refine (may_any _ _).mono ?_; rintro e w1 ⟨rfl, rfl⟩))
  refine HX.out.mono ?_
  rintro e w1 ⟨A, c, rfl, hr, hc, hrd, hgr⟩
  have HR := Lib.hid hr
  have HRD := Lib.hid hrd
  have HGR := Lib.hid hgr
  have HC := Lib.hid hc
  clear hr hrd hgr hc
  go_wp2_with fail
  refine (get_any A c y 0 m _ HR.out HC.out HBB.out).mono ?_
  rintro e w2 ⟨rfl, rfl⟩
  have hok : okG y.length 0 m = true := by rw [HL.out]; exact decide_eq_true (by omega)
  have hgv : getV y 0 m = num (l.take m) := by
    unfold getV
    rw [hok, if_pos rfl, HY.out]
    simp [List.take_of_length_le (show y.length ≤ m by rw [HL.out]; exact Nat.le_refl _)]
  have HGV := Lib.hid hgv
  clear hgv hok
  go_wp2
  go_ret
  exact ⟨ret_int HGV.out, HRD.out, HGR.out⟩
theorem rnum_no (g : Nat) (l : List Int) (bad : Bool) (wd : Int) (w : World) (h : Rdr X w g l bad) (hok : numOk l bad wd = false) :
    Calls Try.prog 28 #[.pointer (some ⟨g, 0, none⟩), .int .i64 wd] w (NumNo X g w) := by
  have hp : w.cell? ⟨g, 1, none⟩ = some (.bool true) := by obtain ⟨A, c, h0, h1, h2, f0, f2, hr, hc, hx⟩ := h; exact h1
  have hno := of_decide_eq_false hok
  by_cases hw : 1 ≤ wd ∧ wd ≤ 8
  · have hd : decide (1 ≤ wd ∧ wd ≤ 8) = true := decide_eq_true hw
    have HX := Lib.hid (rcut_bad g l bad wd w h (fun k => hno ⟨k.1, by omega, by omega, k.2.2⟩))
    clear h hok hno hw
    go_enter Try.func28, Try.ntmps28
    go_wp2_with (first
      | (go_at_call 43; refine (rnone_ptr _ _ _ hp).mono ?_; rintro e w1 ⟨rfl, rfl⟩)
      | (go_at_call 39; refine (may_any _ _).mono ?_; rintro e w1 ⟨rfl, rfl⟩))
    refine HX.out.mono ?_
    rintro e w1 ⟨rfl, hrd, hgr⟩
    have HRD := Lib.hid hrd
    have HGR := Lib.hid hgr
    clear hrd hgr
    go_wp2
    go_ret
    exact ⟨rfl, HRD.out, HGR.out⟩
  · have hd : decide (1 ≤ wd ∧ wd ≤ 8) = false := decide_eq_false hw
    have HX := Lib.hid (rfail g l bad w h)
    clear h hok hno hw
    go_enter Try.func28, Try.ntmps28
    go_wp2_with (first
      | (go_at_call 43; refine (rnone_ptr _ _ _ hp).mono ?_; rintro e w1 ⟨rfl, rfl⟩)
      | (go_at_call 39; refine (may_any _ _).mono ?_; rintro e w1 ⟨rfl, rfl⟩))
    refine HX.out.mono ?_
    rintro e w1 ⟨⟨r, rfl⟩, hrd, hgr⟩
    have HRD := Lib.hid hrd
    have HGR := Lib.hid hgr
    clear hrd hgr
    go_wp2
    go_ret
    exact ⟨rfl, HRD.out, HGR.out⟩
theorem rnum_any (g : Nat) (l : List Int) (bad : Bool) (wd : Int) (w : World) (h : Rdr X w g l bad) (hB : Bytes l) :
    Calls Try.prog 28 #[.pointer (some ⟨g, 0, none⟩), .int .i64 wd] w (NumRes X g l bad wd w) := by
  cases hok : numOk l bad wd with
  | true =>
    obtain ⟨rfl, h1, h8, hl⟩ := of_decide_eq_true hok
    obtain ⟨m, rfl⟩ := Int.eq_ofNat_of_zero_le (show 0 ≤ wd by omega)
    refine (rnum_yes g l m w h hB (by omega) (by omega) (by omega)).mono fun e w' ⟨h1, h2, h3⟩ => ?_
    unfold NumRes numV numL
    rw [hok]
    simp only [if_true, Int.toNat_natCast]
    exact ⟨h1, h2, h3⟩
  | false =>
    refine (rnum_no g l bad wd w h hok).mono fun e w' ⟨h1, h2, h3⟩ => ?_
    unfold NumRes numV numL
    rw [hok]
    exact ⟨h1, h2, h3⟩
end Go.Proofs.Ytnkbbmfhdabbkaa.X
