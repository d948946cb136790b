/-
  span: how many bits two ids have in common (Prefix); Index; Has.
-/
import Derived.Test.YtcgfednoolkhkaaSpM
import Derived.Test.YtcgfednoolkhkaaSh
namespace Go.Proofs.Ytcgfednoolkhkaa
open Go.RowKit
set_option linter.unusedVariables false
set_option linter.unusedSimpArgs false
theorem lz8_int (x : Nat) (h : x < 256) : (8 - (Lib.bitLen x : Int)) = (lz8 x : Nat) := by
  have : ∀ x, x < 256 → (8 - (Lib.bitLen x : Int)) = (lz8 x : Nat) := by decide +kernel
  exact this x h
theorem rlz8 (x : Nat) (w : World) (h : x < 256) : Calls Try.prog 57 #[.int .u8 (x : Int)] w fun e w' => e = .returned (.int .i64 (lz8 x : Nat)) ∧ w = w' :=
  (Try.bits_LeadingZeros8 (x : Int) w (by omega) (by omega)).mono fun e w' ⟨he, hw⟩ => ⟨by rw [he]; rw [Int.toNat_natCast, lz8_int x h], hw.symm⟩
theorem idc_get (l : List Nat) (k : Nat) (hk : k < l.length) : (idc l).toArray[k]? = some (.int .u8 (l.getD k 0 : Nat)) := by
  simp [idc, List.getD, hk]
theorem index_id (l : List Nat) (k : Nat) (W : World) (hl : l.length = 20) (hk : k < 20) : (Instr.index 41 (.agg (idc l).toArray) (.int .i64 (k : Int))).run Try.prog W = .ok (.int .u8 (l.getD k 0 : Nat)) W := by
  obtain ⟨i, hi⟩ := isInfo5
  have p1 : (Go.part 5 (idc l).toArray (k * Try.prog.cellsOf 5)).run Try.prog W = .ok (.int .u8 (l.getD k 0 : Nat)) W := run_part_plain W plain5 (by simp [cells5, idc, hl, hk])
  have hs : (sizeOf 5).run Try.prog W = .ok (Try.prog.cellsOf 5) W := by simp [sizeOf, typeInfo, hi, Program.cellsOf, go_sem]
  have hc : (idc l)[k * Try.prog.cellsOf 5]? = some (.int .u8 (l.getD k 0 : Nat)) := by
    rw [show Try.prog.cellsOf 5 = 1 from cells5, Nat.mul_one]; simp [idc, List.getD, hl, hk]
  simp [Instr.index, run_underlying Try.underlying41, asIntOf, hk, go_sem, hs, hc]
theorem rprefix (a b : List Nat) (w : World) (ha : Id a) (hb : Id b) :
    Calls Try.prog 49 #[idv a, idv b] w fun e w' => e = .returned (.int .i64 (pref (xorL a b) : Nat)) ∧ Below w.heap.size w w' := by
  have hA1 := idAt_new w a
  have hA2 : IdAt ((w.alloc (.cells (idc a).toArray 41)).alloc (.cells (idc b).toArray 41)) w.heap.size a := idAt_below hA1 ((Below.refl _ _).alloc (Nat.le_refl _) _)
  have hB2 : IdAt ((w.alloc (.cells (idc a).toArray 41)).alloc (.cells (idc b).toArray 41)) (w.heap.size + 1) b := by simpa using idAt_new (w.alloc (.cells (idc a).toArray 41)) b
  have hb2 : Below w.heap.size w ((w.alloc (.cells (idc a).toArray 41)).alloc (.cells (idc b).toArray 41)) := ((Below.refl _ w).alloc (Nat.le_refl _) _).alloc (by simp) _
  have XA := Lib.hid hA2
  have XB := Lib.hid hB2
  have XW := Lib.hid hb2
  have HC := Lib.hid (rxor a b ((w.alloc (.cells (idc a).toArray 41)).alloc (.cells (idc b).toArray 41)) ha hb)
  have HX := Lib.hid (id_xor ha hb)
  have ha20 := ha.1
  have hb20 := hb.1
  generalize xorL a b = far at *
  clear hA1 hA2 hB2 hb2 ha hb
  unfold idv at *
  generalize hCa : (idc a).toArray = Ca at *
  generalize hCb : (idc b).toArray = Cb at *
  generalize hCf : (idc far).toArray = Cf at *
  go_enter Try.func49, Try.ntmps49
  go_upto_region 1 with fail
  obtain ⟨W2, hW2⟩ : ∃ W2, W2 = (w.alloc (.cells Ca 41)).alloc (.cells Cb 41) := ⟨_, rfl⟩
  rw [← hW2] at XA XB XW HC ⊢
  clear hW2
  go_wp2_with (first
    | (refine wpList_load_id rfl (.tmp 2) rfl w.heap.size rfl a XA.out ha20 ?_)
    | (refine wpList_load_id rfl (.tmp 3) rfl (w.heap.size + 1) rfl b XB.out hb20 ?_)
    | (go_at_call 42; unfold idv; rw [hCa, hCb]; refine HC.out.mono ?_; rintro e w1 ⟨rfl, hb1⟩))
  have HW1 := Lib.hid (XW.out.trans (hb1.mono XW.out.size))
  have hfl := HX.out.1
  clear hb1 XA XB XW HC hCa hCb
  go_loop [5, 6, 10] (fun _ _ x => ∃ k : Nat, k ≤ 20 ∧ x = .int .i64 k ∧ ∀ q, q < k → far.getD q 0 = 0) (fun _ _ x => 20 - (intOf x).toNat)
  case atStart => exact ⟨0, by omega, rfl, fun q hq => absurd hq (by omega)⟩
  case round =>
    obtain ⟨k, hk, rfl, hz⟩ := hrel
    have HZ := Lib.hid hz
    clear hz
    by_cases hlt : k < 20
    · have hx := id_lt HX.out k
      have hidx := index_id far k w1 hfl hlt
      rw [hCf] at hidx
      generalize hv : far.getD k 0 = x at *
      have HV := Lib.hid hv
      clear hv
      by_cases hx0 : x = 0
      · have HX0 := Lib.hid hx0
        subst hx0
        go_wp2
        go_round
        case rel => exact ⟨k + 1, by omega, by go_num, fun q hq => by
          rcases Nat.lt_or_ge q k with h | h
          · exact HZ.out q h
          · rw [show q = k by omega]; exact HV.out⟩
        case measure => simp [intOf]; omega
      · have HP := Lib.hid (pref_byte far k x hlt hx hx0 HV.out HZ.out)
        have HL := Lib.hid (fun W => rlz8 x W hx)
        have hne : (!((x : Int) == 0)) = true := by simpa using hx0
        have hne2 : ((x : Int) != 0) = true := by simpa using hx0
        have hl8 := (lz8_spec x hx hx0).1
        generalize lz8 x = z at *
        clear hx0
        go_wp2_with (go_at_call 57; refine (HL.out _).mono ?_; rintro e w2 ⟨rfl, rfl⟩)
        go_ret
        exact ⟨ret_int (by rw [HP.out]; omega), HW1.out⟩
    · obtain rfl : k = 20 := by omega
      have HP := Lib.hid (pref_none far (fun q hq => HZ.out q hq))
      go_wp2
      go_ret
      exact ⟨ret_int (by rw [HP.out]; rfl), HW1.out⟩
theorem id2_new (w : World) (a b : List Nat) : IdAt ((w.alloc (.cells (idc a).toArray 41)).alloc (.cells (idc b).toArray 41)) w.heap.size a ∧ IdAt ((w.alloc (.cells (idc a).toArray 41)).alloc (.cells (idc b).toArray 41)) (w.heap.size + 1) b ∧ Below w.heap.size w ((w.alloc (.cells (idc a).toArray 41)).alloc (.cells (idc b).toArray 41)) :=
  ⟨idAt_below (idAt_new w a) ((Below.refl _ _).alloc (Nat.le_refl _) _), by simpa using idAt_new (w.alloc (.cells (idc a).toArray 41)) b, ((Below.refl _ w).alloc (Nat.le_refl _) _).alloc (by simp) _⟩
def idxN (a b : List Nat) : Nat := if a = b then 0 else pref (xorL a b)
def idxB (a b : List Nat) : Bool := !decide (a = b)
theorem rindex (a b : List Nat) (w : World) (ha : Id a) (hb : Id b) :
    Calls Try.prog 32 #[idv a, idv b] w fun e w' => e = .returned (.tuple #[.int .i64 (idxN a b : Nat), .bool (idxB a b)]) ∧ Below w.heap.size w w' := by
  obtain ⟨hA2, hB2, hb2⟩ := id2_new w a b
  have XA := Lib.hid hA2
  have XB := Lib.hid hB2
  have XW := Lib.hid hb2
  have HC := Lib.hid (rprefix a b ((w.alloc (.cells (idc a).toArray 41)).alloc (.cells (idc b).toArray 41)) ha hb)
  have ha20 := ha.1
  have hb20 := hb.1
  clear hA2 hB2 hb2 ha hb
  by_cases hab : a = b
  · have HAB := Lib.hid hab
    have HN : Hid (idxN a b = 0) := if_pos hab
    have HB : Hid (idxB a b = false) := by show (!decide (a = b)) = false; rw [decide_eq_true hab]; rfl
    clear hab HC
    unfold idv at *
    generalize hCa : (idc a).toArray = Ca at *
    generalize hCb : (idc b).toArray = Cb at *
    go_enter Try.func32, Try.ntmps32
    go_upto_region 1 with fail
    obtain ⟨W2, hW2⟩ : ∃ W2, W2 = (w.alloc (.cells Ca 41)).alloc (.cells Cb 41) := ⟨_, rfl⟩
    rw [← hW2] at XA XB XW ⊢
    clear hW2
    go_wp2_with (first
      | (refine wl_load rfl (.tmp 2) rfl w.heap.size rfl a XA.out ha20 ?_)
      | (refine wl_load rfl (.tmp 3) rfl (w.heap.size + 1) rfl b XB.out hb20 ?_)
      | (refine wl_same rfl (.tmp 6) (.tmp 7) rfl a b rfl rfl ha20 HAB.out ?_))
    go_ret2
    exact ⟨ret_val (by rw [HN.out, HB.out]; rfl), XW.out⟩
  · have HAB := Lib.hid hab
    have HN : Hid (idxN a b = pref (xorL a b)) := if_neg hab
    have HB : Hid (idxB a b = true) := by show (!decide (a = b)) = true; rw [decide_eq_false hab]; rfl
    have hdf : decide (a = b) = false := decide_eq_false hab
    have HD := Lib.hid hdf
    clear hab hdf
    generalize pref (xorL a b) = n at *
    unfold idv at *
    generalize hCa : (idc a).toArray = Ca at *
    generalize hCb : (idc b).toArray = Cb at *
    go_enter Try.func32, Try.ntmps32
    go_upto_region 1 with fail
    obtain ⟨W2, hW2⟩ : ∃ W2, W2 = (w.alloc (.cells Ca 41)).alloc (.cells Cb 41) := ⟨_, rfl⟩
    rw [← hW2] at XA XB XW HC ⊢
    clear hW2
    go_wp2_with (first
      | (refine wl_load rfl (.tmp 2) rfl w.heap.size rfl a XA.out ha20 ?_)
      | (refine wl_load rfl (.tmp 3) rfl (w.heap.size + 1) rfl b XB.out hb20 ?_)
      | (refine wl_eq rfl (.tmp 6) (.tmp 7) rfl a b rfl rfl ha20 hb20 ?_; rw [HD.out])
      | (go_at_call 49; unfold idv; rw [hCa, hCb]; refine HC.out.mono ?_; rintro e w1 ⟨rfl, hb1⟩))
    go_ret2
    exact ⟨ret_val (by rw [HN.out, HB.out]; rfl), XW.out.trans (hb1.mono XW.out.size)⟩
end Go.Proofs.Ytcgfednoolkhkaa
