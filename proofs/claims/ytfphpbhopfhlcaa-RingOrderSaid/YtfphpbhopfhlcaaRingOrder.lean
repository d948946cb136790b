/-
  signpost's RingOrder: for every input the law returns true. No condition.
-/
import Derived.Test.YtfphpbhopfhlcaaRows
import Derived.WalkKit
import Derived.ProofKit
import Derived.OpenShut
import Derived.ShutString
import Derived.ChangeOld
import Derived.Below
import Derived.Test.YtfphpbhopfhlcaaRingO
namespace Go.Proofs.Ytfphpbhopfhlcaa.ringOrder
open Go.ChangeShapes Go.WideShapes Go.ChangeAt Go.RowKit
open Go.ChangeMaps (open_string shut_string)
set_option linter.unusedSimpArgs false
set_option linter.unusedVariables false

theorem own : ownKnob Try.prog.godebug = none := by kernel_rfl
theorem laidOut : laidOutB Try.prog = true := by kernel_rfl

theorem walk (a0 : Int) (A : Option Addr) (n cap : Nat) (B : Nat → Bool) (W : World) (HB : ReadsB W A n B) :
    Calls Try.prog 3 #[.int .i64 a0, .slice A n cap] W fun e w' => e = .returned (.bool true) ∧ Below W.heap.size W w' := by
  have H := Lib.hid (ring_lives W)
  have HBB := Lib.hid HB
  clear HB
  by_cases c1 : a0 < 1
  · go_enter Try.func3, Try.ntmps3
    go_wp2_with (go_at_call 7; refine H.out.mono ?_; rintro e w1 ⟨rfl, hg⟩)
    go_ret
    exact ⟨rfl, hg⟩
  by_cases c2 : 100 < a0
  · go_enter Try.func3, Try.ntmps3
    go_wp2_with (go_at_call 7; refine H.out.mono ?_; rintro e w1 ⟨rfl, hg⟩)
    go_ret
    exact ⟨rfl, hg⟩
  by_cases c3 : 200 < n
  · go_enter Try.func3, Try.ntmps3
    go_wp2_with (go_at_call 7; refine H.out.mono ?_; rintro e w1 ⟨rfl, hg⟩)
    go_ret
    exact ⟨rfl, hg⟩
  obtain ⟨most, rfl⟩ := Int.eq_ofNat_of_zero_le (show 0 ≤ a0 by omega)
  have HN := Lib.hid (rnew_yes (fun k => k < W.heap.size) most W (by omega) (by omega) (fun k h => h))
  go_enter Try.func3, Try.ntmps3
  go_wp2_with (go_at_call 8; refine HN.out.mono ?_; rintro e w1 ⟨rfl, hr1, hb1⟩)
  have HB1 := Lib.hid hb1
  have HR1 := Lib.hid hr1
  clear hb1 hr1
  go_loopw [6, 7, 30] (fun i o x wr => ∃ i' o' k : Nat, o' ≤ i' ∧ i' ≤ k ∧ k ≤ n ∧ i = .int .i64 i' ∧ o = .int .i64 o' ∧ x = .int .i64 k ∧ Ring (fun k => k < W.heap.size) wr W.heap.size most (seqL o' i') ∧ Below W.heap.size W wr) (fun _ _ x _ => n - (intOf x).toNat)
  case atStart => exact ⟨0, 0, 0, by omega, by omega, by omega, rfl, rfl, rfl, HR1.out, HB1.out⟩
  case round =>
    obtain ⟨i, o, k, h1, h2, h3, rfl, rfl, rfl, hrr, hbr⟩ := hrel
    have HRR := Lib.hid hrr
    have HBR := Lib.hid hbr
    clear hrr hbr
    have hsz := HBR.out.size
    by_cases hlt : k < n
    · obtain ⟨ad, rfl, hcells⟩ := HBB.out (by omega)
      have hcell : wr.cell? (ad.add k) = some (.bool (B k)) := cell_below' HBR.out (hcells k hlt)
      clear hcells
      generalize B k = t at *
      cases t with
      | true =>
        have hp := rpush_any _ _ _ _ (i : Int) wr HRR.out (fun k hk => by omega)
        rw [pushE, seq_len] at hp
        by_cases hm : i - o < most
        · rw [if_pos hm, seq_push most o i h1 hm] at hp
          have HP := Lib.hid hp
          clear hp
          go_wp2_with (go_at_call 9; refine HP.out.mono ?_; rintro e w2 ⟨rfl, hr2, hk2⟩)
          go_roundw
          case rel => exact ⟨i + 1, o, k + 1, by omega, by omega, by omega, by go_num, rfl, by go_num, hr2, HBR.out.trans (hk2.below (fun k h => h) hsz)⟩
          case measure => simp [intOf]; omega
        · rw [if_neg hm, pushL, seq_len, if_neg hm] at hp
          have HP := Lib.hid hp
          clear hp
          go_wp2_with (go_at_call 9; refine HP.out.mono ?_; rintro e w2 ⟨rfl, hr2, hk2⟩)
          go_roundw
          case rel => exact ⟨i, o, k + 1, by omega, by omega, by omega, rfl, rfl, by go_num, hr2, HBR.out.trans (hk2.below (fun k h => h) hsz)⟩
          case measure => simp [intOf]; omega
      | false =>
        have hp := rpop_any _ _ _ _ wr HRR.out
        unfold CutRes at hp
        by_cases ho : o < i
        · have e1 : atOk (seqL o i) 0 = true := decide_eq_true ⟨by omega, by rw [seq_len]; omega⟩
          have e2 : atV (seqL o i) 0 = o := by rw [atV, if_pos e1]; exact (seq_getD o i 0 (by omega)).trans (by simp)
          rw [e1, e2, seq_cut o i ho] at hp
          have HP := Lib.hid hp
          clear hp e1 e2
          have ho' : (o : Int) < (i : Int) := by omega
          go_wp2_with (go_at_call 10; refine HP.out.mono ?_; rintro e w2 ⟨rfl, hr2, hk2⟩)
          go_roundw
          case rel => exact ⟨i, o + 1, k + 1, by omega, by omega, by omega, rfl, by go_num, by go_num, hr2, HBR.out.trans (hk2.below (fun k h => h) hsz)⟩
          case measure => simp [intOf]; omega
        · have e1 : atOk (seqL o i) 0 = false := decide_eq_false (by rw [seq_len]; omega)
          have e2 : atV (seqL o i) 0 = 0 := by rw [atV, e1]; rfl
          rw [cutL, e1, e2] at hp
          simp only [Bool.false_eq_true, if_false] at hp
          have HP := Lib.hid hp
          clear hp e1 e2
          have ho' : ¬ ((o : Int) < (i : Int)) := by omega
          go_wp2_with (go_at_call 10; refine HP.out.mono ?_; rintro e w2 ⟨rfl, hr2, hk2⟩)
          go_roundw
          case rel => exact ⟨i, o, k + 1, by omega, by omega, by omega, rfl, rfl, by go_num, hr2, HBR.out.trans (hk2.below (fun k h => h) hsz)⟩
          case measure => simp [intOf]; omega
    · have hl := rlen _ _ _ _ wr HRR.out
      rw [seq_len] at hl
      have HL := Lib.hid hl
      have hd : ((i - o : Nat) : Int) = (i : Int) - (o : Int) := by omega
      rw [hd] at HL
      have HLV := Lib.hid (ring_lives wr)
      clear hl hd
      go_wp2_with (first | (go_at_call 11; refine HL.out.mono ?_; rintro e w2 ⟨rfl, rfl⟩) | (go_at_call 7; refine HLV.out.mono ?_; rintro e w2 ⟨rfl, hg⟩))
      go_ret
      exact ⟨rfl, HBR.out.trans (hg.mono hsz)⟩

set_option maxRecDepth 100000 in
theorem lifted (os : Os) (started : os.Started) (H : Type) (enc : TypeId × Value → H) :
    ReturnsInHanded {} Try.checked os 3 .any (Rows.ringOrderSpec.pre6 enc Try.prog Try.f3 Rows.ringOrderRow.domain false) (Rows.ringOrderSpec.post enc Try.prog Try.f3 false true false false) := by
  refine returnsInHanded_of_change (C := Try.checked) own started (by kernel_rfl) Try.func3
    (ChangeSpec.witness6 (enc := enc) (C := Try.checked) false ⟨#[], #[.int .i64 0, .slice none 0 0], []⟩ 8 (by kernel_rfl) (by kernel_rfl) (by kernel_rfl) (by kernel_rfl)) ?_
  intro W base args ds gs before hval0 hW hcnd _
  have hval : ∀ (j : Nat) t v, Try.f3.params[j]? = some t → args[j]? = some v → Value.okWide Try.prog W .any base t v := hval0
  have hW' := hW
  obtain ⟨p, q, hA0, hV, rfl, hfz, hnd⟩ := hW
  have hA : DataW.TrodAll enc Try.prog W 0 (fun _ => true) true Try.f3.params.toList args.toList ds p := hA0
  rw [Try.params3] at hA hval
  obtain ⟨v0, vs0, d0, ds0, p0, q0, hargs, rfl, rfl, h0, r0⟩ := trodAll_cons hA
  obtain ⟨v1, vs1, d1, ds1, p1, q1, rfl, rfl, rfl, h1, r1⟩ := trodAll_cons r0
  obtain ⟨rfl, rfl, rfl⟩ := trodAll_nil r1
  obtain rfl : args = #[v0, v1] := by cases args; simp_all
  obtain ⟨rfl, rfl⟩ := trodVars_none hV
  have k0 := h0
  have lt0 : ∀ x ∈ p0, x.block < W.heap.size := by obtain ⟨m, hm⟩ := k0; exact DataW.trod_lt m _ _ _ hm
  have k1 := h1
  have lt1 : ∀ x ∈ p1, x.block < W.heap.size := by obtain ⟨m, hm⟩ := k1; exact DataW.trod_lt m _ _ _ hm
  obtain ⟨a0, rfl, rfl, rfl, w0⟩ := open_int Try.underlying3 (hval 0 3 v0 rfl rfl) h0
  obtain ⟨a1, len1, cap1, rfl⟩ := okWide_slice Try.underlying22 (hval 1 22 v1 rfl rfl)
  obtain ⟨z1, w1⟩ : ∃ B, ReadsB W a1 len1 B := open_boolsR Try.underlying22 Try.underlying4 (by kernel_rfl) h1
  clear hA0 hval0
  refine (walk a0 a1 len1 cap1 z1 W w1).mono fun e W' ⟨he, bel⟩ => ?_
  subst he
  exact ⟨_, rfl, _, _, _, [], _, [], hW', trodAll_mk1 (shut_bool Try.underlying4 _), (trodAll_cons_mk (Below.trod laidOut (by kernel_rfl) (of_decide_eq_true (by kernel_rfl)) k0 bel lt0) (trodAll_cons_mk (Below.trod laidOut (by kernel_rfl) (of_decide_eq_true (by kernel_rfl)) k1 bel lt1) trodAll_mk0)), rfl, bel.frame _, fun h => by cases h⟩

theorem over : Rows.ringOrderRow.holds Try.pinned (OpenSpec.ofChange Rows.ringOrderSpec) :=
  OpenClaim.holds_of_wide 3 Try.f3 rfl rfl rfl rfl rfl rfl rfl ⟨rfl, rfl, rfl, rfl, rfl⟩ rfl rfl rfl rfl rfl (by kernel_rfl) Try.func3 (by kernel_rfl)
    (of_decide_eq_true (by kernel_rfl)) (by unfold Func.isWrapper; first | (rw [if_pos (by decide +kernel)]; kernel_rfl) | (rw [if_neg (by decide +kernel)]; exact ⟨rfl, rfl⟩))
    (fun os started H enc _ => lifted os started H enc)

/-- THE STATEMENT. -/
theorem proved : Rows.RingOrderSaid := over
#print axioms proved
end Go.Proofs.Ytfphpbhopfhlcaa.ringOrder
