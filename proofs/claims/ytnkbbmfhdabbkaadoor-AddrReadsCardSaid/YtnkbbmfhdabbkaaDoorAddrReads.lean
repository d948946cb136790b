/-
  signpost's AddrReads: for every input the law returns true: the tied card. The three tables of the library that the row lists are as the program's text lays them; no other condition.
-/
import Derived.Test.YtnkbbmfhdabbkaaDoorRows
import Derived.Test.YtnkbbmfhdabbkaaDoorCards
import Derived.Test.YtnkbbmfhdabbkaaDoorTie
import Derived.WalkKit
import Derived.ProofKit
import Derived.OpenShut
import Derived.ShutString
import Derived.ChangeOld
import Derived.Below
import Derived.LaidMore
import Derived.Stop.Joined
import Derived.SevenTiedAt
import Derived.Test.YtnkbbmfhdabbkaaDoorP2
namespace Go.Proofs.YtnkbbmfhdabbkaaDoor.addrReads
open Go.ChangeShapes Go.WideShapes Go.ChangeAt Go.RowKit
open Go.ChangeMaps (open_string shut_string)
set_option linter.unusedSimpArgs false
set_option linter.unusedVariables false

theorem own : ownKnob Tryd.prog.godebug = none := by kernel_rfl
theorem laidOut : laidOutB Tryd.prog = true := by kernel_rfl

open Go.Proofs.YtnkbbmfhdabbkaaDoorW.PrintWords
set_option maxRecDepth 100000
theorem rd_sym (l : List Int) (hB : Bytes l) : ∃ (X Y : Nat) (E : Int), rdRes l = adr X Y E := by
  rcases rd_sound l hB with hr | ⟨h, p, hh, hp, hg, rfl, hr⟩
  · exact ⟨0, 0, 10, hr⟩
  · exact ⟨h, p, 0, hr⟩
theorem walk_far (s : ByteArray) (A : Option Addr) (cap : Nat) (l : List Int) (w : World) (ht : TabAt w) (hf : (1000 : Int) < (s.size : Int) ∨ (1000 : Int) < (l.length : Int)) :
    Calls Tryd.prog 4 #[.string s, .slice A l.length cap] w fun e w' => e = .returned (.bool true) ∧ Below w.heap.size w w' := by
  have HLV := Lib.hid (alives _ ht)
  clear ht
  generalize l.length = ln at *
  by_cases h1 : (1000 : Int) < (s.size : Int)
  · clear hf
    go_enter Tryd.func4, Tryd.ntmps4
    go_wp2_with (go_at_call 14; refine HLV.out.mono ?_; rintro e w1 ⟨rfl, hbk⟩)
    go_ret
    exact ⟨rfl, hbk⟩
  · have h3 : (1000 : Int) < (ln : Int) := hf.resolve_left h1
    clear hf
    go_enter Tryd.func4, Tryd.ntmps4
    go_wp2_with (go_at_call 14; refine HLV.out.mono ?_; rintro e w1 ⟨rfl, hbk⟩)
    go_ret
    exact ⟨rfl, hbk⟩
set_option maxHeartbeats 4000000 in
theorem walk_near (s : ByteArray) (A : Option Addr) (cap : Nat) (l : List Int) (w : World) (ht : TabAt w) (HR : ReadsInt w .u8 A l.length l) (hc : l.length ≤ cap) (hB : Bytes l) (hs1 : s.size ≤ 1000) (hl1 : l.length ≤ 1000) :
    Calls Tryd.prog 4 #[.string s, .slice A l.length cap] w fun e w' => e = .returned (.bool true) ∧ Below w.heap.size w w' := by
  obtain ⟨X1, Y1, E1, hp1, hq1⟩ := parses s hs1
  obtain ⟨X2, Y2, E2, hr2⟩ := rd_sym l hB
  have HP := Lib.hid hp1
  have HQ := Lib.hid hq1
  have HRD := Lib.hid (show ∀ W, Below w.heap.size w W → Calls Tryd.prog 17 #[.slice A l.length cap] W fun e w' => e = .returned (adr X2 Y2 E2) ∧ Below W.heap.size W w' from fun W hW => by
    have := aread A cap l W (HR.below hW) hc hB
    rwa [hr2] at this)
  have HRR := Lib.hid (show ∀ W, Below w.heap.size w W → Calls Tryd.prog 18 #[.slice A l.length cap] W fun e w' => e = .returned (adr X2 Y2 E2) ∧ Below W.heap.size W w' from fun W hW => by
    have := rread A cap l W (HR.below hW) hc hB
    rwa [hr2] at this)
  have HT := Lib.hid (show ∀ W, Below w.heap.size w W → TabAt W from fun W hW => tab_on ht hW)
  have n1 : ¬ ((1000 : Int) < (s.size : Int)) := by omega
  have n2 : ¬ ((1000 : Int) < (l.length : Int)) := by omega
  clear ht hp1 hq1 hr2 HR hc hB hs1 hl1
  generalize l.length = ln at *
  go_enter Tryd.func4, Tryd.ntmps4
  go_upto_region 4 with (go_at_call 15; refine (HP.out _).mono ?_; unfold adr; rintro e w1 ⟨rfl, hb1⟩)
  have hs1 := hb1
  have BX1 := Lib.hid (blk_new w1 (.cells #[.int .u32 (X1 : Int), .int .u16 (Y1 : Int)] 25))
  have HB1 := Lib.hid (hs1.alloc hs1.size (.cells #[.int .u32 (X1 : Int), .int .u16 (Y1 : Int)] 25))
  clear hb1 hs1
  generalize w1.heap.size = g1 at *
  generalize World.alloc w1 _ = W1 at *
  go_upto_region 5 with (go_at_call 16; refine (HQ.out _).mono ?_; unfold adr; rintro e w2 ⟨rfl, hb2⟩)
  have hs2 : Below w.heap.size w w2 := HB1.out.trans (hb2.mono HB1.out.size)
  have BX2 := Lib.hid (blk_new w2 (.cells #[.int .u32 (X1 : Int), .int .u16 (Y1 : Int)] 28))
  replace BX1 := Lib.hid (blk_below (blk_below BX1.out hb2) ((Below.refl _ _).alloc (Nat.le_refl _) (.cells #[.int .u32 (X1 : Int), .int .u16 (Y1 : Int)] 28)))
  have HB2 := Lib.hid (hs2.alloc hs2.size (.cells #[.int .u32 (X1 : Int), .int .u16 (Y1 : Int)] 28))
  clear hb2 hs2 HB1
  generalize w2.heap.size = g2 at *
  generalize World.alloc w2 _ = W2 at *
  go_upto_region 6 with (go_at_call 17; refine (HRD.out _ HB2.out).mono ?_; unfold adr; rintro e w3 ⟨rfl, hb3⟩)
  have hs3 : Below w.heap.size w w3 := HB2.out.trans (hb3.mono HB2.out.size)
  have BX3 := Lib.hid (blk_new w3 (.cells #[.int .u32 (X2 : Int), .int .u16 (Y2 : Int)] 25))
  replace BX1 := Lib.hid (blk_below (blk_below BX1.out hb3) ((Below.refl _ _).alloc (Nat.le_refl _) (.cells #[.int .u32 (X2 : Int), .int .u16 (Y2 : Int)] 25)))
  replace BX2 := Lib.hid (blk_below (blk_below BX2.out hb3) ((Below.refl _ _).alloc (Nat.le_refl _) (.cells #[.int .u32 (X2 : Int), .int .u16 (Y2 : Int)] 25)))
  have HB3 := Lib.hid (hs3.alloc hs3.size (.cells #[.int .u32 (X2 : Int), .int .u16 (Y2 : Int)] 25))
  clear hb3 hs3 HB2
  generalize w3.heap.size = g3 at *
  generalize World.alloc w3 _ = W3 at *
  go_upto_region 7 with (go_at_call 18; refine (HRR.out _ HB3.out).mono ?_; unfold adr; rintro e w4 ⟨rfl, hb4⟩)
  have hs4 : Below w.heap.size w w4 := HB3.out.trans (hb4.mono HB3.out.size)
  have BX4 := Lib.hid (blk_new w4 (.cells #[.int .u32 (X2 : Int), .int .u16 (Y2 : Int)] 28))
  replace BX1 := Lib.hid (blk_below (blk_below BX1.out hb4) ((Below.refl _ _).alloc (Nat.le_refl _) (.cells #[.int .u32 (X2 : Int), .int .u16 (Y2 : Int)] 28)))
  replace BX2 := Lib.hid (blk_below (blk_below BX2.out hb4) ((Below.refl _ _).alloc (Nat.le_refl _) (.cells #[.int .u32 (X2 : Int), .int .u16 (Y2 : Int)] 28)))
  replace BX3 := Lib.hid (blk_below (blk_below BX3.out hb4) ((Below.refl _ _).alloc (Nat.le_refl _) (.cells #[.int .u32 (X2 : Int), .int .u16 (Y2 : Int)] 28)))
  have HB4 := Lib.hid (hs4.alloc hs4.size (.cells #[.int .u32 (X2 : Int), .int .u16 (Y2 : Int)] 28))
  clear hb4 hs4 HB3
  generalize w4.heap.size = g4 at *
  generalize World.alloc w4 _ = W4 at *
  have e10 := (blk_cell BX1.out 0).trans rfl
  have e11 := (blk_cell BX1.out 1).trans rfl
  have e20 := (blk_cell BX2.out 0).trans rfl
  have e21 := (blk_cell BX2.out 1).trans rfl
  have e30 := (blk_cell BX3.out 0).trans rfl
  have e31 := (blk_cell BX3.out 1).trans rfl
  have e40 := (blk_cell BX4.out 0).trans rfl
  have e41 := (blk_cell BX4.out 1).trans rfl
  have HLV := Lib.hid (alives _ (HT.out _ HB4.out))
  go_wp2_with (go_at_call 14; refine HLV.out.mono ?_; rintro e w9 ⟨rfl, hbk⟩)
  go_ret
  exact ⟨rfl, HB4.out.trans (hbk.mono HB4.out.size)⟩
theorem walk (s : ByteArray) (A : Option Addr) (len cap : Nat) (z : List Int) (w : World) (w0 : s.size ≤ maxLen) (w1 : IsRow .u8 w A len cap z) (ht : TabAt w) :
    Calls Tryd.prog 4 #[.string s, .slice A len cap] w fun e w' => e = .returned (.bool true) ∧ Below w.heap.size w w' := by
  have hcap : len ≤ cap := by rcases w1 with ⟨_, rfl, rfl, _⟩ | ⟨x, _, h, _⟩ <;> omega
  obtain ⟨l, rfl, HR, hm, hw⟩ := ReadsInt.ofRow w1
  by_cases hf : (1000 : Int) < (s.size : Int) ∨ (1000 : Int) < (l.length : Int)
  · exact walk_far s A cap l w ht hf
  · exact walk_near s A cap l w ht HR hcap (fun x hx => bounds_u8 (hw x hx)) (by omega) (by omega)

/-- The listed tables. -/
def laid3 : List (String × DataW Unit) := [("math/bits.deBruijn32tab", Rows.laid_math_bits_deBruijn32tab), ("math/bits.deBruijn64tab", Rows.laid_math_bits_deBruijn64tab), ("internal/strconv.uint64pow10", Rows.laid_internal_strconv_uint64pow10)]
theorem door_met (os : Os) (args : Array Value) : laidMetH Tryd.prog laid3 ((World.doorLaid Tryd.prog 400 os).forCall (fun _ _ => 0) ⟨#[], args, []⟩).memory :=
  laidMetH_of_parts3 (fuel := 8) (laidMet_of_run' 8 (by kernel_rfl) (by kernel_rfl)) (by kernel_rfl) (by kernel_rfl)
theorem tab_of_laid {W : World} (h : laidMetH Tryd.prog laid3 W) : Lib.TabIs Tryd.prog W "internal/strconv.uint64pow10" .u64 Lib.pow10Tab := by
  rw [MakeChecks.laidMetH_plain _ _ _ (by kernel_rfl)] at h
  obtain ⟨ps, ⟨g0, t0, cs0, f0, p0, q0, hg0, ht0, hv0, hd0, ⟨g1, t1, cs1, f1, p1, q1, hg1, ht1, hv1, hd1, hrest, _⟩, _⟩, -, -⟩ := h
  exact tab_of_vars hrest

set_option maxRecDepth 100000 in
theorem lifted (os : Os) (started : os.Started) (H : Type) (enc : TypeId × Value → H) :
    ReturnsInHanded {} Tryd.checked os 4 .any (fun w args => (Rows.addrReadsSpec.pre enc Tryd.prog Tryd.f4 [] false w args ∧ laidMetH Tryd.prog laid3 w) ∧ sizedMet enc Tryd.prog Tryd.f4 (OpenSpec.ofChange Rows.addrReadsSpec) false w args)
      (Rows.addrReadsSpec.post enc Tryd.prog Tryd.f4 false true false false) := by
  refine returnsInHanded_of_change_and (C := Tryd.checked) (X := fun w _ => laidMetH Tryd.prog laid3 w) (fun _ _ _ hh h => h.of_heap hh) own started (by kernel_rfl) Tryd.func4
    (ChangeSpec.witness_shaped (enc := enc) (C := Tryd.checked) (os := os) (X := fun w _ => laidMetH Tryd.prog laid3 w) false (World.doorLaid Tryd.prog 400 os) #[.string ByteArray.empty, .slice none 0 0] 8 rfl (World.shaped_of_RefB (by kernel_rfl) (by kernel_rfl)) (by kernel_rfl) (by kernel_rfl) (by kernel_rfl) (door_met os _)) ?_
  intro W base args ds gs before hval0 hW _ _ hL _
  have hval : ∀ (j : Nat) t v, Tryd.f4.params[j]? = some t → args[j]? = some v → Value.okWide Tryd.prog W .any base t v := hval0
  have hW' := hW
  obtain ⟨p, q, hA0, hV, rfl, hfz, hnd⟩ := hW
  have hA : DataW.TrodAll enc Tryd.prog W 0 (fun _ => true) true Tryd.f4.params.toList args.toList ds p := hA0
  rw [Tryd.params4] at hA hval
  obtain ⟨v0, vs0, d0, ds0, p0, q0, hargs, rfl, rfl, h0, r0⟩ := trodAll_cons hA
  obtain ⟨v1, vs1, d1, ds1, p1, q1, rfl, rfl, rfl, h1, r1⟩ := trodAll_cons r0
  obtain ⟨rfl, rfl, rfl⟩ := trodAll_nil r1
  obtain rfl : args = #[v0, v1] := by cases args; simp_all
  obtain ⟨rfl, rfl⟩ := trodVars_none hV
  have k0 := h0
  have lt0 : ∀ x ∈ p0, x.block < W.heap.size := by obtain ⟨m, hm⟩ := k0; exact DataW.trod_lt m _ _ _ hm
  have k1 := h1
  have lt1 : ∀ x ∈ p1, x.block < W.heap.size := by obtain ⟨m, hm⟩ := k1; exact DataW.trod_lt m _ _ _ hm
  obtain ⟨a0, rfl, rfl, rfl, w0⟩ := open_string Tryd.underlying9 (hval 0 9 v0 rfl rfl) h0
  obtain ⟨a1, len1, cap1, rfl⟩ := okWide_slice Tryd.underlying31 (hval 1 31 v1 rfl rfl)
  obtain ⟨z1, w1⟩ : ∃ zs, IsRow .u8 W a1 len1 cap1 zs := by
    obtain ⟨fuel, hf⟩ := h1
    rcases open_ints Tryd.underlying31 Tryd.underlying5 (by kernel_rfl) hf with ⟨hcs, _⟩ | ⟨x, l, c, zs, hcs, _, hl, hm, hz, _, hcell, hwz⟩
    · simp [Value.cells] at hcs
      obtain ⟨rfl, rfl, rfl⟩ := hcs
      exact ⟨[], .inl ⟨rfl, rfl, rfl, rfl⟩⟩
    · simp [Value.cells] at hcs
      obtain ⟨rfl, rfl, rfl⟩ := hcs
      exact ⟨zs, .inr ⟨_, rfl, hl, hm, by simpa using hz, hcell, hwz⟩⟩
  clear hA0 hval0
  have htab := tab_of_laid hL
  refine (walk a0 a1 len1 cap1 z1 W w0 w1 htab).mono fun e W' ⟨he, bel⟩ => ?_
  subst he
  exact ⟨_, rfl, _, _, _, [], _, [], hW', trodAll_mk1 (shut_bool Tryd.underlying4 _), (trodAll_cons_mk (Below.trod laidOut (by kernel_rfl) (of_decide_eq_true (by kernel_rfl)) k0 bel lt0) (trodAll_cons_mk (Below.trod laidOut (by kernel_rfl) (of_decide_eq_true (by kernel_rfl)) k1 bel lt1) trodAll_mk0)), rfl, bel.frame _, fun h => by cases h⟩

theorem over : Rows.AddrReadsSaid :=
  OpenClaim.holds_of_wide 4 Tryd.f4 rfl rfl rfl rfl rfl rfl rfl ⟨rfl, rfl, rfl, rfl, rfl⟩ rfl rfl rfl rfl rfl (by kernel_rfl) Tryd.func4 (by kernel_rfl)
    (of_decide_eq_true (by kernel_rfl)) (by unfold Func.isWrapper; first | (rw [if_pos (by decide +kernel)]; kernel_rfl) | (rw [if_neg (by decide +kernel)]; exact ⟨rfl, rfl⟩))
    (fun os started H enc _ => lifted os started H enc)

/-- THE CARD. -/
theorem proved : Rows.AddrReadsCardSaid :=
  Claim7.holds_tied_plain_at .later [] [.data, .data, .data] true (true, "21101fcdb1af11b56e9a55cccff36940e601ecba37dc32bcbd834816e98fc442") false
    over (fun _ h => by cases h) (by kernel_rfl) (fun _ h => by cases h) addrReads_row_tie rfl ⟨rfl, rfl⟩ (by kernel_rfl) rfl
    (fun f fn hf hfn => by
      obtain rfl : f = 4 := Option.some.inj ((show Tryd.prog.funcNamed "signpost/signpostlaw06.AddrReads" = some 4 by kernel_rfl).symm.trans hf) |>.symm
      obtain rfl : fn = Tryd.f4 := (Option.some.inj (Tryd.func4.symm.trans hfn)).symm
      exact ⟨by kernel_rfl, fun j t ht => by
        rw [Tryd.params4] at ht
        have hm : t ∈ [9, 31] := by simpa using Array.mem_of_getElem? ht
        have hall : ([9, 31].all fun u => !Tryd.prog.wantsStandIn u) = true := by kernel_rfl
        exact (show Tryd.prog.wantsStandIn t = false by simpa using List.all_eq_true.1 hall t hm)⟩)
    (by kernel_rfl)
#print axioms proved
end Go.Proofs.YtnkbbmfhdabbkaaDoor.addrReads
