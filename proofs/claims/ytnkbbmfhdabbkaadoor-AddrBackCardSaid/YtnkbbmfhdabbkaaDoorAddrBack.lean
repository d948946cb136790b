/-
  signpost's AddrBack: for every input the law returns true: the tied card. The three tables of the library that the row lists are as the program's text lays them; no other condition.
-/
import Derived.Test.YtnkbbmfhdabbkaaDoorRows
import Derived.Test.YtnkbbmfhdabbkaaDoorCards
import Derived.Test.YtnkbbmfhdabbkaaDoorTie
import Derived.WalkKit
import Derived.ProofKit
import Derived.OpenShut
import Derived.ShutString
import Derived.ChangeOld
import Derived.Below
import Derived.LaidMore
import Derived.Stop.Joined
import Derived.SevenTiedAt
import Derived.Test.YtnkbbmfhdabbkaaDoorB5
namespace Go.Proofs.YtnkbbmfhdabbkaaDoor.addrBack
open Go.ChangeShapes Go.WideShapes Go.ChangeAt Go.RowKit
open Go.ChangeMaps (open_string shut_string)
set_option linter.unusedSimpArgs false
set_option linter.unusedVariables false

theorem own : ownKnob Tryd.prog.godebug = none := by kernel_rfl
theorem laidOut : laidOutB Tryd.prog = true := by kernel_rfl

open Go.Proofs.YtnkbbmfhdabbkaaDoorW.PrintWords
set_option maxRecDepth 100000
theorem walk_far (h p h2 p2 : Nat) (s : ByteArray) (A : Option Addr) (cap : Nat) (l : List Int) (w : World) (hh : h < 4294967296) (hp : p < 65536) (hh2 : h2 < 4294967296) (hp2 : p2 < 65536) (ht : TabAt w) (hf : (1000 : Int) < (s.size : Int) ∨ (1000 : Int) < (l.length : Int)) :
    Calls Tryd.prog 5 #[.agg #[.int .u32 (h : Int), .int .u16 (p : Int)], .agg #[.int .u32 (h2 : Int), .int .u16 (p2 : Int)], .string s, .slice A l.length cap] w fun e w' => e = .returned (.bool true) ∧ Below w.heap.size w w' := by
  obtain ⟨b1, b2, hb0⟩ := box2 w (cellsA h p) (cellsA h2 p2)
  have B1 := Lib.hid b1
  have B2 := Lib.hid b2
  have HB := Lib.hid hb0
  clear b1 b2 hb0
  have HLV := Lib.hid (alives _ (tab_on ht HB.out))
  clear ht
  generalize l.length = ln at *
  by_cases h1 : (1000 : Int) < (s.size : Int)
  · clear hf
    go_enter Tryd.func5, Tryd.ntmps5
    go_wp2_with (go_at_call 14; refine HLV.out.mono ?_; rintro e w1 ⟨rfl, hbk⟩)
    go_ret
    exact ⟨rfl, HB.out.trans (hbk.mono HB.out.size)⟩
  · have h3 : (1000 : Int) < (ln : Int) := hf.resolve_left h1
    clear hf
    go_enter Tryd.func5, Tryd.ntmps5
    go_wp2_with (go_at_call 14; refine HLV.out.mono ?_; rintro e w1 ⟨rfl, hbk⟩)
    go_ret
    exact ⟨rfl, HB.out.trans (hbk.mono HB.out.size)⟩
theorem walk (h p h2 p2 : Nat) (s : ByteArray) (A : Option Addr) (len cap : Nat) (z : List Int) (w : World) (hh : h < 4294967296) (hp : p < 65536) (hh2 : h2 < 4294967296) (hp2 : p2 < 65536) (w2 : s.size ≤ maxLen) (w3 : IsRow .u8 w A len cap z) (ht : TabAt w) :
    Calls Tryd.prog 5 #[.agg #[.int .u32 (h : Int), .int .u16 (p : Int)], .agg #[.int .u32 (h2 : Int), .int .u16 (p2 : Int)], .string s, .slice A len cap] w fun e w' => e = .returned (.bool true) ∧ Below w.heap.size w w' := by
  have hcap : len ≤ cap := by rcases w3 with ⟨_, rfl, rfl, _⟩ | ⟨x, _, h, _⟩ <;> omega
  obtain ⟨l, rfl, HR, hm, hw⟩ := ReadsInt.ofRow w3
  by_cases hf : (1000 : Int) < (s.size : Int) ∨ (1000 : Int) < (l.length : Int)
  · exact walk_far h p h2 p2 s A cap l w hh hp hh2 hp2 ht hf
  · exact walk_near h p h2 p2 s A cap l w hh hp hh2 hp2 ht HR hcap (fun x hx => bounds_u8 (hw x hx)) (by omega) (by omega)

/-- The listed tables. -/
def laid3 : List (String × DataW Unit) := [("math/bits.deBruijn32tab", Rows.laid_math_bits_deBruijn32tab), ("math/bits.deBruijn64tab", Rows.laid_math_bits_deBruijn64tab), ("internal/strconv.uint64pow10", Rows.laid_internal_strconv_uint64pow10)]
theorem door_met (os : Os) (args : Array Value) : laidMetH Tryd.prog laid3 ((World.doorLaid Tryd.prog 400 os).forCall (fun _ _ => 0) ⟨#[], args, []⟩).memory :=
  laidMetH_of_parts3 (fuel := 8) (laidMet_of_run' 8 (by kernel_rfl) (by kernel_rfl)) (by kernel_rfl) (by kernel_rfl)
theorem tab_of_laid {W : World} (h : laidMetH Tryd.prog laid3 W) : Lib.TabIs Tryd.prog W "internal/strconv.uint64pow10" .u64 Lib.pow10Tab := by
  rw [MakeChecks.laidMetH_plain _ _ _ (by kernel_rfl)] at h
  obtain ⟨ps, ⟨g0, t0, cs0, f0, p0, q0, hg0, ht0, hv0, hd0, ⟨g1, t1, cs1, f1, p1, q1, hg1, ht1, hv1, hd1, hrest, _⟩, _⟩, -, -⟩ := h
  exact tab_of_vars hrest

set_option maxRecDepth 100000 in
theorem lifted (os : Os) (started : os.Started) (H : Type) (enc : TypeId × Value → H) :
    ReturnsInHanded {} Tryd.checked os 5 .any (fun w args => (Rows.addrBackSpec.pre enc Tryd.prog Tryd.f5 [] false w args ∧ laidMetH Tryd.prog laid3 w) ∧ sizedMet enc Tryd.prog Tryd.f5 (OpenSpec.ofChange Rows.addrBackSpec) false w args)
      (Rows.addrBackSpec.post enc Tryd.prog Tryd.f5 false true false false) := by
  refine returnsInHanded_of_change_and (C := Tryd.checked) (X := fun w _ => laidMetH Tryd.prog laid3 w) (fun _ _ _ hh h => h.of_heap hh) own started (by kernel_rfl) Tryd.func5
    (ChangeSpec.witness_shaped (enc := enc) (C := Tryd.checked) (os := os) (X := fun w _ => laidMetH Tryd.prog laid3 w) false (World.doorLaid Tryd.prog 400 os) #[.agg #[.int .u32 0, .int .u16 0], .agg #[.int .u32 0, .int .u16 0], .string ByteArray.empty, .slice none 0 0] 8 rfl (World.shaped_of_RefB (by kernel_rfl) (by kernel_rfl)) (by kernel_rfl) (by kernel_rfl) (by kernel_rfl) (door_met os _)) ?_
  intro W base args ds gs before hval0 hW _ _ hL _
  have hval : ∀ (j : Nat) t v, Tryd.f5.params[j]? = some t → args[j]? = some v → Value.okWide Tryd.prog W .any base t v := hval0
  have hW' := hW
  obtain ⟨p, q, hA0, hV, rfl, hfz, hnd⟩ := hW
  have hA : DataW.TrodAll enc Tryd.prog W 0 (fun _ => true) true Tryd.f5.params.toList args.toList ds p := hA0
  rw [Tryd.params5] at hA hval
  obtain ⟨v0, vs0, d0, ds0, p0, q0, hargs, rfl, rfl, h0, r0⟩ := trodAll_cons hA
  obtain ⟨v1, vs1, d1, ds1, p1, q1, rfl, rfl, rfl, h1, r1⟩ := trodAll_cons r0
  obtain ⟨v2, vs2, d2, ds2, p2, q2, rfl, rfl, rfl, h2, r2⟩ := trodAll_cons r1
  obtain ⟨v3, vs3, d3, ds3, p3, q3, rfl, rfl, rfl, h3, r3⟩ := trodAll_cons r2
  obtain ⟨rfl, rfl, rfl⟩ := trodAll_nil r3
  obtain rfl : args = #[v0, v1, v2, v3] := by cases args; simp_all
  obtain ⟨rfl, rfl⟩ := trodVars_none hV
  have k0 := h0
  have lt0 : ∀ x ∈ p0, x.block < W.heap.size := by obtain ⟨m, hm⟩ := k0; exact DataW.trod_lt m _ _ _ hm
  have k1 := h1
  have lt1 : ∀ x ∈ p1, x.block < W.heap.size := by obtain ⟨m, hm⟩ := k1; exact DataW.trod_lt m _ _ _ hm
  have k2 := h2
  have lt2 : ∀ x ∈ p2, x.block < W.heap.size := by obtain ⟨m, hm⟩ := k2; exact DataW.trod_lt m _ _ _ hm
  have k3 := h3
  have lt3 : ∀ x ∈ p3, x.block < W.heap.size := by obtain ⟨m, hm⟩ := k3; exact DataW.trod_lt m _ _ _ hm
  obtain ⟨a0, b0, rfl, ha0, hb0⟩ := open_addr (hval 0 25 v0 rfl rfl) h0
  obtain ⟨a1, b1, rfl, ha1, hb1⟩ := open_addr (hval 1 25 v1 rfl rfl) h1
  obtain ⟨a2, rfl, rfl, rfl, w2⟩ := open_string Tryd.underlying9 (hval 2 9 v2 rfl rfl) h2
  obtain ⟨a3, len3, cap3, rfl⟩ := okWide_slice Tryd.underlying31 (hval 3 31 v3 rfl rfl)
  obtain ⟨z3, w3⟩ : ∃ zs, IsRow .u8 W a3 len3 cap3 zs := by
    obtain ⟨fuel, hf⟩ := h3
    rcases open_ints Tryd.underlying31 Tryd.underlying5 (by kernel_rfl) hf with ⟨hcs, _⟩ | ⟨x, l, c, zs, hcs, _, hl, hm, hz, _, hcell, hwz⟩
    · simp [Value.cells] at hcs
      obtain ⟨rfl, rfl, rfl⟩ := hcs
      exact ⟨[], .inl ⟨rfl, rfl, rfl, rfl⟩⟩
    · simp [Value.cells] at hcs
      obtain ⟨rfl, rfl, rfl⟩ := hcs
      exact ⟨zs, .inr ⟨_, rfl, hl, hm, by simpa using hz, hcell, hwz⟩⟩
  clear hA0 hval0
  have htab := tab_of_laid hL
  refine (walk a0 b0 a1 b1 a2 a3 len3 cap3 z3 W ha0 hb0 ha1 hb1 w2 w3 htab).mono fun e W' ⟨he, bel⟩ => ?_
  subst he
  exact ⟨_, rfl, _, _, _, [], _, [], hW', trodAll_mk1 (shut_bool Tryd.underlying4 _), (trodAll_cons_mk (Below.trod laidOut (by kernel_rfl) (of_decide_eq_true (by kernel_rfl)) k0 bel lt0) (trodAll_cons_mk (Below.trod laidOut (by kernel_rfl) (of_decide_eq_true (by kernel_rfl)) k1 bel lt1) (trodAll_cons_mk (Below.trod laidOut (by kernel_rfl) (of_decide_eq_true (by kernel_rfl)) k2 bel lt2) (trodAll_cons_mk (Below.trod laidOut (by kernel_rfl) (of_decide_eq_true (by kernel_rfl)) k3 bel lt3) trodAll_mk0)))), rfl, bel.frame _, fun h => by cases h⟩

theorem over : Rows.AddrBackSaid :=
  OpenClaim.holds_of_wide 5 Tryd.f5 rfl rfl rfl rfl rfl rfl rfl ⟨rfl, rfl, rfl, rfl, rfl⟩ rfl rfl rfl rfl rfl (by kernel_rfl) Tryd.func5 (by kernel_rfl)
    (of_decide_eq_true (by kernel_rfl)) (by unfold Func.isWrapper; first | (rw [if_pos (by decide +kernel)]; kernel_rfl) | (rw [if_neg (by decide +kernel)]; exact ⟨rfl, rfl⟩))
    (fun os started H enc _ => lifted os started H enc)

/-- THE CARD. -/
theorem proved : Rows.AddrBackCardSaid :=
  Claim7.holds_tied_plain_at .later [] [.data, .data, .data] true (true, "21101fcdb1af11b56e9a55cccff36940e601ecba37dc32bcbd834816e98fc442") false
    over (fun _ h => by cases h) (by kernel_rfl) (fun _ h => by cases h) addrBack_row_tie rfl ⟨rfl, rfl⟩ (by kernel_rfl) rfl
    (fun f fn hf hfn => by
      obtain rfl : f = 5 := Option.some.inj ((show Tryd.prog.funcNamed "signpost/signpostlaw06.AddrBack" = some 5 by kernel_rfl).symm.trans hf) |>.symm
      obtain rfl : fn = Tryd.f5 := (Option.some.inj (Tryd.func5.symm.trans hfn)).symm
      exact ⟨by kernel_rfl, fun j t ht => by
        rw [Tryd.params5] at ht
        have hm : t ∈ [25, 25, 9, 31] := by simpa using Array.mem_of_getElem? ht
        have hall : ([25, 25, 9, 31].all fun u => !Tryd.prog.wantsStandIn u) = true := by kernel_rfl
        exact (show Tryd.prog.wantsStandIn t = false by simpa using List.all_eq_true.1 hall t hm)⟩)
    (by kernel_rfl)
#print axioms proved
end Go.Proofs.YtnkbbmfhdabbkaaDoor.addrBack
