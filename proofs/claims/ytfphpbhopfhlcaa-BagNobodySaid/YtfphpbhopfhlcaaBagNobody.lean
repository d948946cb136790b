/-
  signpost's BagNobody: for every input the law returns true. No condition.
-/
import Derived.Test.YtfphpbhopfhlcaaRows
import Derived.WalkKit
import Derived.ProofKit
import Derived.OpenShut
import Derived.ShutString
import Derived.ChangeOld
import Derived.Below
import Derived.Test.YtfphpbhopfhlcaaDgA
import Derived.Deep.RegionHeld3
namespace Go.Proofs.Ytfphpbhopfhlcaa.bagNobody
open Go.ChangeShapes Go.WideShapes Go.ChangeAt Go.RowKit
open Go.ChangeMaps (open_string shut_string)
set_option linter.unusedSimpArgs false
open Go.Proofs.Ytfphpbhopfhlcaa.D
set_option linter.unusedVariables false

theorem own : ownKnob Try.prog.godebug = none := by kernel_rfl
theorem laidOut : laidOutB Try.prog = true := by kernel_rfl

theorem new_cell (W : World) (cs : Array Value) (e : TypeId) (b j : Nat) (v : Value) (hb : b = W.heap.size) (h : cs[j]? = some v) : (W.alloc (.cells cs e)).cell? ⟨b, j, none⟩ = some v := by
  subst hb
  have := heap_alloc_new W (.cells cs e)
  simp only [World.cell?, this, h]
  rfl
set_option maxRecDepth 20000 in
set_option maxHeartbeats 1500000 in
theorem walk (d : Dg) (i : Int) (w : World) : Calls Try.prog 6 #[.agg #[.int .u32 d.h1, .int .u16 d.p1, .int .u32 d.h2, .int .u16 d.p2, .string d.s], .int .i64 i] w fun e w' => e = .returned (.bool true) ∧ Below w.heap.size w w' := by
  go_enter Try.func6, Try.ntmps6
  go_wp2_with (go_at_call 25; refine (bclone_nil _).mono ?_; rintro e w1 ⟨rfl, rfl⟩)
  have HD0 : Hid (At5 (w.alloc (B49 d)) w.heap.size 0 d) := new_at5 w d 49
  have hbA := (Below.refl w.heap.size w).alloc (Nat.le_refl _) (B49 d)
  have hP : ∃ P : Nat → Option Addr, ∀ k, k < 2 → (((w.alloc (B49 d)).alloc (.cells #[Value.pointer none, Value.int .i64 0] 64)).alloc (.cells #[Value.pointer none, Value.pointer (some ⟨w.heap.size + 1, 0, none⟩)] 51)).cell? ⟨w.heap.size + 1 + 1, k, none⟩ = some (.pointer (P k)) ∧
      NoBag (((w.alloc (B49 d)).alloc (.cells #[Value.pointer none, Value.int .i64 0] 64)).alloc (.cells #[Value.pointer none, Value.pointer (some ⟨w.heap.size + 1, 0, none⟩)] 51)) (P k) := by
    refine ⟨fun k => if k = 0 then none else some ⟨w.heap.size + 1, 0, none⟩, fun k hk => ?_⟩
    have : k = 0 ∨ k = 1 := by omega
    rcases this with rfl | rfl
    · exact ⟨new_cell _ _ _ _ _ _ (by simp) rfl, .inl rfl⟩
    · exact ⟨new_cell _ _ _ _ _ _ (by simp) rfl, .inr ⟨_, rfl, cell_below ((Below.refl _ _).alloc (Nat.le_refl _) _) (new_cell _ _ _ _ _ _ (by simp) rfl)⟩⟩
  obtain ⟨P, hP⟩ := hP
  have HP := Lib.hid hP
  have HW0 : Hid (Below w.heap.size w (((w.alloc (B49 d)).alloc (.cells #[Value.pointer none, Value.int .i64 0] 64)).alloc (.cells #[Value.pointer none, Value.pointer (some ⟨w.heap.size + 1, 0, none⟩)] 51))) :=
    (hbA.alloc hbA.size _).alloc (hbA.alloc hbA.size _).size _
  have HD1 : Hid (At5 (((w.alloc (B49 d)).alloc (.cells #[Value.pointer none, Value.int .i64 0] 64)).alloc (.cells #[Value.pointer none, Value.pointer (some ⟨w.heap.size + 1, 0, none⟩)] 51)) w.heap.size 0 d) :=
    at5_below HD0.out (((Below.refl _ _).alloc (Nat.le_refl _) _).alloc (by simp) _)
  clear hP hbA
  generalize ((w.alloc (B49 d)).alloc (.cells #[Value.pointer none, Value.int .i64 0] 64)).alloc (.cells #[Value.pointer none, Value.pointer (some ⟨w.heap.size + 1, 0, none⟩)] 51) = W0 at *
  generalize hs2 : w.heap.size + 1 + 1 = s2 at *
  generalize hs1 : w.heap.size + 1 = s1 at *
  have HSZ : Hid (w.heap.size ≤ W0.heap.size) := HW0.out.size
  have HSD : Hid (∀ W, Below w.heap.size w W → Below w.heap.size w W) := fun W h => h
  generalize hsd : w.heap.size = sd at HW0 HD1 HSZ ⊢
  have HSE : Hid (w.heap.size = sd) := hsd
  clear hs1 hs2 HD0 hsd HSD
  go_loopw [20] (fun x wr => ∃ k : Nat, k ≤ 2 ∧ x = .int .i64 k ∧ Below W0.heap.size W0 wr) (fun x _ => 2 - (intOf x).toNat)
  case atStart => exact ⟨0, by omega, rfl, Below.refl _ _⟩
  case round =>
    obtain ⟨k, hk, rfl, hbr⟩ := hrel
    have HBR := Lib.hid hbr
    by_cases hlt : k < 2
    · obtain ⟨hc, hn⟩ := HP.out k hlt
      have hcr := cell_below hbr hc
      have HNB := Lib.hid (nobag_below hn hbr)
      clear hc hn hbr
      generalize P k = p at *
      go_wp2_with fail
      refine (btake_nobody p i wr HNB.out).mono ?_
      rintro e w3 ⟨rfl, hb3⟩
      have hb3a := hb3.trans (((Below.refl w3.heap.size w3).alloc (Nat.le_refl _) Z49).mono hb3.size)
      have HX3 : Hid (At5 (w3.alloc Z49) w3.heap.size 0 d0) := new_at5 w3 d0 49
      have HB3 := Lib.hid hb3a
      have HN3 := Lib.hid (nobag_below HNB.out hb3a)
      clear hb3 hb3a
      have hd0 : dv d0 = .agg #[.int .u32 0, .int .u16 0, .int .u32 0, .int .u16 0, .string ⟨#[]⟩] := rfl
      rw [hd0]
      go_wp2_with fail
      have ha := bat_nobody p i _ HN3.out
      rw [hd0] at ha
      refine ha.mono ?_
      rintro e w4 ⟨rfl, hb4⟩
      have hb4a := hb4.trans (((Below.refl w4.heap.size w4).alloc (Nat.le_refl _) Z49).mono hb4.size)
      have HX5 : Hid (At5 (w4.alloc Z49) w3.heap.size 0 d0) := at5_below HX3.out hb4a
      have HY5 : Hid (At5 (w4.alloc Z49) w4.heap.size 0 d0) := new_at5 w4 d0 49
      have HN5 := Lib.hid (nobag_below HN3.out hb4a)
      have HB5 := Lib.hid (HB3.out.trans (hb4a.mono HB3.out.size))
      have HD5 := Lib.hid (at5_below HD1.out (HBR.out.trans (HB5.out.mono HBR.out.size)))
      clear hb4 hb4a ha
      go_upto_region 9 with fail
      generalize w4.alloc _ = W5 at *
      generalize w4.heap.size = s10 at *
      generalize w3.heap.size = s8 at *
      have d0 : W5.cell? ⟨sd, 0, none⟩ = some (.int .u32 d.h1) := HD5.out.1.1
      have d1 : W5.cell? ⟨sd, 1, none⟩ = some (.int .u16 d.p1) := HD5.out.1.2.1
      have d2 : W5.cell? ⟨sd, 2, none⟩ = some (.int .u32 d.h2) := HD5.out.1.2.2.1
      have d3 : W5.cell? ⟨sd, 3, none⟩ = some (.int .u16 d.p2) := HD5.out.1.2.2.2.1
      have d4 : W5.cell? ⟨sd, 4, none⟩ = some (.string d.s) := HD5.out.1.2.2.2.2
      have x0 : W5.cell? ⟨s8, 0, none⟩ = some (.int .u32 0) := HX5.out.1.1
      have x1 : W5.cell? ⟨s8, 1, none⟩ = some (.int .u16 0) := HX5.out.1.2.1
      have x2 : W5.cell? ⟨s8, 2, none⟩ = some (.int .u32 0) := HX5.out.1.2.2.1
      have x3 : W5.cell? ⟨s8, 3, none⟩ = some (.int .u16 0) := HX5.out.1.2.2.2.1
      have x4 : W5.cell? ⟨s8, 4, none⟩ = some (.string ⟨#[]⟩) := HX5.out.1.2.2.2.2
      have y0 : W5.cell? ⟨s10, 0, none⟩ = some (.int .u32 0) := HY5.out.1.1
      have y1 : W5.cell? ⟨s10, 1, none⟩ = some (.int .u16 0) := HY5.out.1.2.1
      have y2 : W5.cell? ⟨s10, 2, none⟩ = some (.int .u32 0) := HY5.out.1.2.2.1
      have y3 : W5.cell? ⟨s10, 3, none⟩ = some (.int .u16 0) := HY5.out.1.2.2.2.1
      have y4 : W5.cell? ⟨s10, 4, none⟩ = some (.string ⟨#[]⟩) := HY5.out.1.2.2.2.2
      have H20 : Hid (∀ W, Below W5.heap.size W5 W → Calls Try.prog 20 #[.pointer p, .agg #[.int .u32 d.h1, .int .u16 d.p1, .int .u32 d.h2, .int .u16 d.p2, .string d.s]] W fun e w' => e = .returned (.int .i64 1) ∧ Below W5.heap.size W5 w') := fun W hb =>
        (bput_nobody p d W (nobag_below HN5.out hb)).mono (fun e w' h => ⟨h.1, hb.trans (h.2.mono hb.size)⟩)
      have H23 : Hid (∀ W, Below W5.heap.size W5 W → Calls Try.prog 23 #[.pointer p, .int .i64 i] W fun e w' => e = .returned (.int .i64 1) ∧ W = w') := fun W hb => bdouble_nobody p i W (nobag_below HN5.out hb)
      have H24 : Hid (∀ W, Below W5.heap.size W5 W → Calls Try.prog 24 #[.pointer p] W fun e w' => e = .returned (.int .i64 0) ∧ W = w') := fun W hb => blen_nobody p W (nobag_below HN5.out hb)
      have H26 : Hid (∀ W, Below W5.heap.size W5 W → Calls Try.prog 26 #[.pointer p] W fun e w' => e = .returned (.int .i64 0) ∧ W = w') := fun W hb => blost_nobody p W (nobag_below HN5.out hb)
      have H27 : Hid (∀ W, Below W5.heap.size W5 W → Calls Try.prog 27 #[.pointer p, .agg #[.int .u32 d.h2, .int .u16 d.p2]] W fun e w' => e = .returned (.slice none 0 0) ∧ Below W5.heap.size W5 w') := fun W hb =>
        (bto_nobody p d.h2 d.p2 W (nobag_below HN5.out hb)).mono (fun e w' h => ⟨h.1, hb.trans (h.2.mono hb.size)⟩)
      go_region_held3 (fun w' => w'.cell? ⟨sd, 0, none⟩ = some (.int .u32 d.h1) ∧ w'.cell? ⟨sd, 1, none⟩ = some (.int .u16 d.p1) ∧ w'.cell? ⟨sd, 2, none⟩ = some (.int .u32 d.h2) ∧ w'.cell? ⟨sd, 3, none⟩ = some (.int .u16 d.p2) ∧ w'.cell? ⟨sd, 4, none⟩ = some (.string d.s) ∧ w'.cell? ⟨s8, 0, none⟩ = some (.int .u32 0) ∧ w'.cell? ⟨s8, 1, none⟩ = some (.int .u16 0) ∧ w'.cell? ⟨s8, 2, none⟩ = some (.int .u32 0) ∧ w'.cell? ⟨s8, 3, none⟩ = some (.int .u16 0) ∧ w'.cell? ⟨s8, 4, none⟩ = some (.string ⟨#[]⟩) ∧ w'.cell? ⟨s10, 0, none⟩ = some (.int .u32 0) ∧ w'.cell? ⟨s10, 1, none⟩ = some (.int .u16 0) ∧ w'.cell? ⟨s10, 2, none⟩ = some (.int .u32 0) ∧ w'.cell? ⟨s10, 3, none⟩ = some (.int .u16 0) ∧ w'.cell? ⟨s10, 4, none⟩ = some (.string ⟨#[]⟩) ∧ Below W5.heap.size W5 w')
        (first | (refine ⟨?_, ?_, ?_, ?_, ?_, ?_, ?_, ?_, ?_, ?_, ?_, ?_, ?_, ?_, ?_, ?_⟩ <;> first | with_reducible assumption | exact (Below.refl _ _).drew | exact cell_below hb9 (by with_reducible assumption) | exact cell_below (Below.refl _ _).drew (by with_reducible assumption) | go_keep) | with_reducible assumption | exact (Below.refl _ _).drew | go_keep)
        (first
          | (go_at_call 20; refine (H20.out _ (by first | with_reducible assumption | exact (Below.refl _ _).drew)).mono ?_; rintro e w6 ⟨rfl, hb9⟩)
          | (go_at_call 23; refine (H23.out _ (by first | with_reducible assumption | exact (Below.refl _ _).drew)).mono ?_; rintro e w6 ⟨rfl, rfl⟩)
          | (go_at_call 24; refine (H24.out _ (by first | with_reducible assumption | exact (Below.refl _ _).drew)).mono ?_; rintro e w6 ⟨rfl, rfl⟩)
          | (go_at_call 26; refine (H26.out _ (by first | with_reducible assumption | exact (Below.refl _ _).drew)).mono ?_; rintro e w6 ⟨rfl, rfl⟩)
          | (go_at_call 27; refine (H27.out _ (by first | with_reducible assumption | exact (Below.refl _ _).drew)).mono ?_; rintro e w6 ⟨rfl, hb9⟩))
      have hb10 := HBR.out.trans ((HB5.out.trans (hb9.mono HB5.out.size)).mono HBR.out.size)
      go_wp2
      go_roundw
      case rel => exact ⟨k + 1, by omega, by go_num, hb10⟩
      case measure => simp [intOf]; omega
    · have HLV := Lib.hid (bag_lives wr)
      go_wp2_with (go_at_call 18; refine HLV.out.mono ?_; rintro e w3 ⟨rfl, hb3⟩)
      go_ret
      have hsz := HSZ.out
      exact ⟨rfl, by rw [HSE.out]; exact (HW0.out.trans (HBR.out.mono hsz)).trans (hb3.mono (Nat.le_trans hsz HBR.out.size))⟩

set_option maxRecDepth 100000 in
theorem lifted (os : Os) (started : os.Started) (H : Type) (enc : TypeId × Value → H) :
    ReturnsInHanded {} Try.checked os 6 .any (Rows.bagNobodySpec.pre6 enc Try.prog Try.f6 Rows.bagNobodyRow.domain false) (Rows.bagNobodySpec.post enc Try.prog Try.f6 false true false false) := by
  refine returnsInHanded_of_change (C := Try.checked) own started (by kernel_rfl) Try.func6
    (ChangeSpec.witness6 (enc := enc) (C := Try.checked) false ⟨#[], #[.agg #[.int .u32 0, .int .u16 0, .int .u32 0, .int .u16 0, .string ByteArray.empty], .int .i64 0], []⟩ 8 (by kernel_rfl) (by kernel_rfl) (by kernel_rfl) (by kernel_rfl)) ?_
  intro W base args ds gs before hval0 hW hcnd _
  have hval : ∀ (j : Nat) t v, Try.f6.params[j]? = some t → args[j]? = some v → Value.okWide Try.prog W .any base t v := hval0
  have hW' := hW
  obtain ⟨p, q, hA0, hV, rfl, hfz, hnd⟩ := hW
  have hA : DataW.TrodAll enc Try.prog W 0 (fun _ => true) true Try.f6.params.toList args.toList ds p := hA0
  rw [Try.params6] at hA hval
  obtain ⟨v0, vs0, d0, ds0, p0, q0, hargs, rfl, rfl, h0, r0⟩ := trodAll_cons hA
  obtain ⟨v1, vs1, d1, ds1, p1, q1, rfl, rfl, rfl, h1, r1⟩ := trodAll_cons r0
  obtain ⟨rfl, rfl, rfl⟩ := trodAll_nil r1
  obtain rfl : args = #[v0, v1] := by cases args; simp_all
  obtain ⟨rfl, rfl⟩ := trodVars_none hV
  have k0 := h0
  have lt0 : ∀ x ∈ p0, x.block < W.heap.size := by obtain ⟨m, hm⟩ := k0; exact DataW.trod_lt m _ _ _ hm
  have k1 := h1
  have lt1 : ∀ x ∈ p1, x.block < W.heap.size := by obtain ⟨m, hm⟩ := k1; exact DataW.trod_lt m _ _ _ hm
  obtain ⟨a0, rfl, wa0⟩ := open_dg (hval 0 49 v0 rfl rfl) h0
  obtain ⟨a1, rfl, rfl, rfl, w1⟩ := open_int Try.underlying3 (hval 1 3 v1 rfl rfl) h1
  clear hA0 hval0
  refine (walk a0 a1 W).mono fun e W' ⟨he, bel⟩ => ?_
  subst he
  exact ⟨_, rfl, _, _, _, [], _, [], hW', trodAll_mk1 (shut_bool Try.underlying4 _), (trodAll_cons_mk (Below.trod laidOut (by kernel_rfl) (of_decide_eq_true (by kernel_rfl)) k0 bel lt0) (trodAll_cons_mk (Below.trod laidOut (by kernel_rfl) (of_decide_eq_true (by kernel_rfl)) k1 bel lt1) trodAll_mk0)), rfl, bel.frame _, fun h => by cases h⟩

theorem over : Rows.bagNobodyRow.holds Try.pinned (OpenSpec.ofChange Rows.bagNobodySpec) :=
  OpenClaim.holds_of_wide 6 Try.f6 rfl rfl rfl rfl rfl rfl rfl ⟨rfl, rfl, rfl, rfl, rfl⟩ rfl rfl rfl rfl rfl (by kernel_rfl) Try.func6 (by kernel_rfl)
    (of_decide_eq_true (by kernel_rfl)) (by unfold Func.isWrapper; first | (rw [if_pos (by decide +kernel)]; kernel_rfl) | (rw [if_neg (by decide +kernel)]; exact ⟨rfl, rfl⟩))
    (fun os started H enc _ => lifted os started H enc)

/-- THE STATEMENT. -/
theorem proved : Rows.BagNobodySaid := over
#print axioms proved
end Go.Proofs.Ytfphpbhopfhlcaa.bagNobody
