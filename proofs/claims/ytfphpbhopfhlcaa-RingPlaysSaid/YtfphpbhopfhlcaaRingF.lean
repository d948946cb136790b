/-
  ring of ints: 'New' and 'Fill', and the chapter's example.
-/
import Derived.Test.YtfphpbhopfhlcaaRingQ
namespace Go.Proofs.Ytfphpbhopfhlcaa
open Go.RowKit
set_option linter.unusedVariables false
set_option linter.unusedSimpArgs false
theorem rnew_yes (X : Nat → Prop) (most : Nat) (w : World) (h1 : 1 ≤ most) (h2 : most ≤ 65536) (hX : ∀ k, X k → k < w.heap.size) :
    Calls Try.prog 8 #[.int .i64 most] w fun e w' => e = .returned (.pointer (some ⟨w.heap.size, 0, none⟩)) ∧ Ring X w' w.heap.size most [] ∧ Below w.heap.size w w' := by
  have hm1 : ¬ ((most : Int) < 1) := by omega
  have hm2 : ¬ (65536 < (most : Int)) := by omega
  go_enter Try.func8, Try.ntmps8
  go_wp2
  go_ret
  refine ⟨rfl, ⟨h1, h2, fun hx => by have := hX _ hx; omega, 0, _, [], ⟨?_, ?_, ?_, ?_, ?_, ?_, ?_⟩, .inl ⟨rfl, rfl⟩, ⟨by simp, by simp, by simp, by simp, by simp⟩⟩, (Below.refl _ _).alloc (Nat.le_refl _) _⟩ <;> simp
theorem rnew_no (most : Int) (w : World) (h : most < 1 ∨ 65536 < most) :
    Calls Try.prog 8 #[.int .i64 most] w fun e w' => e = .returned (.pointer none) ∧ w = w' := by
  by_cases h1 : most < 1
  · clear h
    go_enter Try.func8, Try.ntmps8
    go_wp2
    go_ret
    exact ⟨rfl, rfl⟩
  · have h2 : 65536 < most := by omega
    clear h
    go_enter Try.func8, Try.ntmps8
    go_wp2
    go_ret
    exact ⟨rfl, rfl⟩
theorem ring_widen {X Y : Nat → Prop} {w w' : World} {g most : Nat} {L : List Int} (h : Ring X w g most L) (hb : Below w.heap.size w w') (hY : ∀ k, Y k → X k ∨ w.heap.size ≤ k) : Ring Y w' g most L := by
  have h' := ring_below h hb
  obtain ⟨m1, m2, hx, f, v, Z, hc, hr, hl⟩ := h
  have hg := ringC_lt hc
  refine ⟨m1, m2, fun hy => ?_, f, v, Z, ringC_block hc (hb.block g hg), ?_, hl⟩
  · rcases hY g hy with h | h
    · exact hx h
    · omega
  · rcases hr with h | ⟨b, hv, hb2, hne, hz, hh⟩
    · exact .inl h
    · have hlt := heap_lt hh
      refine .inr ⟨b, hv, fun hy => ?_, hne, hz, (hb.block b hlt).trans hh⟩
      rcases hY b hy with h | h
      · exact hb2 h
      · omega
theorem ring_narrow {X Y : Nat → Prop} {w : World} {g most : Nat} {L : List Int} (h : Ring Y w g most L) (hX : ∀ k, X k → Y k) : Ring X w g most L := by
  obtain ⟨m1, m2, hx, f, v, Z, hc, hr, hl⟩ := h
  refine ⟨m1, m2, fun hy => hx (hX _ hy), f, v, Z, hc, ?_, hl⟩
  rcases hr with h | ⟨b, hv, hb2, hne, hz, hh⟩
  · exact .inl h
  · exact .inr ⟨b, hv, fun hy => hb2 (hX _ hy), hne, hz, hh⟩
theorem rfill1 (X : Nat → Prop) (g most c : Nat) (L : List Int) (x : Int) (w : World) (h : Ring X w g most L) (hX : ∀ k, X k → k < w.heap.size) (hc : w.cell? ⟨c, 0, none⟩ = some (.pointer (some ⟨g, 0, none⟩))) :
    Calls Try.prog 33 #[.int .i64 x, .pointer (some ⟨c, 0, none⟩)] w fun e w' => e = .returned (.bool (decide (L.length < most))) ∧ Ring X w' g most (pushL most L x) ∧ Kept X w w' := by
  have HP := rpush_any X g most L x w h hX
  by_cases hl : L.length < most
  · have e1 : pushE most L = 0 := if_pos hl
    rw [e1] at HP
    have H := Lib.hid HP
    have hd : decide (L.length < most) = true := decide_eq_true hl
    rw [hd]
    clear h HP hl hd e1
    generalize pushL most L x = l at *
    go_enter Try.func33, Try.ntmps33
    go_wp2_with (go_at_call 9; refine H.out.mono ?_; rintro e w1 ⟨rfl, hr, hk⟩)
    go_ret
    exact ⟨rfl, hr, hk⟩
  · have e1 : pushE most L = 31 := if_neg hl
    rw [e1] at HP
    have H := Lib.hid HP
    have hd : decide (L.length < most) = false := decide_eq_false hl
    rw [hd]
    clear h HP hl hd e1
    generalize pushL most L x = l at *
    go_enter Try.func33, Try.ntmps33
    go_wp2_with (go_at_call 9; refine H.out.mono ?_; rintro e w1 ⟨rfl, hr, hk⟩)
    go_ret
    exact ⟨rfl, hr, hk⟩
/-- How many go in. -/
def fillN (most : Nat) (L l : List Int) : Nat := if most - L.length ≤ l.length then most - L.length else l.length
def fillL (most : Nat) (L l : List Int) : List Int := L ++ l.take (fillN most L l)
def ReadsI (w : World) (A : Option Addr) (l : List Int) : Prop := 0 < l.length → ∃ ad, A = some ad ∧ ∀ j, j < l.length → w.cell? (ad.add j) = some (.int .i64 (l.getD j 0))
theorem add_block (a : Addr) (j : Nat) : (a.add j).block = a.block := by unfold Addr.add; split <;> rfl
theorem readsI_kept {X : Nat → Prop} {w w' : World} {A : Option Addr} {l : List Int} (h : ReadsI w A l) (hk : Kept X w w') (hA : ∀ ad, A = some ad → 0 < l.length → X ad.block) : ReadsI w' A l := fun hn => by
  obtain ⟨ad, e, hc⟩ := h hn
  refine ⟨ad, e, fun j hj => ?_⟩
  have hv := hc j hj
  have hlt := World.block_lt_of_cell? _ _ hv
  exact (World.cell?_of_block (hk.block _ (by rw [add_block]; exact hA ad e hn) hlt)).trans hv
theorem kept_cell {X : Nat → Prop} {w w' : World} {p : Addr} {v : Value} (hk : Kept X w w') (hx : X p.block) (h : w.cell? p = some v) : w'.cell? p = some v :=
  (World.cell?_of_block (hk.block _ hx (World.block_lt_of_cell? _ _ h))).trans h
theorem fill_snoc (most : Nat) (L l : List Int) (k : Nat) (hk : k < l.length) (hm : L.length + k < most) : pushL most (L ++ l.take k) (l.getD k 0) = L ++ l.take (k + 1) := by
  have : (L ++ l.take k).length < most := by simp; omega
  rw [pushL, if_pos this, List.take_add_one, List.append_assoc]
  simp [List.getD, hk]
theorem rfill_any (X : Nat → Prop) (g most cap : Nat) (L l : List Int) (A : Option Addr) (w : World) (h : Ring X w g most L) (hX : ∀ k, X k → k < w.heap.size) (hR : ReadsI w A l) (hA : ∀ ad, A = some ad → 0 < l.length → X ad.block) (hlen : l.length ≤ 1000000) :
    Calls Try.prog 15 #[.pointer (some ⟨g, 0, none⟩), .slice A l.length cap] w fun e w' => e = .returned (.int .i64 (fillN most L l)) ∧ Ring X w' g most (fillL most L l) ∧ Kept X w w' := by
  have HR := Lib.hid hR
  have HH := Lib.hid h
  have HX := Lib.hid hX
  have HA := Lib.hid hA
  clear hR h hX hA
  go_enter Try.func15, Try.ntmps15
  go_wp2
  have hR2 : ReadsI (w.alloc (Obj.cells #[Value.pointer (some { block := g, off := 0 })] 24)) A l := readsI_kept (X := X) HR.out (Kept.of_below ((Below.refl _ w).alloc (Nat.le_refl _) _)) HA.out
  have HR2 := Lib.hid hR2
  have hbox : (w.alloc (Obj.cells #[Value.pointer (some { block := g, off := 0 })] 24)).cell? ⟨w.heap.size, 0, none⟩ = some (.pointer (some ⟨g, 0, none⟩)) := by simp
  have hring : Ring (fun k => X k ∨ k = w.heap.size) (w.alloc (Obj.cells #[Value.pointer (some { block := g, off := 0 })] 24)) g most L :=
    ring_widen HH.out ((Below.refl _ w).alloc (Nat.le_refl _) _) (fun k hk => hk.elim .inl (fun e => .inr (by omega)))
  have hkw : Kept X w (w.alloc (Obj.cells #[Value.pointer (some { block := g, off := 0 })] 24)) := Kept.of_below ((Below.refl _ w).alloc (Nat.le_refl _) _)
  have hsz : (w.alloc (Obj.cells #[Value.pointer (some { block := g, off := 0 })] 24)).heap.size = w.heap.size + 1 := by simp
  have HBOX := Lib.hid hbox
  have HRING := Lib.hid hring
  have HKW := Lib.hid hkw
  have hmost := (ring_len hring)
  clear hbox hR2 hring hkw
  generalize w.alloc (Obj.cells #[Value.pointer (some { block := g, off := 0 })] 24) = w0 at *
  have HLN : Hid (∃ n, n = l.length) := ⟨_, rfl⟩
  go_loopw [6, 12] (fun n i wr => ∃ k : Nat, k ≤ l.length ∧ L.length + k ≤ most ∧ n = .int .i64 k ∧ i = .int .i64 k ∧ Ring (fun k => X k ∨ k = w.heap.size) wr g most (L ++ l.take k) ∧ Kept (fun k => X k ∨ k = w.heap.size) w0 wr) (fun _ i _ => l.length - (intOf i).toNat)
  case atStart => exact ⟨0, by omega, by omega, rfl, rfl, by simpa using HRING.out, Kept.refl _ _⟩
  case round =>
    obtain ⟨k, hk, hkm, rfl, rfl, hrr, hkr⟩ := hrel
    have hkx : Kept X w wr := HKW.out.trans (hkr.mono (fun k h => .inl h))
    by_cases hlt : k < l.length
    · obtain ⟨ad, rfl, hcells⟩ := HR2.out (by omega)
      have hcell : wr.cell? (ad.add k) = some (.int .i64 (l.getD k 0)) := kept_cell hkr (.inl (by rw [add_block]; exact HA.out ad rfl (by omega))) (hcells k hlt)
      have hbox2 := kept_cell hkr (p := ⟨w.heap.size, 0, none⟩) (.inr rfl) HBOX.out
      have hF := rfill1 _ g most w.heap.size (L ++ l.take k) (l.getD k 0) wr hrr (fun k hk2 => by have h1 := hkr.size; exact hk2.elim (fun h => by have := HX.out k h; omega) (fun h => by omega)) hbox2
      have hll : (L ++ l.take k).length = L.length + k := by simp; omega
      rw [hll] at hF
      have HKX := Lib.hid hkx
      have HKR := Lib.hid hkr
      by_cases hm : L.length + k < most
      · rw [decide_eq_true hm, fill_snoc most L l k hlt hm] at hF
        have HF := Lib.hid hF
        clear hF hrr hkr hkx hcells hll hbox2
        generalize l.getD k 0 = x at *
        generalize hln : l.length = ln at *
        go_wp2_with (go_at_call 33; refine HF.out.mono ?_; rintro e w1 ⟨rfl, hr1, hk1⟩)
        go_roundw
        case rel => exact ⟨k + 1, by omega, by omega, by go_num, by go_num, hr1, HKR.out.trans hk1⟩
        case measure => simp [intOf]; omega
      · rw [decide_eq_false hm] at hF
        have hfn : fillN most L l = k := by unfold fillN; split <;> omega
        have hpl : pushL most (L ++ l.take k) (l.getD k 0) = fillL most L l := by rw [pushL, if_neg (by omega), fillL, hfn]
        rw [hpl] at hF
        have HFN := Lib.hid hfn
        have HF := Lib.hid hF
        clear hF hrr hkr hkx hcells hll hbox2 hfn hpl
        generalize l.getD k 0 = x at *
        generalize hln : l.length = ln at *
        go_wp2_with (go_at_call 33; refine HF.out.mono ?_; rintro e w1 ⟨rfl, hr1, hk1⟩)
        go_ret
        exact ⟨ret_int (by rw [HFN.out]), ring_narrow hr1 (fun k h => .inl h), HKX.out.trans (hk1.mono (fun k h => .inl h))⟩
    · obtain rfl : k = l.length := by omega
      have hfn : fillN most L l = l.length := by unfold fillN; split <;> omega
      have hfl : fillL most L l = L ++ l := by rw [fillL, hfn, List.take_length]
      rw [List.take_length, ← hfl] at hrr
      have HFN := Lib.hid hfn
      have HRR := Lib.hid hrr
      have HKX := Lib.hid hkx
      clear hrr hkx hfn hfl hkr
      generalize hln : l.length = ln at *
      go_wp2
      go_ret
      exact ⟨ret_int (by rw [HFN.out]), ring_narrow HRR.out (fun k h => .inl h), HKX.out⟩
end Go.Proofs.Ytfphpbhopfhlcaa
