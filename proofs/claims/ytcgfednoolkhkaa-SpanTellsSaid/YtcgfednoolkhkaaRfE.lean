/-
  The document's Low, High, Draw.
-/
import Derived.Test.YtcgfednoolkhkaaRfL
namespace Go.Proofs.Ytcgfednoolkhkaa
open Go.RowKit
set_option linter.unusedVariables false
set_option linter.unusedSimpArgs false
set_option maxRecDepth 20000
theorem laid_congr {o : List Nat} (ho : Id o) (i : Int) (f g : Nat → Int) (h : ∀ j, j < 160 → b01 (f j) = b01 (g j)) : laidL o i f = laidL o i g := by
  by_cases hi : 0 ≤ i ∧ i < 160
  · obtain ⟨k, rfl⟩ := Int.eq_ofNat_of_zero_le hi.1
    have hk : k < 160 := by omega
    refine id_ext _ _ (id_laid ho _ _) (id_laid ho _ _) fun j hj => ?_
    rw [bit_laid ho k hk f j hj, bit_laid ho k hk g j hj, h j hj]
  · rw [laidL, laidL, if_neg hi, if_neg hi]
theorem bit_zero20 (j : Nat) : bit zero20 j = 0 := by
  unfold bit zero20
  have : (List.replicate 20 0).getD (j / 8) 0 = 0 := by
    rw [List.getD_eq_getElem?_getD, List.getElem?_replicate]
    split <;> rfl
  rw [this]; simp
def full20 : List Nat := List.replicate 20 255
theorem id_full : Id full20 := ⟨rfl, fun b h => by have := List.eq_of_mem_replicate h; omega⟩
theorem bit_full20 : ∀ j, j < 160 → bit full20 j = 1 := by decide +kernel
theorem low_laid {o : List Nat} (ho : Id o) (i : Int) : laidL o i (fun k => (bit zero20 k : Nat)) = laidL o i (fun _ => 0) := laid_congr ho i _ _ (fun j _ => by rw [bit_zero20]; rfl)
theorem high_laid {o : List Nat} (ho : Id o) (i : Int) : laidL o i (fun k => (bit full20 k : Nat)) = laidL o i (fun _ => 1) := laid_congr ho i _ _ (fun j hj => by rw [bit_full20 j hj]; rfl)
theorem flow (o : List Nat) (i : Int) (w : World) (ho : Id o) :
    Calls Try.prog 34 #[idv o, .int .i64 i] w fun e w' => e = .returned (.tuple #[idv (laidL o i fun _ => 0), .bool (laidB i)]) ∧ Below w.heap.size w w' := by
  obtain ⟨hA2, hB2, hb2⟩ := r3_new w o
  have XA := Lib.hid hA2
  have XB := Lib.hid hB2
  have XW := Lib.hid hb2
  have HC := Lib.hid (flaid o zero20 i ((w.alloc (.cells (idc o).toArray 56)).alloc Z56) ho id_zero)
  rw [low_laid ho] at HC
  have ho20 := ho.1
  have hl20 := (id_laid ho i (fun _ => 0)).1
  generalize laidL o i (fun _ => 0) = L at *
  generalize laidB i = B at *
  clear hA2 hB2 hb2 ho
  unfold idv at *
  generalize hCa : (idc o).toArray = Ca at *
  go_enter Try.func34, Try.ntmps34
  go_upto_region 1 with fail
  obtain ⟨W2, hW2⟩ : ∃ W2, W2 = (w.alloc (.cells Ca 56)).alloc Z56 := ⟨_, rfl⟩
  rw [← hW2] at XA XB XW HC ⊢
  clear hW2
  go_wp2_with (first
    | (refine wl_loadr rfl (.tmp 2) rfl w.heap.size rfl o XA.out ho20 ?_)
    | (go_at_call 51; unfold idv; rw [hCa]; refine HC.out.mono ?_; rintro e w1 ⟨rfl, hb1⟩)
    | (refine wpList_store_r rfl (.tmp 4) (.tmp 10) rfl (w.heap.size + 1) rfl zero20 L rfl (idR_below XB.out hb1) rfl hl20 ?_; intro w5 hA5 hg5))
  refine bodyPost_ret (v := .tuple #[idv L, .bool B]) ((results_r2 (u := 4) (v := 5) rfl _ w5 (w.heap.size + 1) _ rfl hA5 hl20).trans rfl) rfl ?_
  have hw1 := XW.out.trans (hb1.mono XW.out.size)
  exact ⟨rfl, hw1.grown hg5 hw1.size (fun k e => by cases e; omega)⟩
theorem r4_new (w : World) (o : List Nat) : LayR w o zero20 (((w.alloc (.cells (idc o).toArray 56)).alloc Z56).alloc Z56) := layR_new w o zero20
def fullK (k : Nat) : List Nat := List.replicate k 255 ++ List.replicate (20 - k) 0
theorem full_step (k : Nat) (hk : k < 20) : (fullK k).set k 255 = fullK (k + 1) := by
  have : ∀ k, k < 20 → (fullK k).set k 255 = fullK (k + 1) := by decide +kernel
  exact this k hk
theorem full_len (k : Nat) (hk : k ≤ 20) : (fullK k).length = 20 := by simp [fullK]; omega
/-- The state of High: the owner, what is told back, the id. -/
structure HiR (w : World) (o c : List Nat) (w' : World) : Prop where
  own : IdR w' w.heap.size o
  res : IdR w' (w.heap.size + 1) zero20
  cur : IdR w' (w.heap.size + 1 + 1) c
  low : Below w.heap.size w w'
theorem fhigh (o : List Nat) (i : Int) (w : World) (ho : Id o) :
    Calls Try.prog 35 #[idv o, .int .i64 i] w fun e w' => e = .returned (.tuple #[idv (laidL o i fun _ => 1), .bool (laidB i)]) ∧ Below w.heap.size w w' := by
  have h4 := r4_new w o
  have HL : Hid (HiR w o (fullK 0) (((w.alloc (.cells (idc o).toArray 56)).alloc Z56).alloc Z56)) := Lib.hid ⟨h4.own, h4.cur, h4.res, h4.low⟩
  have HC : Hid (∀ W, Calls Try.prog 51 #[idv o, .int .i64 i, idv full20] W fun e w' => e = .returned (.tuple #[idv (laidL o i fun _ => 1), .bool (laidB i)]) ∧ Below W.heap.size W w') := fun W => by
    have := flaid o full20 i W ho id_full
    rwa [high_laid ho] at this
  have ho20 := ho.1
  have hl20 := (id_laid ho i (fun _ => 1)).1
  have hf20 : full20.length = 20 := rfl
  generalize laidL o i (fun _ => 1) = L at *
  generalize laidB i = B at *
  clear h4 ho
  unfold idv at HC ⊢
  generalize hCa : (idc o).toArray = Ca at *
  go_enter Try.func35, Try.ntmps35
  go_upto_region 2 with fail
  obtain ⟨W3, hW3⟩ : ∃ W3, W3 = ((w.alloc (.cells Ca 56)).alloc Z56).alloc Z56 := ⟨_, rfl⟩
  rw [← hW3] at HL ⊢
  clear hW3
  go_wp2_with fail
  go_loopw [7] (fun x wr => ∃ k : Nat, k ≤ 20 ∧ x = .int .i64 k ∧ HiR w o (fullK k) wr) (fun x _ => 20 - (intOf x).toNat)
  case atStart => exact ⟨0, by omega, rfl, HL.out⟩
  case round =>
    clear HL
    obtain ⟨k, hk, rfl, hl⟩ := hrel
    have HL := Lib.hid hl
    clear hl
    by_cases hlt : k < 20
    · have hlt2 : (k : Int) < 20 := by omega
      have hk0 : (0 : Int) ≤ (k : Int) := by omega
      obtain ⟨hc1, hc2⟩ := idR_cell HL.out.cur k (by rw [full_len k (by omega)]; exact hlt)
      have HS : Hid (HiR w o (fullK (k + 1)) (wr.setCell ⟨w.heap.size + 1 + 1, k, none⟩ (.int .u8 255))) := by
        refine ⟨(Below.heap_setCell _ _ _ _ (by simp; omega)).trans HL.out.own, (Below.heap_setCell _ _ _ _ (by simp)).trans HL.out.res, ?_, HL.out.low.setCell (p := ⟨w.heap.size + 1 + 1, k, none⟩) (by simp; omega) _⟩
        have := idR_set (k := k) (y := 255) HL.out.cur
        rw [full_step k hlt] at this
        exact this
      generalize (fullK k).getD k 0 = x0 at *
      go_wp2_with fail
      go_roundw
      case rel => exact ⟨k + 1, by omega, by go_num, HS.out⟩
      case measure => simp [intOf]; omega
    · obtain rfl : k = 20 := by omega
      have e : fullK 20 = full20 := rfl
      rw [e] at HL
      clear e
      go_wp2_with (first
        | (refine wl_loadr rfl (.tmp 2) rfl w.heap.size rfl o HL.out.own ho20 ?_)
        | (refine wl_loadr rfl (.tmp 6) rfl (w.heap.size + 1 + 1) rfl full20 HL.out.cur hf20 ?_)
        | (go_at_call 51; unfold idv; rw [hCa]; refine (HC.out _).mono ?_; rintro e w1 ⟨rfl, hb1⟩)
        | (refine wpList_store_r rfl (.tmp 4) (.tmp 18) rfl (w.heap.size + 1) rfl zero20 L rfl (idR_below HL.out.res hb1) rfl hl20 ?_; intro w5 hA5 hg5))
      refine bodyPost_ret (v := .tuple #[idv L, .bool B]) ((results_r2 (u := 4) (v := 5) rfl _ w5 (w.heap.size + 1) _ rfl hA5 hl20).trans rfl) rfl ?_
      have hw1 := HL.out.low.trans (hb1.mono HL.out.low.size)
      exact ⟨rfl, hw1.grown hg5 hw1.size (fun k e => by cases e; omega)⟩
theorem fdraw (o s : List Nat) (i : Int) (a : Option Addr) (c : Nat) (w : World) (ho : Id o) (hs : Seed w a s) :
    Calls Try.prog 36 #[idv o, .int .i64 i, .slice a s.length c] w fun e w' => e = .returned (.tuple #[idv (laidL o i fun k => (bit (fromL s) k : Nat)), .bool (laidB i)]) ∧ Below w.heap.size w w' := by
  have h4 := r4_new w o
  have X3 : Hid (HiR w o zero20 (((w.alloc (.cells (idc o).toArray 56)).alloc Z56).alloc Z56)) := Lib.hid ⟨h4.own, h4.cur, h4.res, h4.low⟩
  have XS := Lib.hid (seed_below hs h4.low)
  have HFR := Lib.hid (id_from hs.1)
  have HO := Lib.hid ho
  have ho20 := ho.1
  have HC : Hid (∀ W, Calls Try.prog 51 #[.agg (idc o).toArray, .int .i64 i, .agg (idc (fromL s)).toArray] W fun e w' => e = .returned (.tuple #[idv (laidL o i fun k => (bit (fromL s) k : Nat)), .bool (laidB i)]) ∧ Below W.heap.size W w') :=
    fun W => flaid o (fromL s) i W HO.out HFR.out
  have hl20 := (id_laid HO.out i (fun k => (bit (fromL s) k : Nat))).1
  generalize hL : laidL o i (fun k => (bit (fromL s) k : Nat)) = L at *
  generalize hB : laidB i = B at *
  clear h4 ho hs
  unfold idv
  generalize hCa : (idc o).toArray = Ca at *
  go_enter Try.func36, Try.ntmps36
  go_upto_region 2 with fail
  obtain ⟨W3, hW3⟩ : ∃ W3, W3 = ((w.alloc (.cells Ca 56)).alloc Z56).alloc Z56 := ⟨_, rfl⟩
  rw [← hW3] at X3 XS ⊢
  clear hW3
  go_wp2_with (first
    | (refine wpList_copy_splice rfl (.tmp 9) (.tmp 10) 42 42 rfl _ Try.underlying42 (by kernel_rfl) (some ⟨w.heap.size + 1 + 1, 0, none⟩) a 20 20 s.length c rfl rfl (w.heap.size + 1 + 1) 0 (idc zero20) 56 X3.out.cur (idc (s.take 20))
        (by simp [idc, Nat.min_comm]) (fun hp => ⟨rfl, by
          obtain ⟨ad, ha, hc⟩ := XS.out.2 (by rintro rfl; simp [idc] at hp)
          refine ⟨ad, ha, fun j v hv => ?_⟩
          simp only [idc, List.getElem?_map, List.getElem?_take] at hv
          split at hv
          · cases hx : s[j]? with
            | none => simp [hx] at hv
            | some x => simp [hx] at hv; rw [← hv]; exact hc j x hx
          · simp at hv⟩) (by simp [idc, zero20]; omega) (by intro v hv; obtain ⟨x, _, rfl⟩ := List.mem_map.1 hv; rfl) (w.heap.size + 1 + 1) W3 (Below.refl _ _) (Nat.le_refl _) ?_
       intro w4 hg4 hb4
       rw [from_splice] at hg4)
    | (refine wl_loadr rfl (.tmp 3) rfl w.heap.size rfl o ((hb4.block _ (by omega)).trans X3.out.own) ho20 ?_)
    | (refine wl_loadr rfl (.tmp 8) rfl (w.heap.size + 1 + 1) rfl (fromL s) hg4 HFR.out.1 ?_)
    | (go_at_call 51; unfold idv; rw [hCa]; refine (HC.out _).mono ?_; rintro e w1 ⟨rfl, hb1⟩)
    | (refine wpList_store_r rfl (.tmp 6) (.tmp 16) rfl (w.heap.size + 1) rfl zero20 L rfl (idR_below ((hb4.block _ (by omega)).trans X3.out.res) hb1) rfl hl20 ?_; intro w5 hA5 hg5))
  refine bodyPost_ret (v := .tuple #[idv L, .bool B]) ((results_r2 (u := 6) (v := 7) rfl _ w5 (w.heap.size + 1) _ rfl hA5 hl20).trans rfl) rfl ?_
  have hw4 := X3.out.low.trans (hb4.mono (by omega))
  have hw1 := hw4.trans (hb1.mono hw4.size)
  exact ⟨rfl, hw1.grown hg5 hw1.size (fun k e => by cases e; omega)⟩
end Go.Proofs.Ytcgfednoolkhkaa
