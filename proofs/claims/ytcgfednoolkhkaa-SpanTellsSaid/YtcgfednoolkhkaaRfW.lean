/-
  The document's With.
-/
import Derived.Test.YtcgfednoolkhkaaRfB
namespace Go.Proofs.Ytcgfednoolkhkaa
open Go.RowKit
set_option linter.unusedVariables false
set_option linter.unusedSimpArgs false
set_option maxRecDepth 20000
def onN (b : Int) : Nat := if b = 0 then 0 else 1
theorem with_keep {l : List Nat} (h : Id l) (i : Nat) (b : Int) (hi : i < 160) (hv : bit l i = onN b) : withL l i b = l := by
  refine id_ext _ _ (id_with h i b) h fun j hj => ?_
  rw [bit_with h i j b hi hj]
  split
  · rename_i e
    rw [e, hv]; rfl
  · rfl
theorem xor_clr : ∀ x, x < 256 → ∀ s, s < 8 → x.testBit s = true → x ^^^ 2 ^ s = clr x s := by decide +kernel
theorem xor_set1 : ∀ x, x < 256 → ∀ s, s < 8 → x.testBit s = false → x ^^^ 2 ^ s = set1 x s := by decide +kernel
theorem with_turn {l : List Nat} (h : Id l) (i : Nat) (b : Int) (hi : i < 160) (hv : bit l i ≠ onN b) : withL l i b = l.set (i / 8) (l.getD (i / 8) 0 ^^^ 2 ^ sh i) := by
  have hx := id_lt h (i / 8)
  unfold withL withB
  unfold bit onN at hv
  congr 1
  by_cases hb : b = 0
  · rw [if_pos hb] at hv ⊢
    cases ht : (l.getD (i / 8) 0).testBit (sh i) with
    | true => exact (xor_clr _ hx _ (sh_lt i) ht).symm
    | false => rw [ht] at hv; simp at hv
  · rw [if_neg hb] at hv ⊢
    cases ht : (l.getD (i / 8) 0).testBit (sh i) with
    | true => rw [ht] at hv; simp at hv
    | false => exact (xor_set1 _ hx _ (sh_lt i) ht).symm
theorem r3_new (w : World) (l : List Nat) : IdR ((w.alloc (.cells (idc l).toArray 56)).alloc Z56) w.heap.size l ∧ IdR ((w.alloc (.cells (idc l).toArray 56)).alloc Z56) (w.heap.size + 1) zero20 ∧ Below w.heap.size w ((w.alloc (.cells (idc l).toArray 56)).alloc Z56) :=
  ⟨idR_below (idR_new w l) ((Below.refl _ _).alloc (Nat.le_refl _) _), by simpa using idR_zero (w.alloc (.cells (idc l).toArray 56)), ((Below.refl _ w).alloc (Nat.le_refl _) _).alloc (by simp) _⟩
theorem fwith_keep (l : List Nat) (i : Nat) (b : Int) (w : World) (h : Id l) (hi : i < 160) (hv : bit l i = onN b) :
    Calls Try.prog 58 #[idv l, .int .i64 i, .int .i64 b] w fun e w' => e = .returned (idv l) ∧ Below w.heap.size w w' := by
  obtain ⟨hA2, hB2, hb2⟩ := r3_new w l
  have XA := Lib.hid hA2
  have XB := Lib.hid hB2
  have XW := Lib.hid hb2
  have HC := Lib.hid (fun W => fbit l i W h hi)
  have hl20 := h.1
  rw [hv] at HC
  have h0 : (0 : Int) ≤ (i : Int) := by omega
  have h1 : (i : Int) < 160 := by omega
  have hd1 : decide ((i : Int) < 0) = false := decide_eq_false (by omega)
  have hd2 : decide ((160 : Int) ≤ (i : Int)) = false := decide_eq_false (by omega)
  clear hA2 hB2 hb2 h hi hv
  unfold idv
  generalize hCa : (idc l).toArray = Ca at *
  by_cases hb : b = 0
  · subst hb
    have e : onN 0 = 0 := rfl
    rw [e] at HC
    clear e
    go_enter Try.func58, Try.ntmps58
    go_upto_region 1 with fail
    obtain ⟨W2, hW2⟩ : ∃ W2, W2 = (w.alloc (.cells Ca 56)).alloc Z56 := ⟨_, rfl⟩
    rw [← hW2] at XA XB XW ⊢
    clear hW2
    go_wp2_with (first
      | (refine wl_loadr rfl (.tmp 3) rfl w.heap.size rfl l XA.out hl20 ?_)
      | (go_at_call 52; refine (HC.out _).mono ?_; rintro e w1 ⟨rfl, hb1⟩; replace XA := Lib.hid (idR_below XA.out hb1); replace XB := Lib.hid (idR_below XB.out hb1); replace XW := Lib.hid (XW.out.trans (hb1.mono XW.out.size)); clear hb1)
      | (refine wpList_store_r rfl (.tmp 6) (.tmp 23) rfl (w.heap.size + 1) rfl zero20 l rfl XB.out rfl hl20 ?_; intro w5 hA5 hg5))
    refine bodyPost_ret (v := idv l) ((results_r (u := 6) rfl _ w5 (w.heap.size + 1) _ rfl hA5 hl20).trans rfl) rfl ?_
    exact ⟨by unfold idv; rw [hCa], XW.out.grown hg5 XW.out.size (fun k e => by cases e; omega)⟩
  · have e : onN b = 1 := if_neg hb
    rw [e] at HC
    have hbb : (b == 0) = false := by simpa using hb
    clear e
    go_enter Try.func58, Try.ntmps58
    go_upto_region 1 with fail
    obtain ⟨W2, hW2⟩ : ∃ W2, W2 = (w.alloc (.cells Ca 56)).alloc Z56 := ⟨_, rfl⟩
    rw [← hW2] at XA XB XW ⊢
    clear hW2
    go_wp2_with (first
      | (refine wl_loadr rfl (.tmp 3) rfl w.heap.size rfl l XA.out hl20 ?_)
      | (go_at_call 52; refine (HC.out _).mono ?_; rintro e w1 ⟨rfl, hb1⟩; replace XA := Lib.hid (idR_below XA.out hb1); replace XB := Lib.hid (idR_below XB.out hb1); replace XW := Lib.hid (XW.out.trans (hb1.mono XW.out.size)); clear hb1)
      | (refine wpList_store_r rfl (.tmp 6) (.tmp 23) rfl (w.heap.size + 1) rfl zero20 l rfl XB.out rfl hl20 ?_; intro w5 hA5 hg5))
    refine bodyPost_ret (v := idv l) ((results_r (u := 6) rfl _ w5 (w.heap.size + 1) _ rfl hA5 hl20).trans rfl) rfl ?_
    exact ⟨by unfold idv; rw [hCa], XW.out.grown hg5 XW.out.size (fun k e => by cases e; omega)⟩
theorem fwith_turn (l : List Nat) (i : Nat) (b : Int) (w : World) (h : Id l) (hi : i < 160) (hv : bit l i ≠ onN b) :
    Calls Try.prog 58 #[idv l, .int .i64 i, .int .i64 b] w fun e w' => e = .returned (idv (l.set (i / 8) (l.getD (i / 8) 0 ^^^ 2 ^ sh i))) ∧ Below w.heap.size w w' := by
  obtain ⟨hA2, hB2, hb2⟩ := r3_new w l
  have XA := Lib.hid hA2
  have XB := Lib.hid hB2
  have XW := Lib.hid hb2
  have HC := Lib.hid (fun W => fbit l i W h hi)
  have hl20 := h.1
  have h0 : (0 : Int) ≤ (i : Int) := by omega
  have h1 : (i : Int) < 160 := by omega
  have hd1 : decide ((i : Int) < 0) = false := decide_eq_false (by omega)
  have hd2 : decide ((160 : Int) ≤ (i : Int)) = false := decide_eq_false (by omega)
  have hx := id_lt h (i / 8)
  have hq : (i : Int) / 8 = ((i / 8 : Nat) : Int) := by omega
  have hqd : Int.tdiv (i : Int) 8 = ((i / 8 : Nat) : Int) := by rw [Int.tdiv_eq_ediv_of_nonneg (by omega)]; simp
  have hq2 : ((i / 8 : Nat) : Int) < 20 := by omega
  have hql : i / 8 < l.length := by omega
  have HQL := Lib.hid hql
  have hpw : (2 : Int) ^ (7 - i % 8) % 256 = ((2 ^ sh i : Nat) : Int) := by
    have hq : ∀ m, m < 8 → ((2 : Int) ^ (7 - m) % 256) = ((2 ^ (7 - m) : Nat) : Int) := by decide
    exact hq _ (Nat.mod_lt _ (by decide))
  have hxor := u8_xor_nat (l.getD (i / 8) 0) (2 ^ sh i) hx (pow_lt _ (sh_lt i))
  generalize hN : l.getD (i / 8) 0 ^^^ 2 ^ sh i = N at *
  have HL2 : Hid ((l.set (i / 8) N).length = 20) := by show _ = _; rw [List.length_set]; exact hl20
  have hval : (bit l i = 0 ∧ b ≠ 0) ∨ (bit l i = 1 ∧ b = 0) := by
    have := bit_le l i
    unfold onN at hv
    by_cases hb : b = 0
    · rw [if_pos hb] at hv; exact .inr ⟨by omega, hb⟩
    · rw [if_neg hb] at hv; exact .inl ⟨by omega, hb⟩
  generalize hV : bit l i = V at *
  generalize (2 ^ sh i : Nat) = p2 at *
  generalize hxx : l.getD (i / 8) 0 = x at *
  have HXX := Lib.hid hxx
  generalize i / 8 = q at *
  clear hA2 hB2 hb2 h hi hv hN hV hxx hql
  unfold idv
  generalize hCa : (idc l).toArray = Ca at *
  rcases hval with ⟨rfl, hb⟩ | ⟨rfl, rfl⟩
  · have hbb : (b == 0) = false := by simpa using hb
    go_enter Try.func58, Try.ntmps58
    go_upto_region 1 with fail
    obtain ⟨W2, hW2⟩ : ∃ W2, W2 = (w.alloc (.cells Ca 56)).alloc Z56 := ⟨_, rfl⟩
    rw [← hW2] at XA XB XW ⊢
    clear hW2
    go_upto_region 6 with (first
      | (refine wl_loadr rfl (.tmp 3) rfl w.heap.size rfl l XA.out hl20 ?_)
      | (go_at_call 52; refine (HC.out _).mono ?_; rintro e w1 ⟨rfl, hb1⟩; replace XA := Lib.hid (idR_below XA.out hb1); replace XB := Lib.hid (idR_below XB.out hb1); replace XW := Lib.hid (XW.out.trans (hb1.mono XW.out.size)); clear hb1))
    have hcell := idR_cell XA.out q HQL.out
    rw [HXX.out] at hcell
    obtain ⟨hc1, hc2⟩ := hcell
    go_upto_region 7 with fail
    have hset := idR_set (k := q) (y := N) XA.out
    have hB6 : IdR (w1.setCell ⟨w.heap.size, q, none⟩ (.int .u8 (N : Int))) (w.heap.size + 1) zero20 := (Below.heap_setCell _ _ _ _ (by simp)).trans XB.out
    have hW6 : Below w.heap.size w (w1.setCell ⟨w.heap.size, q, none⟩ (.int .u8 (N : Int))) := XW.out.setCell (p := ⟨w.heap.size, q, none⟩) (Nat.le_refl _) _
    generalize w1.setCell ⟨w.heap.size, q, none⟩ (.int .u8 (N : Int)) = w6 at *
    have HA6 := Lib.hid hset
    have HB6 := Lib.hid hB6
    clear hset hB6 hc1 hc2 XA XB hxor
    have hl2 := HL2.out
    generalize hl9 : l.set q N = l9 at *
    have HL9 := Lib.hid hl9
    clear hl9
    go_wp2_with (first
      | (refine wl_loadr rfl (.tmp 3) rfl w.heap.size rfl l9 HA6.out hl2 ?_)
      | (refine wpList_store_r rfl (.tmp 6) (.tmp 37) rfl (w.heap.size + 1) rfl zero20 l9 rfl HB6.out rfl hl2 ?_; intro w5 hA5 hg5))
    refine bodyPost_ret (v := idv l9) ((results_r (u := 6) rfl _ w5 (w.heap.size + 1) _ rfl hA5 hl2).trans rfl) rfl ?_
    exact ⟨by rw [HL9.out]; rfl, hW6.grown hg5 hW6.size (fun k e => by cases e; omega)⟩
  · skip
    go_enter Try.func58, Try.ntmps58
    go_upto_region 1 with fail
    obtain ⟨W2, hW2⟩ : ∃ W2, W2 = (w.alloc (.cells Ca 56)).alloc Z56 := ⟨_, rfl⟩
    rw [← hW2] at XA XB XW ⊢
    clear hW2
    go_upto_region 6 with (first
      | (refine wl_loadr rfl (.tmp 3) rfl w.heap.size rfl l XA.out hl20 ?_)
      | (go_at_call 52; refine (HC.out _).mono ?_; rintro e w1 ⟨rfl, hb1⟩; replace XA := Lib.hid (idR_below XA.out hb1); replace XB := Lib.hid (idR_below XB.out hb1); replace XW := Lib.hid (XW.out.trans (hb1.mono XW.out.size)); clear hb1))
    have hcell := idR_cell XA.out q HQL.out
    rw [HXX.out] at hcell
    obtain ⟨hc1, hc2⟩ := hcell
    go_upto_region 7 with fail
    have hset := idR_set (k := q) (y := N) XA.out
    have hB6 : IdR (w1.setCell ⟨w.heap.size, q, none⟩ (.int .u8 (N : Int))) (w.heap.size + 1) zero20 := (Below.heap_setCell _ _ _ _ (by simp)).trans XB.out
    have hW6 : Below w.heap.size w (w1.setCell ⟨w.heap.size, q, none⟩ (.int .u8 (N : Int))) := XW.out.setCell (p := ⟨w.heap.size, q, none⟩) (Nat.le_refl _) _
    generalize w1.setCell ⟨w.heap.size, q, none⟩ (.int .u8 (N : Int)) = w6 at *
    have HA6 := Lib.hid hset
    have HB6 := Lib.hid hB6
    clear hset hB6 hc1 hc2 XA XB hxor
    have hl2 := HL2.out
    generalize hl9 : l.set q N = l9 at *
    have HL9 := Lib.hid hl9
    clear hl9
    go_wp2_with (first
      | (refine wl_loadr rfl (.tmp 3) rfl w.heap.size rfl l9 HA6.out hl2 ?_)
      | (refine wpList_store_r rfl (.tmp 6) (.tmp 37) rfl (w.heap.size + 1) rfl zero20 l9 rfl HB6.out rfl hl2 ?_; intro w5 hA5 hg5))
    refine bodyPost_ret (v := idv l9) ((results_r (u := 6) rfl _ w5 (w.heap.size + 1) _ rfl hA5 hl2).trans rfl) rfl ?_
    exact ⟨by rw [HL9.out]; rfl, hW6.grown hg5 hW6.size (fun k e => by cases e; omega)⟩
end Go.Proofs.Ytcgfednoolkhkaa
