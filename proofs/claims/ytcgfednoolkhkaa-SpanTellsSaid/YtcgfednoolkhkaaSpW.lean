/-
  ident: an id with a bit turned.
-/
import Derived.Test.YtcgfednoolkhkaaSp
namespace Go.Proofs.Ytcgfednoolkhkaa
open Go.RowKit
set_option linter.unusedVariables false
set_option linter.unusedSimpArgs false
def clr (x s : Nat) : Nat := x &&& (255 - 2 ^ s)
def set1 (x s : Nat) : Nat := x ||| 2 ^ s
theorem pow_lt (s : Nat) (hs : s < 8) : 2 ^ s < 256 := by
  have : s = 0 ∨ s = 1 ∨ s = 2 ∨ s = 3 ∨ s = 4 ∨ s = 5 ∨ s = 6 ∨ s = 7 := by omega
  rcases this with rfl | rfl | rfl | rfl | rfl | rfl | rfl | rfl <;> decide
theorem clr_bit (x s j : Nat) (hs : s < 8) (hj : j < 8) : (clr x s).testBit j = if j = s then false else x.testBit j := by
  have h : ∀ s, s < 8 → ∀ j, j < 8 → (255 - 2 ^ s).testBit j = !(decide (j = s)) := by decide
  rw [clr, Nat.testBit_and, h s hs j hj]
  by_cases e : j = s <;> simp [e]
theorem set1_bit (x s j : Nat) (hs : s < 8) (hj : j < 8) : (set1 x s).testBit j = if j = s then true else x.testBit j := by
  have h : ∀ s, s < 8 → ∀ j, j < 8 → (2 ^ s).testBit j = decide (j = s) := by decide
  rw [set1, Nat.testBit_or, h s hs j hj]
  by_cases e : j = s <;> simp [e]
theorem clr_lt (x s : Nat) (hx : x < 256) : clr x s < 256 := Nat.lt_of_le_of_lt Nat.and_le_left hx
theorem set1_lt (x s : Nat) (hx : x < 256) (hs : s < 8) : set1 x s < 256 := Nat.or_lt_two_pow (n := 8) hx (pow_lt s hs)
def withB (x s : Nat) (b : Int) : Nat := if b = 0 then clr x s else set1 x s
def withL (l : List Nat) (i : Nat) (b : Int) : List Nat := l.set (i / 8) (withB (l.getD (i / 8) 0) (sh i) b)
theorem withB_lt (x s : Nat) (b : Int) (hx : x < 256) (hs : s < 8) : withB x s b < 256 := by
  unfold withB; split
  · exact clr_lt _ _ hx
  · exact set1_lt _ _ hx hs
theorem id_with {l : List Nat} (h : Id l) (i : Nat) (b : Int) : Id (withL l i b) := by
  refine ⟨by rw [withL, List.length_set]; exact h.1, fun x hx => ?_⟩
  rcases List.mem_or_eq_of_mem_set hx with hx | rfl
  · exact h.2 _ hx
  · exact withB_lt _ _ _ (id_lt h _) (sh_lt i)
theorem bit_with {l : List Nat} (h : Id l) (i j : Nat) (b : Int) (hi : i < 160) (hj : j < 160) : bit (withL l i b) j = if j = i then (if b = 0 then 0 else 1) else bit l j := by
  have hl := h.1
  have hg : (withL l i b).getD (j / 8) 0 = if j / 8 = i / 8 then withB (l.getD (i / 8) 0) (sh i) b else l.getD (j / 8) 0 := by
    simp only [withL, List.getD, List.getElem?_set]
    by_cases e : i / 8 = j / 8
    · simp [e, show j / 8 < l.length by omega]
    · simp [e, Ne.symm e]
  have hs := sh_lt i
  have hs2 := sh_lt j
  unfold bit
  rw [hg]
  by_cases e : j / 8 = i / 8
  · rw [if_pos e]
    have hinj : sh j = sh i ↔ j = i := by unfold sh; omega
    unfold withB
    by_cases hb : b = 0
    · rw [if_pos hb, clr_bit _ _ _ hs hs2]
      by_cases e2 : j = i
      · subst e2; simp [hb]
      · rw [if_neg (fun h => e2 (hinj.1 h)), if_neg e2, e]
    · rw [if_neg hb, set1_bit _ _ _ hs hs2]
      by_cases e2 : j = i
      · subst e2; simp [hb]
      · rw [if_neg (fun h => e2 (hinj.1 h)), if_neg e2, e]
  · have hji : ¬ j = i := fun h => e (by rw [h])
    rw [if_neg e]
    simp only [if_neg hji]
theorem or_pow (x s : Nat) (hx : x < 256) (hs : s < 8) : Go.bits .or .u8 (x : Int) ((2 ^ s : Nat) : Int) = ((set1 x s : Nat) : Int) := u8_or_nat x (2 ^ s) hx (pow_lt s hs)
theorem andNot_pow (x s : Nat) (hx : x < 256) (hs : s < 8) : Go.bits .andNot .u8 (x : Int) ((2 ^ s : Nat) : Int) = ((clr x s : Nat) : Int) := u8_andNot_nat x (2 ^ s) hx (pow_lt s hs)
theorem idAt_set {W : World} {b k y : Nat} {l : List Nat} (h : IdAt W b l) : IdAt (W.setCell ⟨b, k, none⟩ (.int .u8 (y : Int))) b (l.set k y) := by
  have h' : W.heap[b]? = some (.cells (idc l).toArray 41 (0, 0)) := h
  show (W.setCell ⟨b, k, none⟩ (.int .u8 (y : Int))).heap[b]? = _
  rw [setCell_eq_setRow W b k _ 41 (0, 0) _ h', setRow_heap W b _ _ 41 _ h']
  simp [idc, List.map_set]
theorem idAt_there {w : World} {b : Nat} {l : List Nat} (h : IdAt w b l) (hl : l.length = 20) : w.there b 0 20 := fun j hj => by
  have := idAt_cell h j (by omega)
  rw [Nat.zero_add]
  exact ⟨by rw [this.1]; rfl, this.2⟩
abbrev Z41 : Obj := .cells #[Value.int .u8 0, Value.int .u8 0, Value.int .u8 0, Value.int .u8 0, Value.int .u8 0, Value.int .u8 0, Value.int .u8 0, Value.int .u8 0, Value.int .u8 0, Value.int .u8 0, Value.int .u8 0, Value.int .u8 0, Value.int .u8 0, Value.int .u8 0, Value.int .u8 0, Value.int .u8 0, Value.int .u8 0, Value.int .u8 0, Value.int .u8 0, Value.int .u8 0] 41
def zero20 : List Nat := List.replicate 20 0
theorem idAt_zero (w : World) : IdAt (w.alloc Z41) w.heap.size zero20 := heap_alloc_new w _
theorem with_clr (l : List Nat) (i : Nat) (w : World) (h : Id l) (hi : i < 160) :
    Calls Try.prog 55 #[idv l, .int .i64 i, .int .i64 0] w fun e w' => e = .returned (idv (l.set (i / 8) (clr (l.getD (i / 8) 0) (sh i)))) ∧ Below w.heap.size w w' := by
  have hl := h.1
  have hx := id_lt h (i / 8)
  have hq : i / 8 < 20 := by omega
  have hqd : Int.tdiv (i : Int) 8 = ((i / 8 : Nat) : Int) := by rw [Int.tdiv_eq_ediv_of_nonneg (by omega)]; simp
  have H1 := Lib.hid (fun W => rmay_yes i W hi)
  have H2 := Lib.hid (fun W => rmask i W hi)
  have hand := andNot_pow (l.getD (i / 8) 0) (sh i) hx (sh_lt i)
  have HL2 : Hid ((l.set (i / 8) (clr (l.getD (i / 8) 0) (sh i))).length = 20) := by show _ = _; rw [List.length_set]; exact hl
  have hat := idAt_new w l
  have hb2 : Below w.heap.size w ((w.alloc (.cells (idc l).toArray 41)).alloc Z41) := ((Below.refl _ w).alloc (Nat.le_refl _) _).alloc (by simp) _
  have hat2 : IdAt ((w.alloc (.cells (idc l).toArray 41)).alloc Z41) w.heap.size l := idAt_below hat ((Below.refl _ _).alloc (Nat.le_refl _) _)
  have hcell := idAt_cell hat2 (i / 8) (by omega)
  obtain ⟨hc1, hc2⟩ := hcell
  have HAT := Lib.hid hat2
  have HB2 := Lib.hid hb2
  have hz := idAt_zero (w.alloc (.cells (idc l).toArray 41))
  have hz2 : IdAt ((w.alloc (.cells (idc l).toArray 41)).alloc Z41) (w.heap.size + 1) zero20 := by simpa using hz
  have HZ := Lib.hid hz2
  have HNE : Hid (w.heap.size + 1 ≠ w.heap.size) := Nat.succ_ne_self _
  have HNS : Hid (w.heap.size ≤ w.heap.size + 1) := Nat.le_succ _
  unfold idv
  generalize hC : (idc l).toArray = C at *
  generalize l.getD (i / 8) 0 = x at *
  generalize hqq : i / 8 = q at *
  generalize (2 ^ sh i : Nat) = p2 at *
  generalize clr x (sh i) = y at *
  clear hat hat2 hb2 hz hz2
  have hq2 : (q : Int) < 20 := by omega
  have hq0 : (0 : Int) ≤ (q : Int) := by omega
  have hwq : IntKind.i64.wrap (q : Int) = (q : Int) := by rw [IntKind.wrap_i64]; omega
  skip
  go_enter Try.func55, Try.ntmps55
  go_wp2_with (go_at_call 53; refine (H1.out _).mono ?_; rintro e w1 ⟨rfl, rfl⟩)
  generalize World.alloc _ _ = W0 at *
  generalize w.heap.size + 1 = s1 at *
  refine wp_region_any (by kernel_rfl) ?_
  (try (change wpAny _ _ _ _ _ _ _ (World.drew _)))
  refine wpAny_take (i := 0) (oi := _) (v := ?_) (by simp only [List.getElem?_toArray, List.getElem?_cons_succ, List.getElem?_cons_zero]; rfl) (by kernel_rfl) (by kernel_rfl) (by kernel_rfl) (by intro _ _ _ h; exact h) (Or.inl ⟨by rfl, ?_⟩) ?_
  rotate_left
  focus (intro w; go_simp; try with_reducible rfl)
  (try simp only [Act.put, List.setIfInBounds_toArray, List.set_cons_zero, List.set_cons_succ])
  refine wpAny_take (i := 1) (oi := _) (v := ?_) (by simp only [List.getElem?_toArray, List.getElem?_cons_succ, List.getElem?_cons_zero]; rfl) (by kernel_rfl) (by kernel_rfl) (by kernel_rfl) (by intro _ _ _ h; exact h) (Or.inl ⟨by rfl, ?_⟩) ?_
  rotate_left
  focus (intro w; go_simp; try with_reducible rfl)
  (try simp only [Act.put, List.setIfInBounds_toArray, List.set_cons_zero, List.set_cons_succ])
  refine wpAny_take (i := 2) (oi := _) (v := ?_) (by simp only [List.getElem?_toArray, List.getElem?_cons_succ, List.getElem?_cons_zero]; rfl) (by kernel_rfl) (by kernel_rfl) (by kernel_rfl) (by intro _ _ _ h; exact h) (Or.inl ⟨by rfl, ?_⟩) ?_
  rotate_left
  focus (intro w; go_simp; try with_reducible rfl)
  (try simp only [Act.put, List.setIfInBounds_toArray, List.set_cons_zero, List.set_cons_succ])
  refine wpAny_take (i := 4) (oi := _) (v := ?_) (by simp only [List.getElem?_toArray, List.getElem?_cons_succ, List.getElem?_cons_zero]; rfl) (by kernel_rfl) (by kernel_rfl) (by kernel_rfl) (by intro _ _ _ h; exact h) (Or.inl ⟨by rfl, ?_⟩) ?_
  rotate_left
  focus (intro w; go_simp; try with_reducible rfl)
  (try simp only [Act.put, List.setIfInBounds_toArray, List.set_cons_zero, List.set_cons_succ])
  refine wpAny_ready (rs := [3, 5]) (by kernel_rfl) (by simp) ?_
  refine AllReady.cons rfl (fun K hK => ?_) ?_
  · go_simp
    (refine hK _ _ ?_; clear hK K)
    (try simp only [Act.put, List.setIfInBounds_toArray, List.set_cons_zero, List.set_cons_succ])
    refine wpAny_ready (rs := [5]) (by kernel_rfl) (by simp) ?_
    refine AllReady.cons rfl (fun K hK => ?_) ?_
    · go_simp
      go_wp2_with ((go_at_call 54; refine (H2.out _).mono ?_; rintro e w1 ⟨rfl, rfl⟩))
      (try simp only [Act.put, List.setIfInBounds_toArray, List.set_cons_zero, List.set_cons_succ])
      refine wpAny_take (i := 6) (oi := _) (v := ?_) (by simp only [List.getElem?_toArray, List.getElem?_cons_succ, List.getElem?_cons_zero]; rfl) (by kernel_rfl) (by kernel_rfl) (by kernel_rfl) (by intro _ _ _ h; exact h) (Or.inl ⟨by rfl, ?_⟩) ?_
      rotate_left
      focus (intro w; go_simp; try with_reducible rfl)
      (try simp only [Act.put, List.setIfInBounds_toArray, List.set_cons_zero, List.set_cons_succ])
      refine wpAny_take (i := 7) (oi := _) (v := ?_) (by simp only [List.getElem?_toArray, List.getElem?_cons_succ, List.getElem?_cons_zero]; rfl) (by kernel_rfl) (by kernel_rfl) (by kernel_rfl) (by intro _ _ _ h; exact h) (Or.inl ⟨by rfl, ?_⟩) ?_
      rotate_left
      focus (intro w; go_simp; try with_reducible rfl)
      (try simp only [Act.put, List.setIfInBounds_toArray, List.set_cons_zero, List.set_cons_succ])
      refine wpAny_ready (rs := [8]) (by kernel_rfl) (by simp) ?_
      refine AllReady.cons rfl (fun K hK => ?_) ?_
      · go_simp
        (refine hK _ _ ?_; clear hK K)
        (try simp only [Act.put, List.setIfInBounds_toArray, List.set_cons_zero, List.set_cons_succ])
        refine wpAny_done (by kernel_rfl) ?_ _
        have hA : IdAt ((W0.setCell ⟨w.heap.size, q, none⟩ (.int .u8 (y : Int))).drew) w.heap.size (l.set q y) := idAt_set HAT.out
        have hZ : IdAt ((W0.setCell ⟨w.heap.size, q, none⟩ (.int .u8 (y : Int))).drew) s1 zero20 := (Below.heap_setCell _ _ _ _ HNE.out).trans HZ.out
        have hB : Below w.heap.size w ((W0.setCell ⟨w.heap.size, q, none⟩ (.int .u8 (y : Int))).drew) := (HB2.out.setCell (p := ⟨w.heap.size, q, none⟩) (Nat.le_refl _) _).drew
        generalize World.drew _ = w4 at *
        have HA := Lib.hid hA
        have HZ4 := Lib.hid hZ
        have HB4 := Lib.hid hB
        clear hA hZ hB hc1 hc2
        go_wp2_with (first
          | (refine wpList_load_id rfl (.tmp 3) rfl w.heap.size rfl (l.set q y) HA.out HL2.out ?_)
          | (refine wpList_store_id rfl (.tmp 6) (.tmp 30) rfl s1 rfl zero20 (l.set q y) rfl HZ4.out rfl HL2.out ?_; intro w5 hA5 hg5))
        refine bodyPost_ret (v := idv (l.set q y)) (results_id (u := 6) rfl _ w5 s1 _ rfl hA5 HL2.out) rfl ?_
        exact ⟨rfl, HB4.out.grown hg5 HB4.out.size (fun k e => by cases e; exact HNS.out)⟩
      exact AllReady.nil
    exact AllReady.nil
  refine AllReady.cons rfl (fun K hK => ?_) ?_
  · go_simp
    go_wp2_with ((go_at_call 54; refine (H2.out _).mono ?_; rintro e w1 ⟨rfl, rfl⟩))
    (try simp only [Act.put, List.setIfInBounds_toArray, List.set_cons_zero, List.set_cons_succ])
    refine wpAny_ready (rs := [3]) (by kernel_rfl) (by simp) ?_
    refine AllReady.cons rfl (fun K hK => ?_) ?_
    · go_simp
      (refine hK _ _ ?_; clear hK K)
      (try simp only [Act.put, List.setIfInBounds_toArray, List.set_cons_zero, List.set_cons_succ])
      refine wpAny_take (i := 6) (oi := _) (v := ?_) (by simp only [List.getElem?_toArray, List.getElem?_cons_succ, List.getElem?_cons_zero]; rfl) (by kernel_rfl) (by kernel_rfl) (by kernel_rfl) (by intro _ _ _ h; exact h) (Or.inl ⟨by rfl, ?_⟩) ?_
      rotate_left
      focus (intro w; go_simp; try with_reducible rfl)
      (try simp only [Act.put, List.setIfInBounds_toArray, List.set_cons_zero, List.set_cons_succ])
      refine wpAny_take (i := 7) (oi := _) (v := ?_) (by simp only [List.getElem?_toArray, List.getElem?_cons_succ, List.getElem?_cons_zero]; rfl) (by kernel_rfl) (by kernel_rfl) (by kernel_rfl) (by intro _ _ _ h; exact h) (Or.inl ⟨by rfl, ?_⟩) ?_
      rotate_left
      focus (intro w; go_simp; try with_reducible rfl)
      (try simp only [Act.put, List.setIfInBounds_toArray, List.set_cons_zero, List.set_cons_succ])
      refine wpAny_ready (rs := [8]) (by kernel_rfl) (by simp) ?_
      refine AllReady.cons rfl (fun K hK => ?_) ?_
      · go_simp
        (refine hK _ _ ?_; clear hK K)
        (try simp only [Act.put, List.setIfInBounds_toArray, List.set_cons_zero, List.set_cons_succ])
        refine wpAny_done (by kernel_rfl) ?_ _
        have hA : IdAt ((W0.setCell ⟨w.heap.size, q, none⟩ (.int .u8 (y : Int))).drew) w.heap.size (l.set q y) := idAt_set HAT.out
        have hZ : IdAt ((W0.setCell ⟨w.heap.size, q, none⟩ (.int .u8 (y : Int))).drew) s1 zero20 := (Below.heap_setCell _ _ _ _ HNE.out).trans HZ.out
        have hB : Below w.heap.size w ((W0.setCell ⟨w.heap.size, q, none⟩ (.int .u8 (y : Int))).drew) := (HB2.out.setCell (p := ⟨w.heap.size, q, none⟩) (Nat.le_refl _) _).drew
        generalize World.drew _ = w4 at *
        have HA := Lib.hid hA
        have HZ4 := Lib.hid hZ
        have HB4 := Lib.hid hB
        clear hA hZ hB hc1 hc2
        go_wp2_with (first
          | (refine wpList_load_id rfl (.tmp 3) rfl w.heap.size rfl (l.set q y) HA.out HL2.out ?_)
          | (refine wpList_store_id rfl (.tmp 6) (.tmp 30) rfl s1 rfl zero20 (l.set q y) rfl HZ4.out rfl HL2.out ?_; intro w5 hA5 hg5))
        refine bodyPost_ret (v := idv (l.set q y)) (results_id (u := 6) rfl _ w5 s1 _ rfl hA5 HL2.out) rfl ?_
        exact ⟨rfl, HB4.out.grown hg5 HB4.out.size (fun k e => by cases e; exact HNS.out)⟩
      exact AllReady.nil
    exact AllReady.nil
  exact AllReady.nil
theorem with_set (l : List Nat) (i : Nat) (b : Int) (hb : b ≠ 0) (w : World) (h : Id l) (hi : i < 160) :
    Calls Try.prog 55 #[idv l, .int .i64 i, .int .i64 b] w fun e w' => e = .returned (idv (l.set (i / 8) (set1 (l.getD (i / 8) 0) (sh i)))) ∧ Below w.heap.size w w' := by
  have hl := h.1
  have hx := id_lt h (i / 8)
  have hq : i / 8 < 20 := by omega
  have hqd : Int.tdiv (i : Int) 8 = ((i / 8 : Nat) : Int) := by rw [Int.tdiv_eq_ediv_of_nonneg (by omega)]; simp
  have H1 := Lib.hid (fun W => rmay_yes i W hi)
  have H2 := Lib.hid (fun W => rmask i W hi)
  have hand := or_pow (l.getD (i / 8) 0) (sh i) hx (sh_lt i)
  have HL2 : Hid ((l.set (i / 8) (set1 (l.getD (i / 8) 0) (sh i))).length = 20) := by show _ = _; rw [List.length_set]; exact hl
  have hat := idAt_new w l
  have hb2 : Below w.heap.size w ((w.alloc (.cells (idc l).toArray 41)).alloc Z41) := ((Below.refl _ w).alloc (Nat.le_refl _) _).alloc (by simp) _
  have hat2 : IdAt ((w.alloc (.cells (idc l).toArray 41)).alloc Z41) w.heap.size l := idAt_below hat ((Below.refl _ _).alloc (Nat.le_refl _) _)
  have hcell := idAt_cell hat2 (i / 8) (by omega)
  obtain ⟨hc1, hc2⟩ := hcell
  have HAT := Lib.hid hat2
  have HB2 := Lib.hid hb2
  have hz := idAt_zero (w.alloc (.cells (idc l).toArray 41))
  have hz2 : IdAt ((w.alloc (.cells (idc l).toArray 41)).alloc Z41) (w.heap.size + 1) zero20 := by simpa using hz
  have HZ := Lib.hid hz2
  have HNE : Hid (w.heap.size + 1 ≠ w.heap.size) := Nat.succ_ne_self _
  have HNS : Hid (w.heap.size ≤ w.heap.size + 1) := Nat.le_succ _
  unfold idv
  generalize hC : (idc l).toArray = C at *
  generalize l.getD (i / 8) 0 = x at *
  generalize hqq : i / 8 = q at *
  generalize (2 ^ sh i : Nat) = p2 at *
  generalize set1 x (sh i) = y at *
  clear hat hat2 hb2 hz hz2
  have hq2 : (q : Int) < 20 := by omega
  have hq0 : (0 : Int) ≤ (q : Int) := by omega
  have hwq : IntKind.i64.wrap (q : Int) = (q : Int) := by rw [IntKind.wrap_i64]; omega
  have hb2 : (b == 0) = false := by simpa using hb
  go_enter Try.func55, Try.ntmps55
  go_wp2_with (go_at_call 53; refine (H1.out _).mono ?_; rintro e w1 ⟨rfl, rfl⟩)
  generalize World.alloc _ _ = W0 at *
  generalize w.heap.size + 1 = s1 at *
  refine wp_region_any (by kernel_rfl) ?_
  (try (change wpAny _ _ _ _ _ _ _ (World.drew _)))
  refine wpAny_take (i := 0) (oi := _) (v := ?_) (by simp only [List.getElem?_toArray, List.getElem?_cons_succ, List.getElem?_cons_zero]; rfl) (by kernel_rfl) (by kernel_rfl) (by kernel_rfl) (by intro _ _ _ h; exact h) (Or.inl ⟨by rfl, ?_⟩) ?_
  rotate_left
  focus (intro w; go_simp; try with_reducible rfl)
  (try simp only [Act.put, List.setIfInBounds_toArray, List.set_cons_zero, List.set_cons_succ])
  refine wpAny_take (i := 1) (oi := _) (v := ?_) (by simp only [List.getElem?_toArray, List.getElem?_cons_succ, List.getElem?_cons_zero]; rfl) (by kernel_rfl) (by kernel_rfl) (by kernel_rfl) (by intro _ _ _ h; exact h) (Or.inl ⟨by rfl, ?_⟩) ?_
  rotate_left
  focus (intro w; go_simp; try with_reducible rfl)
  (try simp only [Act.put, List.setIfInBounds_toArray, List.set_cons_zero, List.set_cons_succ])
  refine wpAny_take (i := 2) (oi := _) (v := ?_) (by simp only [List.getElem?_toArray, List.getElem?_cons_succ, List.getElem?_cons_zero]; rfl) (by kernel_rfl) (by kernel_rfl) (by kernel_rfl) (by intro _ _ _ h; exact h) (Or.inl ⟨by rfl, ?_⟩) ?_
  rotate_left
  focus (intro w; go_simp; try with_reducible rfl)
  (try simp only [Act.put, List.setIfInBounds_toArray, List.set_cons_zero, List.set_cons_succ])
  refine wpAny_take (i := 4) (oi := _) (v := ?_) (by simp only [List.getElem?_toArray, List.getElem?_cons_succ, List.getElem?_cons_zero]; rfl) (by kernel_rfl) (by kernel_rfl) (by kernel_rfl) (by intro _ _ _ h; exact h) (Or.inl ⟨by rfl, ?_⟩) ?_
  rotate_left
  focus (intro w; go_simp; try with_reducible rfl)
  (try simp only [Act.put, List.setIfInBounds_toArray, List.set_cons_zero, List.set_cons_succ])
  refine wpAny_ready (rs := [3, 5]) (by kernel_rfl) (by simp) ?_
  refine AllReady.cons rfl (fun K hK => ?_) ?_
  · go_simp
    (refine hK _ _ ?_; clear hK K)
    (try simp only [Act.put, List.setIfInBounds_toArray, List.set_cons_zero, List.set_cons_succ])
    refine wpAny_ready (rs := [5]) (by kernel_rfl) (by simp) ?_
    refine AllReady.cons rfl (fun K hK => ?_) ?_
    · go_simp
      go_wp2_with ((go_at_call 54; refine (H2.out _).mono ?_; rintro e w1 ⟨rfl, rfl⟩))
      (try simp only [Act.put, List.setIfInBounds_toArray, List.set_cons_zero, List.set_cons_succ])
      refine wpAny_take (i := 6) (oi := _) (v := ?_) (by simp only [List.getElem?_toArray, List.getElem?_cons_succ, List.getElem?_cons_zero]; rfl) (by kernel_rfl) (by kernel_rfl) (by kernel_rfl) (by intro _ _ _ h; exact h) (Or.inl ⟨by rfl, ?_⟩) ?_
      rotate_left
      focus (intro w; go_simp; try with_reducible rfl)
      (try simp only [Act.put, List.setIfInBounds_toArray, List.set_cons_zero, List.set_cons_succ])
      refine wpAny_take (i := 7) (oi := _) (v := ?_) (by simp only [List.getElem?_toArray, List.getElem?_cons_succ, List.getElem?_cons_zero]; rfl) (by kernel_rfl) (by kernel_rfl) (by kernel_rfl) (by intro _ _ _ h; exact h) (Or.inl ⟨by rfl, ?_⟩) ?_
      rotate_left
      focus (intro w; go_simp; try with_reducible rfl)
      (try simp only [Act.put, List.setIfInBounds_toArray, List.set_cons_zero, List.set_cons_succ])
      refine wpAny_ready (rs := [8]) (by kernel_rfl) (by simp) ?_
      refine AllReady.cons rfl (fun K hK => ?_) ?_
      · go_simp
        (refine hK _ _ ?_; clear hK K)
        (try simp only [Act.put, List.setIfInBounds_toArray, List.set_cons_zero, List.set_cons_succ])
        refine wpAny_done (by kernel_rfl) ?_ _
        have hA : IdAt ((W0.setCell ⟨w.heap.size, q, none⟩ (.int .u8 (y : Int))).drew) w.heap.size (l.set q y) := idAt_set HAT.out
        have hZ : IdAt ((W0.setCell ⟨w.heap.size, q, none⟩ (.int .u8 (y : Int))).drew) s1 zero20 := (Below.heap_setCell _ _ _ _ HNE.out).trans HZ.out
        have hB : Below w.heap.size w ((W0.setCell ⟨w.heap.size, q, none⟩ (.int .u8 (y : Int))).drew) := (HB2.out.setCell (p := ⟨w.heap.size, q, none⟩) (Nat.le_refl _) _).drew
        generalize World.drew _ = w4 at *
        have HA := Lib.hid hA
        have HZ4 := Lib.hid hZ
        have HB4 := Lib.hid hB
        clear hA hZ hB hc1 hc2
        go_wp2_with (first
          | (refine wpList_load_id rfl (.tmp 3) rfl w.heap.size rfl (l.set q y) HA.out HL2.out ?_)
          | (refine wpList_store_id rfl (.tmp 6) (.tmp 30) rfl s1 rfl zero20 (l.set q y) rfl HZ4.out rfl HL2.out ?_; intro w5 hA5 hg5))
        refine bodyPost_ret (v := idv (l.set q y)) (results_id (u := 6) rfl _ w5 s1 _ rfl hA5 HL2.out) rfl ?_
        exact ⟨rfl, HB4.out.grown hg5 HB4.out.size (fun k e => by cases e; exact HNS.out)⟩
      exact AllReady.nil
    exact AllReady.nil
  refine AllReady.cons rfl (fun K hK => ?_) ?_
  · go_simp
    go_wp2_with ((go_at_call 54; refine (H2.out _).mono ?_; rintro e w1 ⟨rfl, rfl⟩))
    (try simp only [Act.put, List.setIfInBounds_toArray, List.set_cons_zero, List.set_cons_succ])
    refine wpAny_ready (rs := [3]) (by kernel_rfl) (by simp) ?_
    refine AllReady.cons rfl (fun K hK => ?_) ?_
    · go_simp
      (refine hK _ _ ?_; clear hK K)
      (try simp only [Act.put, List.setIfInBounds_toArray, List.set_cons_zero, List.set_cons_succ])
      refine wpAny_take (i := 6) (oi := _) (v := ?_) (by simp only [List.getElem?_toArray, List.getElem?_cons_succ, List.getElem?_cons_zero]; rfl) (by kernel_rfl) (by kernel_rfl) (by kernel_rfl) (by intro _ _ _ h; exact h) (Or.inl ⟨by rfl, ?_⟩) ?_
      rotate_left
      focus (intro w; go_simp; try with_reducible rfl)
      (try simp only [Act.put, List.setIfInBounds_toArray, List.set_cons_zero, List.set_cons_succ])
      refine wpAny_take (i := 7) (oi := _) (v := ?_) (by simp only [List.getElem?_toArray, List.getElem?_cons_succ, List.getElem?_cons_zero]; rfl) (by kernel_rfl) (by kernel_rfl) (by kernel_rfl) (by intro _ _ _ h; exact h) (Or.inl ⟨by rfl, ?_⟩) ?_
      rotate_left
      focus (intro w; go_simp; try with_reducible rfl)
      (try simp only [Act.put, List.setIfInBounds_toArray, List.set_cons_zero, List.set_cons_succ])
      refine wpAny_ready (rs := [8]) (by kernel_rfl) (by simp) ?_
      refine AllReady.cons rfl (fun K hK => ?_) ?_
      · go_simp
        (refine hK _ _ ?_; clear hK K)
        (try simp only [Act.put, List.setIfInBounds_toArray, List.set_cons_zero, List.set_cons_succ])
        refine wpAny_done (by kernel_rfl) ?_ _
        have hA : IdAt ((W0.setCell ⟨w.heap.size, q, none⟩ (.int .u8 (y : Int))).drew) w.heap.size (l.set q y) := idAt_set HAT.out
        have hZ : IdAt ((W0.setCell ⟨w.heap.size, q, none⟩ (.int .u8 (y : Int))).drew) s1 zero20 := (Below.heap_setCell _ _ _ _ HNE.out).trans HZ.out
        have hB : Below w.heap.size w ((W0.setCell ⟨w.heap.size, q, none⟩ (.int .u8 (y : Int))).drew) := (HB2.out.setCell (p := ⟨w.heap.size, q, none⟩) (Nat.le_refl _) _).drew
        generalize World.drew _ = w4 at *
        have HA := Lib.hid hA
        have HZ4 := Lib.hid hZ
        have HB4 := Lib.hid hB
        clear hA hZ hB hc1 hc2
        go_wp2_with (first
          | (refine wpList_load_id rfl (.tmp 3) rfl w.heap.size rfl (l.set q y) HA.out HL2.out ?_)
          | (refine wpList_store_id rfl (.tmp 6) (.tmp 30) rfl s1 rfl zero20 (l.set q y) rfl HZ4.out rfl HL2.out ?_; intro w5 hA5 hg5))
        refine bodyPost_ret (v := idv (l.set q y)) (results_id (u := 6) rfl _ w5 s1 _ rfl hA5 HL2.out) rfl ?_
        exact ⟨rfl, HB4.out.grown hg5 HB4.out.size (fun k e => by cases e; exact HNS.out)⟩
      exact AllReady.nil
    exact AllReady.nil
  exact AllReady.nil
end Go.Proofs.Ytcgfednoolkhkaa
