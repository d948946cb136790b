/-
  span: lay.
-/
import Derived.Test.YtcgfednoolkhkaaSpC
import Derived.Deep.CutRange
namespace Go.Proofs.Ytcgfednoolkhkaa
open Go.RowKit
set_option linter.unusedVariables false
set_option linter.unusedSimpArgs false
theorem wp_load_id {op : Oper} {a : Act} {w : World} {K : Act → World → Prop} {Q : Exit → Act → World → Prop} (x : Operand) (ho : op.op = .load 41 x)
    (b : Nat) (hx : a.eval x = .pointer (some ⟨b, 0, none⟩)) (l : List Nat) (hc : IdAt w b l) (hl : l.length = 20)
    (h : K (a.put op.dst (idv l)) w) : op.wp Try.prog a w K Q :=
  wp_load_mid 41 x ho b 0 hx (idc l) _ (idAt_range hc) Try.underlying41 rfl (by rw [info41, idc_len, hl]) h
theorem wp_store_id {op : Oper} {a : Act} {w : World} {K : Act → World → Prop} {Q : Exit → Act → World → Prop} (x y : Operand) (ho : op.op = .store 41 x y)
    (b : Nat) (hx : a.eval x = .pointer (some ⟨b, 0, none⟩)) (l l' : List Nat) (hy : a.eval y = idv l') (hc : IdAt w b l) (hl : l.length = 20) (hl' : l'.length = 20)
    (h : ∀ w', IdAt w' b l' → w.grownBy w' (some b) → K (a.put op.dst undef) w') : op.wp Try.prog a w K Q := by
  unfold Oper.wp execOp
  simp only [ho, hx, hy, Instr.storeAt, Instr.sureAddr, Sem.run_bind, Sem.run_pure, Result.andThen_ok, storeVar_id hc hl hl']
  exact h _ (id_setRow l' hc) (grown_setRow _ _ _)
/-- What is laid behind k rounds. -/
def layK (o : List Nat) (i : Nat) (f : Nat → Int) : Nat → List Nat
  | 0 => withL o i (1 - (bit o i : Nat))
  | k + 1 => if i < k then withL (layK o i f k) k (f k) else layK o i f k
theorem id_lay {o : List Nat} (h : Id o) (i : Nat) (f : Nat → Int) : ∀ k, Id (layK o i f k)
  | 0 => id_with h _ _
  | k + 1 => by
    unfold layK; split
    · exact id_with (id_lay h i f k) _ _
    · exact id_lay h i f k
theorem bit_le (l : List Nat) (i : Nat) : bit l i ≤ 1 := by unfold bit; split <;> omega
/-- The state of lay: the owner, what is told back, the id. -/
structure LayS (w : World) (o c : List Nat) (w' : World) : Prop where
  own : IdAt w' w.heap.size o
  res : IdAt w' (w.heap.size + 1) zero20
  cur : IdAt w' (w.heap.size + 1 + 1) c
  low : Below w.heap.size w w'
theorem size_alloc3 (w : World) (x y z : Obj) : (((w.alloc x).alloc y).alloc z).heap.size = w.heap.size + 3 := by simp
theorem idAt_lt {w : World} {b : Nat} {l : List Nat} (h : IdAt w b l) : b < w.heap.size := by
  have h' : w.heap[b]? = _ := h
  rcases Nat.lt_or_ge b w.heap.size with h2 | h2
  · exact h2
  · rw [Array.getElem?_eq_none h2] at h'; cases h'
theorem LayS.below {w w1 w2 : World} {o c : List Nat} (h : LayS w o c w1) (hb : Below w1.heap.size w1 w2) : LayS w o c w2 :=
  ⟨idAt_below h.own hb, idAt_below h.res hb, idAt_below h.cur hb, h.low.trans (hb.mono h.low.size)⟩
theorem idAt_grown {w w' : World} {b g : Nat} {l : List Nat} (h : IdAt w b l) (hg : w.grownBy w' (some g)) (hn : b ≠ g) : IdAt w' b l :=
  (hg.block b (idAt_lt h) (fun e => hn (by cases e; rfl))).trans h
theorem LayS.put {w w1 w2 : World} {o c c' : List Nat} (h : LayS w o c w1) (h2 : IdAt w2 (w.heap.size + 1 + 1) c') (hg : w1.grownBy w2 (some (w.heap.size + 1 + 1))) : LayS w o c' w2 :=
  ⟨idAt_grown h.own hg (by omega), idAt_grown h.res hg (by omega), h2, h.low.grown hg h.low.size (fun k e => by cases e; omega)⟩
theorem LayS.drew {w w1 : World} {o c : List Nat} (h : LayS w o c w1) : LayS w o c w1.drew := ⟨h.own, h.res, h.cur, h.low.drew⟩
/-- All ways through a region meet here. -/
theorem wp_meet {s : Code} {Q : Exit → Act → World → Prop} {a : Act} {w : World} (f : Act → Act) (p : World → Prop)
    (rest : ∀ w', p w' → Q .normal (f a) w') (first : ∀ K' : Act → World → Prop, (∀ w', p w' → K' (f a) w') → s.wp Try.prog (Exit.then K' Q) a w) : s.wp Try.prog Q a w := by
  refine wp_mono (first (fun a' w' => a' = f a ∧ p w') (fun w' h => ⟨rfl, h⟩)) ?_
  intro e a' w' hq
  cases e with
  | normal => obtain ⟨rfl, h⟩ := hq; exact rest _ h
  | exit id => exact hq
  | goto l => exact hq
  | ret => exact hq
  | panic ch => exact hq
  | outgrown => exact hq
set_option maxRecDepth 20000 in
set_option maxHeartbeats 2000000 in
theorem rlay (o : List Nat) (i n : Nat) (caps : Array Value) (f : Nat → Int) (w : World) (ho : Id o) (hi : i < 160)
    (HE : Hid (∀ args W, Sem.run Try.prog (callFunc n args) W = .ok (.enter n args) W))
    (HF : Hid (∀ k, k < 160 → ∀ W, Below w.heap.size w W → Calls Try.prog n (#[.int .i64 (k : Int)] ++ caps) W fun e w' => e = .returned (.int .i64 (f k)) ∧ Below W.heap.size W w')) :
    Calls Try.prog 44 #[idv o, .int .i64 i, .func (.func n) #[] caps] w fun e w' => e = .returned (.tuple #[idv (layK o i f 160), .bool true]) ∧ Below w.heap.size w w' := by
  have hA1 := idAt_new w o
  have hA2 : IdAt ((w.alloc (.cells (idc o).toArray 41)).alloc Z41) w.heap.size o := idAt_below hA1 ((Below.refl _ _).alloc (Nat.le_refl _) _)
  have hB2 : IdAt ((w.alloc (.cells (idc o).toArray 41)).alloc Z41) (w.heap.size + 1) zero20 := by simpa using idAt_zero (w.alloc (.cells (idc o).toArray 41))
  have hA3 : IdAt (((w.alloc (.cells (idc o).toArray 41)).alloc Z41).alloc Z41) w.heap.size o := idAt_below hA2 ((Below.refl _ _).alloc (Nat.le_refl _) _)
  have hB3 : IdAt (((w.alloc (.cells (idc o).toArray 41)).alloc Z41).alloc Z41) (w.heap.size + 1) zero20 := idAt_below hB2 ((Below.refl _ _).alloc (Nat.le_refl _) _)
  have hC3 : IdAt (((w.alloc (.cells (idc o).toArray 41)).alloc Z41).alloc Z41) (w.heap.size + 1 + 1) zero20 := by simpa using idAt_zero ((w.alloc (.cells (idc o).toArray 41)).alloc Z41)
  have hb3 : Below w.heap.size w (((w.alloc (.cells (idc o).toArray 41)).alloc Z41).alloc Z41) := (((Below.refl _ w).alloc (Nat.le_refl _) _).alloc (by simp) _).alloc (by simp; omega) _
  have XA2 := Lib.hid hA2
  have X3 := Lib.hid (LayS.mk hA3 hB3 hC3 hb3)
  have ho20 := ho.1
  have HO := Lib.hid ho
  have h1 : (0 : Int) ≤ (i : Int) := by omega
  have h2 : (i : Int) < 160 := by omega
  have HI := Lib.hid hi
  have hwr : IntKind.i64.wrap (1 - (bit o i : Int)) = 1 - (bit o i : Int) := by have := bit_le o i; rw [IntKind.wrap_i64]; omega
  clear hA1 hA2 hB2 hA3 hB3 hC3 hb3 ho hi
  unfold idv
  generalize hCa : (idc o).toArray = Ca at *
  go_enter Try.func44, Try.ntmps44
  go_upto_region 1 with fail
  obtain ⟨W2, hW2⟩ : ∃ W2, W2 = (w.alloc (.cells Ca 41)).alloc Z41 := ⟨_, rfl⟩
  have hs2 : W2.heap.size = w.heap.size + 1 + 1 := by rw [hW2]; simp
  have HS2 := Lib.hid hs2
  clear hs2
  have hW3 : Hid (W2 = (w.alloc (.cells Ca 41)).alloc Z41) := hW2
  rw [← hW2] at XA2 X3 ⊢
  clear hW2 hW3
  go_wp2_with (first
        | (refine wpList_load_id rfl (.tmp 3) rfl w.heap.size rfl o XA2.out ho20 ?_)
        | (refine wpList_store_id rfl (.tmp 8) (.tmp 17) rfl (w.heap.size + 1 + 1) (by have := HS2.out; simp [Act.eval, this]) zero20 o (by simp [Act.eval, idv, hCa]) X3.out.cur rfl ho20 ?_; intro w5 hA5 hg5))
  rw [HS2.out]
  have HL := Lib.hid (X3.out.put hA5 hg5)
  clear hA5 hg5 X3 XA2 HS2
  subst hCa
  refine wp_meet (fun a => (((((((a.put (some 18) (idv o)).put (some 19) (.int .i64 i)).put (some 20) (idv o)).put (some 21) (.int .i64 i)).put (some 22) (.int .i64 (bit o i : Nat))).put (some 23) (.int .i64 (1 - (bit o i : Nat)))).put (some 24) (idv (withL o i (1 - (bit o i : Nat)))))) (fun w' => Hid (LayS w o (withL o i (1 - (bit o i : Nat))) w')) ?rest4 ?first4
  case first4 =>
    intro K' h2
    simp only [Act.put, List.setIfInBounds_toArray, List.set_cons_zero, List.set_cons_succ] at h2
    replace h2 := Lib.hid h2
    replace HL := Lib.hid HL.out.drew
    refine wp_region_any (by kernel_rfl) ?_
    (try (change wpAny _ _ _ _ _ _ _ (World.drew _)))
    refine wpAny_take (i := 1) (oi := _) (v := ?_) (by simp only [List.getElem?_toArray, List.getElem?_cons_succ, List.getElem?_cons_zero]; rfl) (by kernel_rfl) (by kernel_rfl) (by kernel_rfl) (by intro _ _ _ h; exact h) (Or.inl ⟨by rfl, ?_⟩) ?_
    rotate_left
    focus (intro w; go_simp; try with_reducible rfl)
    (try simp only [Act.put, List.setIfInBounds_toArray, List.set_cons_zero, List.set_cons_succ])
    refine wpAny_take (i := 3) (oi := _) (v := ?_) (by simp only [List.getElem?_toArray, List.getElem?_cons_succ, List.getElem?_cons_zero]; rfl) (by kernel_rfl) (by kernel_rfl) (by kernel_rfl) (by intro _ _ _ h; exact h) (Or.inl ⟨by rfl, ?_⟩) ?_
    rotate_left
    focus (intro w; go_simp; try with_reducible rfl)
    (try simp only [Act.put, List.setIfInBounds_toArray, List.set_cons_zero, List.set_cons_succ])
    refine wpAny_ready (rs := [0, 2]) (by kernel_rfl) (by simp) ?_
    refine AllReady.cons rfl (fun K hK => ?_) ?_
    · rw [if_pos (by rfl)]
      refine wp_load_id (.tmp 8) rfl ((w.heap.size + 1 + 1)) rfl o (HL.out.cur) ho20 ?_
      go_simp
      refine hK _ _ ?_
      clear hK K
      (try simp only [Act.put, List.setIfInBounds_toArray, List.set_cons_zero, List.set_cons_succ])
      refine wpAny_ready (rs := [2]) (by kernel_rfl) (by simp) ?_
      refine AllReady.cons rfl (fun K hK => ?_) ?_
      · rw [if_pos (by rfl)]
        refine wp_load_id (.tmp 3) rfl (w.heap.size) rfl o (HL.out.own) ho20 ?_
        go_simp
        refine hK _ _ ?_
        clear hK K
        (try simp only [Act.put, List.setIfInBounds_toArray, List.set_cons_zero, List.set_cons_succ])
        refine wpAny_ready (rs := [4]) (by kernel_rfl) (by simp) ?_
        refine AllReady.cons rfl (fun K hK => ?_) ?_
        · go_simp
          go_at_call 43
          refine (rbit_yes o i _ HO.out HI.out).mono ?_
          rintro e w1 ⟨rfl, hb1⟩
          replace HL := Lib.hid (HL.out.below hb1)
          clear hb1
          go_wp2_with fail
          (try simp only [Act.put, List.setIfInBounds_toArray, List.set_cons_zero, List.set_cons_succ])
          refine wpAny_take (i := 5) (oi := _) (v := ?_) (by simp only [List.getElem?_toArray, List.getElem?_cons_succ, List.getElem?_cons_zero]; rfl) (by kernel_rfl) (by kernel_rfl) (by kernel_rfl) (by intro _ _ _ h; exact h) (Or.inl ⟨by rfl, ?_⟩) ?_
          rotate_left
          focus (intro w; go_simp; try with_reducible rfl)
          (try simp only [Act.put, List.setIfInBounds_toArray, List.set_cons_zero, List.set_cons_succ])
          refine wpAny_ready (rs := [6]) (by kernel_rfl) (by simp) ?_
          refine AllReady.cons rfl (fun K hK => ?_) ?_
          · go_simp
            go_at_call 55
            refine (rwith o i _ _ HO.out HI.out).mono ?_
            rintro e w2 ⟨rfl, hb2⟩
            replace HL := Lib.hid (HL.out.below hb2)
            clear hb2
            go_wp2_with fail
            (try simp only [Act.put, List.setIfInBounds_toArray, List.set_cons_zero, List.set_cons_succ])
            refine wpAny_ready (rs := [7]) (by kernel_rfl) (by simp) ?_
            refine AllReady.cons rfl (fun K hK => ?_) ?_
            · rw [if_pos (by rfl)]
              refine wp_store_id (.tmp 8) (.tmp 24) rfl (w.heap.size + 1 + 1) rfl o (withL o i (1 - (bit o i : Nat))) (by first | rfl | (simp [idv])) HL.out.cur ho20 (id_with HO.out i _).1 ?_
              intro w3 hA3 hg3
              replace HL := Lib.hid (HL.out.put hA3 hg3)
              clear hA3 hg3
              go_simp
              refine hK _ _ ?_
              clear hK K
              (try simp only [Act.put, List.setIfInBounds_toArray, List.set_cons_zero, List.set_cons_succ])
              refine wpAny_done (by kernel_rfl) ?_ _
              exact h2.out _ HL
            exact AllReady.nil
          exact AllReady.nil
        exact AllReady.nil
      exact AllReady.nil
    refine AllReady.cons rfl (fun K hK => ?_) ?_
    · rw [if_pos (by rfl)]
      refine wp_load_id (.tmp 3) rfl (w.heap.size) rfl o (HL.out.own) ho20 ?_
      go_simp
      refine hK _ _ ?_
      clear hK K
      (try simp only [Act.put, List.setIfInBounds_toArray, List.set_cons_zero, List.set_cons_succ])
      refine wpAny_ready (rs := [0, 4]) (by kernel_rfl) (by simp) ?_
      refine AllReady.cons rfl (fun K hK => ?_) ?_
      · rw [if_pos (by rfl)]
        refine wp_load_id (.tmp 8) rfl ((w.heap.size + 1 + 1)) rfl o (HL.out.cur) ho20 ?_
        go_simp
        refine hK _ _ ?_
        clear hK K
        (try simp only [Act.put, List.setIfInBounds_toArray, List.set_cons_zero, List.set_cons_succ])
        refine wpAny_ready (rs := [4]) (by kernel_rfl) (by simp) ?_
        refine AllReady.cons rfl (fun K hK => ?_) ?_
        · go_simp
          go_at_call 43
          refine (rbit_yes o i _ HO.out HI.out).mono ?_
          rintro e w1 ⟨rfl, hb1⟩
          replace HL := Lib.hid (HL.out.below hb1)
          clear hb1
          go_wp2_with fail
          (try simp only [Act.put, List.setIfInBounds_toArray, List.set_cons_zero, List.set_cons_succ])
          refine wpAny_take (i := 5) (oi := _) (v := ?_) (by simp only [List.getElem?_toArray, List.getElem?_cons_succ, List.getElem?_cons_zero]; rfl) (by kernel_rfl) (by kernel_rfl) (by kernel_rfl) (by intro _ _ _ h; exact h) (Or.inl ⟨by rfl, ?_⟩) ?_
          rotate_left
          focus (intro w; go_simp; try with_reducible rfl)
          (try simp only [Act.put, List.setIfInBounds_toArray, List.set_cons_zero, List.set_cons_succ])
          refine wpAny_ready (rs := [6]) (by kernel_rfl) (by simp) ?_
          refine AllReady.cons rfl (fun K hK => ?_) ?_
          · go_simp
            go_at_call 55
            refine (rwith o i _ _ HO.out HI.out).mono ?_
            rintro e w2 ⟨rfl, hb2⟩
            replace HL := Lib.hid (HL.out.below hb2)
            clear hb2
            go_wp2_with fail
            (try simp only [Act.put, List.setIfInBounds_toArray, List.set_cons_zero, List.set_cons_succ])
            refine wpAny_ready (rs := [7]) (by kernel_rfl) (by simp) ?_
            refine AllReady.cons rfl (fun K hK => ?_) ?_
            · rw [if_pos (by rfl)]
              refine wp_store_id (.tmp 8) (.tmp 24) rfl (w.heap.size + 1 + 1) rfl o (withL o i (1 - (bit o i : Nat))) (by first | rfl | (simp [idv])) HL.out.cur ho20 (id_with HO.out i _).1 ?_
              intro w3 hA3 hg3
              replace HL := Lib.hid (HL.out.put hA3 hg3)
              clear hA3 hg3
              go_simp
              refine hK _ _ ?_
              clear hK K
              (try simp only [Act.put, List.setIfInBounds_toArray, List.set_cons_zero, List.set_cons_succ])
              refine wpAny_done (by kernel_rfl) ?_ _
              exact h2.out _ HL
            exact AllReady.nil
          exact AllReady.nil
        exact AllReady.nil
      refine AllReady.cons rfl (fun K hK => ?_) ?_
      · go_simp
        go_at_call 43
        refine (rbit_yes o i _ HO.out HI.out).mono ?_
        rintro e w1 ⟨rfl, hb1⟩
        replace HL := Lib.hid (HL.out.below hb1)
        clear hb1
        go_wp2_with fail
        (try simp only [Act.put, List.setIfInBounds_toArray, List.set_cons_zero, List.set_cons_succ])
        refine wpAny_take (i := 5) (oi := _) (v := ?_) (by simp only [List.getElem?_toArray, List.getElem?_cons_succ, List.getElem?_cons_zero]; rfl) (by kernel_rfl) (by kernel_rfl) (by kernel_rfl) (by intro _ _ _ h; exact h) (Or.inl ⟨by rfl, ?_⟩) ?_
        rotate_left
        focus (intro w; go_simp; try with_reducible rfl)
        (try simp only [Act.put, List.setIfInBounds_toArray, List.set_cons_zero, List.set_cons_succ])
        refine wpAny_ready (rs := [0]) (by kernel_rfl) (by simp) ?_
        refine AllReady.cons rfl (fun K hK => ?_) ?_
        · rw [if_pos (by rfl)]
          refine wp_load_id (.tmp 8) rfl ((w.heap.size + 1 + 1)) rfl o (HL.out.cur) ho20 ?_
          go_simp
          refine hK _ _ ?_
          clear hK K
          (try simp only [Act.put, List.setIfInBounds_toArray, List.set_cons_zero, List.set_cons_succ])
          refine wpAny_ready (rs := [6]) (by kernel_rfl) (by simp) ?_
          refine AllReady.cons rfl (fun K hK => ?_) ?_
          · go_simp
            go_at_call 55
            refine (rwith o i _ _ HO.out HI.out).mono ?_
            rintro e w2 ⟨rfl, hb2⟩
            replace HL := Lib.hid (HL.out.below hb2)
            clear hb2
            go_wp2_with fail
            (try simp only [Act.put, List.setIfInBounds_toArray, List.set_cons_zero, List.set_cons_succ])
            refine wpAny_ready (rs := [7]) (by kernel_rfl) (by simp) ?_
            refine AllReady.cons rfl (fun K hK => ?_) ?_
            · rw [if_pos (by rfl)]
              refine wp_store_id (.tmp 8) (.tmp 24) rfl (w.heap.size + 1 + 1) rfl o (withL o i (1 - (bit o i : Nat))) (by first | rfl | (simp [idv])) HL.out.cur ho20 (id_with HO.out i _).1 ?_
              intro w3 hA3 hg3
              replace HL := Lib.hid (HL.out.put hA3 hg3)
              clear hA3 hg3
              go_simp
              refine hK _ _ ?_
              clear hK K
              (try simp only [Act.put, List.setIfInBounds_toArray, List.set_cons_zero, List.set_cons_succ])
              refine wpAny_done (by kernel_rfl) ?_ _
              exact h2.out _ HL
            exact AllReady.nil
          exact AllReady.nil
        exact AllReady.nil
      exact AllReady.nil
    exact AllReady.nil
  intro w3 HL
  simp only [Act.put, List.setIfInBounds_toArray, List.set_cons_zero, List.set_cons_succ]
  clear hwr
  go_wp2
  go_loopw [25] (fun x wr => ∃ k : Nat, k ≤ 160 ∧ x = .int .i64 k ∧ Hid (LayS w o (layK o i f k) wr)) (fun x _ => 160 - (intOf x).toNat)
  case atStart => exact ⟨0, by omega, rfl, HL⟩
  case round =>
    obtain ⟨k, hk, rfl, HL⟩ := hrel
    by_cases hlt : k < 160
    · have HK := Lib.hid hlt
      by_cases hik : i < k
      · go_upto_region 9 with fail
        rw [show decide ((k : Int) < 160) = true from decide_eq_true (by omega)]
        refine wp_meet (fun a => ((((((a.put (some 31) (idv (layK o i f k))).put (some 32) (.int .i64 k)).put (some 33) (.func (.func n) #[] caps)).put (some 34) (.int .i64 k)).put (some 35) (.int .i64 (f k))).put (some 36) (idv (withL (layK o i f k) k (f k))))) (fun w' => Hid (LayS w o (withL (layK o i f k) k (f k)) w')) ?rest9 ?first9
        case first9 =>
          intro K' h2
          simp only [Act.put, List.setIfInBounds_toArray, List.set_cons_zero, List.set_cons_succ] at h2
          replace h2 := Lib.hid h2
          replace HL := Lib.hid HL.out.drew
          refine wp_region_any (by kernel_rfl) ?_
          (try (change wpAny _ _ _ _ _ _ _ (World.drew _)))
          refine wpAny_take (i := 1) (oi := _) (v := ?_) (by simp only [List.getElem?_toArray, List.getElem?_cons_succ, List.getElem?_cons_zero]; rfl) (by kernel_rfl) (by kernel_rfl) (by kernel_rfl) (by intro _ _ _ h; exact h) (Or.inl ⟨by rfl, ?_⟩) ?_
          rotate_left
          focus (intro w; go_simp; try with_reducible rfl)
          (try simp only [Act.put, List.setIfInBounds_toArray, List.set_cons_zero, List.set_cons_succ])
          refine wpAny_take (i := 2) (oi := _) (v := ?_) (by simp only [List.getElem?_toArray, List.getElem?_cons_succ, List.getElem?_cons_zero]; rfl) (by kernel_rfl) (by kernel_rfl) (by kernel_rfl) (by intro _ _ _ h; exact h) (Or.inl ⟨by rfl, ?_⟩) ?_
          rotate_left
          focus (intro w; go_simp; try with_reducible rfl)
          (try simp only [Act.put, List.setIfInBounds_toArray, List.set_cons_zero, List.set_cons_succ])
          refine wpAny_take (i := 3) (oi := _) (v := ?_) (by simp only [List.getElem?_toArray, List.getElem?_cons_succ, List.getElem?_cons_zero]; rfl) (by kernel_rfl) (by kernel_rfl) (by kernel_rfl) (by intro _ _ _ h; exact h) (Or.inl ⟨by rfl, ?_⟩) ?_
          rotate_left
          focus (intro w; go_simp; try with_reducible rfl)
          (try simp only [Act.put, List.setIfInBounds_toArray, List.set_cons_zero, List.set_cons_succ])
          refine wpAny_ready (rs := [0, 4]) (by kernel_rfl) (by simp) ?_
          refine AllReady.cons rfl (fun K hK => ?_) ?_
          · rw [if_pos (by rfl)]
            refine wp_load_id (.tmp 8) rfl ((w.heap.size + 1 + 1)) rfl (layK o i f k) (HL.out.cur) (id_lay HO.out i f k).1 ?_
            go_simp
            refine hK _ _ ?_
            clear hK K
            (try simp only [Act.put, List.setIfInBounds_toArray, List.set_cons_zero, List.set_cons_succ])
            refine wpAny_ready (rs := [4]) (by kernel_rfl) (by simp) ?_
            refine AllReady.cons rfl (fun K hK => ?_) ?_
            · go_simp
              rw [HE.out, Oper.upon_enter]
              refine (HF.out k HK.out _ HL.out.low).mono ?_
              rintro e w1 ⟨rfl, hb1⟩
              replace HL := Lib.hid (HL.out.below hb1)
              clear hb1
              go_wp2_with fail
              (try simp only [Act.put, List.setIfInBounds_toArray, List.set_cons_zero, List.set_cons_succ])
              refine wpAny_ready (rs := [5]) (by kernel_rfl) (by simp) ?_
              refine AllReady.cons rfl (fun K hK => ?_) ?_
              · go_simp
                go_at_call 55
                refine (rwith (layK o i f k) k _ _ (id_lay HO.out i f k) HK.out).mono ?_
                rintro e w2 ⟨rfl, hb2⟩
                replace HL := Lib.hid (HL.out.below hb2)
                clear hb2
                go_wp2_with fail
                (try simp only [Act.put, List.setIfInBounds_toArray, List.set_cons_zero, List.set_cons_succ])
                refine wpAny_ready (rs := [6]) (by kernel_rfl) (by simp) ?_
                refine AllReady.cons rfl (fun K hK => ?_) ?_
                · rw [if_pos (by rfl)]
                  refine wp_store_id (.tmp 8) (.tmp 36) rfl (w.heap.size + 1 + 1) rfl (layK o i f k) (withL (layK o i f k) k (f k)) (by first | rfl | (simp [idv])) HL.out.cur (id_lay HO.out i f k).1 (id_with (id_lay HO.out i f k) k _).1 ?_
                  intro w3 hA3 hg3
                  replace HL := Lib.hid (HL.out.put hA3 hg3)
                  clear hA3 hg3
                  go_simp
                  refine hK _ _ ?_
                  clear hK K
                  (try simp only [Act.put, List.setIfInBounds_toArray, List.set_cons_zero, List.set_cons_succ])
                  refine wpAny_done (by kernel_rfl) ?_ _
                  exact h2.out _ HL
                exact AllReady.nil
              exact AllReady.nil
            exact AllReady.nil
          refine AllReady.cons rfl (fun K hK => ?_) ?_
          · go_simp
            rw [HE.out, Oper.upon_enter]
            refine (HF.out k HK.out _ HL.out.low).mono ?_
            rintro e w1 ⟨rfl, hb1⟩
            replace HL := Lib.hid (HL.out.below hb1)
            clear hb1
            go_wp2_with fail
            (try simp only [Act.put, List.setIfInBounds_toArray, List.set_cons_zero, List.set_cons_succ])
            refine wpAny_ready (rs := [0]) (by kernel_rfl) (by simp) ?_
            refine AllReady.cons rfl (fun K hK => ?_) ?_
            · rw [if_pos (by rfl)]
              refine wp_load_id (.tmp 8) rfl ((w.heap.size + 1 + 1)) rfl (layK o i f k) (HL.out.cur) (id_lay HO.out i f k).1 ?_
              go_simp
              refine hK _ _ ?_
              clear hK K
              (try simp only [Act.put, List.setIfInBounds_toArray, List.set_cons_zero, List.set_cons_succ])
              refine wpAny_ready (rs := [5]) (by kernel_rfl) (by simp) ?_
              refine AllReady.cons rfl (fun K hK => ?_) ?_
              · go_simp
                go_at_call 55
                refine (rwith (layK o i f k) k _ _ (id_lay HO.out i f k) HK.out).mono ?_
                rintro e w2 ⟨rfl, hb2⟩
                replace HL := Lib.hid (HL.out.below hb2)
                clear hb2
                go_wp2_with fail
                (try simp only [Act.put, List.setIfInBounds_toArray, List.set_cons_zero, List.set_cons_succ])
                refine wpAny_ready (rs := [6]) (by kernel_rfl) (by simp) ?_
                refine AllReady.cons rfl (fun K hK => ?_) ?_
                · rw [if_pos (by rfl)]
                  refine wp_store_id (.tmp 8) (.tmp 36) rfl (w.heap.size + 1 + 1) rfl (layK o i f k) (withL (layK o i f k) k (f k)) (by first | rfl | (simp [idv])) HL.out.cur (id_lay HO.out i f k).1 (id_with (id_lay HO.out i f k) k _).1 ?_
                  intro w3 hA3 hg3
                  replace HL := Lib.hid (HL.out.put hA3 hg3)
                  clear hA3 hg3
                  go_simp
                  refine hK _ _ ?_
                  clear hK K
                  (try simp only [Act.put, List.setIfInBounds_toArray, List.set_cons_zero, List.set_cons_succ])
                  refine wpAny_done (by kernel_rfl) ?_ _
                  exact h2.out _ HL
                exact AllReady.nil
              exact AllReady.nil
            exact AllReady.nil
          exact AllReady.nil
        intro w3 HL
        simp only [Act.put, List.setIfInBounds_toArray, List.set_cons_zero, List.set_cons_succ]
        go_wp2
        go_roundw
        case rel => exact ⟨k + 1, by omega, by go_num, by unfold layK; rw [if_pos hik]; exact HL⟩
        case measure => simp [intOf]; omega
      · go_wp2
        go_roundw
        case rel => exact ⟨k + 1, by omega, by go_num, by unfold layK; rw [if_neg hik]; exact HL⟩
        case measure => simp [intOf]; omega
    · obtain rfl : k = 160 := by omega
      go_wp2_with (first
        | (refine wpList_load_id rfl (.tmp 8) rfl (w.heap.size + 1 + 1) rfl (layK o i f 160) HL.out.cur (id_lay HO.out i f 160).1 ?_)
        | (refine wpList_store_id rfl (.tmp 6) (.tmp 38) rfl (w.heap.size + 1) rfl zero20 (layK o i f 160) rfl HL.out.res rfl (id_lay HO.out i f 160).1 ?_; intro w5 hA5 hg5))
      refine bodyPost_ret (v := .tuple #[idv (layK o i f 160), .bool true]) ((results_id2 (u := 6) (v := 7) rfl _ w5 (w.heap.size + 1) _ rfl hA5 (id_lay HO.out i f 160).1).trans rfl) rfl ?_
      exact ⟨rfl, HL.out.low.grown hg5 HL.out.low.size (fun k e => by cases e; omega)⟩
end Go.Proofs.Ytcgfednoolkhkaa
