/-
  RingPlays: step.
-/
import Derived.Test.YtfphpbhopfhlcaaCl
import Derived.Test.YtfphpbhopfhlcaaWWords
namespace Go.Proofs.Ytfphpbhopfhlcaa
open Go.RowKit Go.Proofs.YtfphpbhopfhlcaaW.PrintWords
set_option linter.unusedVariables false
set_option linter.unusedSimpArgs false
set_option maxRecDepth 100000
abbrev numI (xs : List Int) : List Value := Go.Proofs.YtfphpbhopfhlcaaW.PrintWords.nums .i64 xs
theorem wp_append_row {P : Program} {o : Oper} {a : Act} {w0 W : World} {K : Act → World → Prop} {Q : Exit → Act → World → Prop} (base : Nat) (s x : Operand) (t e : TypeId) (k : IntKind) (bytes : Nat)
    (ho : o.op = .call { callee := .builtin .append, args := #[s, x], argTypes := #[t, t] })
    (ht : P.underlying t = some (.slice e)) (hinfo : (P.info? e).map (fun i => (i.zero, i.size, i.bytes)) = some (some (.int k 0), 1, bytes)) (hb0 : 0 < bytes)
    (v : Value) (xs ys : List Int) (A : Option Addr) (m c : Nat) (hs : a.eval s = v) (hx : a.eval x = .slice A m c)
    (HO : W.ownsRow base e 1 v xs.length (nums k xs)) (HR : ReadsInt W k A m ys) (HB : Below base w0 W) (hbase : base ≤ W.heap.size) (hl : (xs.length + m) * bytes ≤ 140737488355328)
    (h : ∀ v1 w1, w1.ownsRow base e 1 v1 (xs ++ ys).length (nums k (xs ++ ys)) → Below base w0 w1 → W.grownBy w1 v.ownBlock → K (a.put o.dst v1) w1) :
    o.wp P a W K Q := by
  obtain ⟨i0, hi, hzz⟩ := Option.map_eq_some_iff.1 hinfo
  simp only [Prod.mk.injEq] at hzz
  obtain ⟨hz0, hz1, hz2⟩ := hzz
  have hm : ys.length = m := HR.1
  have hlen : xs.length + m ≤ 140737488355328 := Nat.le_trans (Nat.le_mul_of_pos_right _ hb0) hl
  have hrun : ∃ v1 w1, (Builtin.append_ #[t, t] o.type #[v, .slice A m c]).run P W = .ok v1 w1 ∧ w1.ownsRow base e 1 v1 (xs ++ ys).length (nums k (xs ++ ys)) ∧ W.grownBy w1 v.ownBlock ∧ (v1.ownBlock = v.ownBlock ∨ v1.ownBlock = some W.heap.size) := by
    rcases A with _ | ad
    · have h0 : m = 0 := by
        rcases Nat.eq_zero_or_pos m with h0 | h0
        · exact h0
        · obtain ⟨ad, h, _⟩ := HR.2.2 h0
          cases h
      subst h0
      obtain rfl : ys = [] := List.eq_nil_of_length_eq_zero hm
      refine ⟨v, W, ?_, by simpa using HO, World.grownBy.refl W _, .inl rfl⟩
      rcases HO.2 with ⟨rfl, hn⟩ | ⟨g, cap, cur, rfl, _, _, hnc, _⟩
      · simp [Builtin.append_, run_underlying ht, sizeOf, typeInfo, hi, Builtin.lenOf, Builtin.firstCells]
      · simp [Builtin.append_, run_underlying ht, sizeOf, typeInfo, hi, Builtin.lenOf, Builtin.firstCells, hnc, storeCells]
    · have hcells : ∀ j u, (nums k ys)[j]? = some u → W.cell? (ad.add j) = some u := by
        intro j u hu
        have hj : j < ys.length := by
          rcases Nat.lt_or_ge j ys.length with h | h
          · exact h
          · simp [nums, List.getElem?_eq_none h] at hu
        obtain ⟨ad', h', hc⟩ := HR.2.2 (by omega)
        injection h' with h'
        subst h'
        have := hc j (by omega)
        simp [nums, List.getElem?_eq_getElem hj] at hu
        subst hu
        rw [this]
        simp [List.getD_eq_getElem?_getD, List.getElem?_eq_getElem hj]
      obtain ⟨v1, w1, hr, h2, h3, _, h5⟩ := run_append_own_at (P := P) W base t o.type e i0 (.int k 0) 1 bytes ht hi hz0 hz1 hz2 rfl (by omega) v xs.length (nums k xs) HO ad m c (nums k ys) (by simp [nums, hm]) hcells
        (by intro u hu; simp only [nums, List.mem_map] at hu; obtain ⟨q, _, rfl⟩ := hu; rfl) (by simp only [maxLen]; omega) hl hbase
      exact ⟨v1, w1, hr, by simpa [nums, hm] using h2, h3, h5⟩
  obtain ⟨v1, w1, hr, hown, hg, hat⟩ := hrun
  unfold Oper.wp execOp
  simp only [ho, resolve, invoke, builtin, Sem.run_bind, Sem.run_pure, Result.andThen_ok, List.map_toArray, List.map_cons, List.map_nil, hs, hx, hr]
  exact h v1 w1 hown (HB.grown hg hbase (own_base HO)) hg
/-- A slice of ints that is read. -/
def SlI (w : World) (A : Option Addr) (n c : Nat) (xs : List Int) : Prop := ReadsInt w .i64 A n xs ∧ n ≤ c
theorem slI_below {w w' : World} {A : Option Addr} {n c : Nat} {xs : List Int} (h : SlI w A n c xs) (hb : Below w.heap.size w w') : SlI w' A n c xs := ⟨h.1.below hb, h.2⟩
theorem slI_reads {w : World} {A : Option Addr} {n c : Nat} {xs : List Int} (h : SlI w A n c xs) : ReadsI w A xs := fun hp => by
  obtain ⟨ad, e, hc⟩ := h.1.2.2 (by rw [← h.1.1]; exact hp)
  exact ⟨ad, e, fun j hj => hc j (by rw [← h.1.1]; exact hj)⟩
theorem slI_own {w : World} {base n : Nat} {v : Value} {xs : List Int} (h : w.ownsRow base 3 1 v n (numI xs)) : ∃ A c, v = .slice A n c ∧ SlI w A n c xs := by
  obtain ⟨A, c, rfl, hr⟩ := own_reads h
  refine ⟨A, c, rfl, hr, ?_⟩
  rcases h.2 with ⟨e, hn⟩ | ⟨g, cap, cur, e, -, -, hc, -⟩
  · omega
  · cases e; exact hc
theorem own_empty {B : Nat} {w0 w : World} (h : Below B w0 w) (hB : B ≤ w.heap.size) : (w.alloc (.cells #[] 3)).ownsRow B 3 1 (.slice (some ⟨w.heap.size, 0, none⟩) 0 0) (([] : List Int)).length (numI []) := by
  have := own_lit w B 3 .i64 [] hB (by simp)
  simpa [numI, Go.Proofs.YtfphpbhopfhlcaaW.PrintWords.nums] using this
theorem one_reads (w : World) (x : Int) : ReadsInt (w.alloc (.cells #[.int .i64 x] 3)) .i64 (some ⟨w.heap.size, 0, none⟩) 1 [x] := by
  have h := own_lit w 0 3 .i64 [x] (Nat.zero_le _) (by simp)
  obtain ⟨A, c, e, hr⟩ := own_reads h
  simp at e
  obtain ⟨rfl, rfl⟩ := e
  simpa [Go.Proofs.YtfphpbhopfhlcaaW.PrintWords.nums] using hr
theorem info33 : (Try.prog.info? 3).map (fun i => (i.zero, i.size, i.bytes)) = some (some (.int .i64 0), 1, 8) := by kernel_rfl
theorem isI3 : ∃ i, Try.prog.info? 3 = some i ∧ i.size = 1 := ⟨_, rfl, rfl⟩
theorem reads_lt {w : World} {ad : Addr} {ys : List Int} (h : ReadsInt w .i64 (some ad) 1 ys) : (Value.slice (some ⟨w.heap.size, 0, none⟩) 0 0).ownBlock ≠ some ad.block := by
  obtain ⟨ad', e, hc⟩ := h.2.2 (by omega)
  cases e
  have := World.block_lt_of_cell? _ _ (hc 0 (by omega))
  rw [add_block] at this
  intro e
  simp [Value.ownBlock] at e
  omega
theorem own_not_new {w : World} {base n : Nat} {v : Value} {xs : List Value} (h : w.ownsRow base 3 1 v n xs) : v.ownBlock ≠ some (⟨w.heap.size, 0, none⟩ : Addr).block := fun e => by
  have := own_lt h _ e
  simp at this
theorem reads_own {w w' : World} {v : Value} {ad : Addr} {m : Nat} {ys : List Int} (h : ReadsInt w .i64 (some ad) m ys) (hne : v.ownBlock ≠ some ad.block) (hg : w.grownBy w' v.ownBlock) : ReadsInt w' .i64 (some ad) m ys :=
  ⟨h.1, h.2.1, fun hp => by
    obtain ⟨ad', e, hc⟩ := h.2.2 hp
    cases e
    exact ⟨ad, rfl, fun j hj => hg.cell (hc j hj) (by rw [add_block]; exact fun e => hne e.symm)⟩⟩
theorem own_mono {w : World} {base base' n : Nat} {v : Value} {xs : List Value} (h : w.ownsRow base 3 1 v n xs) (hb : base' ≤ base) : w.ownsRow base' 3 1 v n xs :=
  ⟨h.1, h.2.imp id fun ⟨g, cap, cur, e, hg, rest⟩ => ⟨g, cap, cur, e, Nat.le_trans hb hg, rest⟩⟩
/-- What step tells. -/
def StepRes (w : World) (A0 : Option Addr) (L : List Int) (v : Int) (ok : Bool) (e : Ending) (w' : World) : Prop :=
  ∃ A c, e = .returned (.tuple #[.slice A L.length c, .int .i64 v, .bool ok]) ∧ SlI w' A L.length c L ∧ (∀ ad, A = some ad → (w.heap.size ≤ ad.block ∧ ad.block < w'.heap.size) ∨ A0 = some ad) ∧ Below w.heap.size w w'
theorem stepRes_own {w w' : World} {A0 : Option Addr} {L : List Int} {v : Int} {ok : Bool} {r : Value} (h : w'.ownsRow w.heap.size 3 1 r L.length (numI L)) (hb : Below w.heap.size w w') : StepRes w A0 L v ok (.returned (.tuple #[r, .int .i64 v, .bool ok])) w' := by
  obtain ⟨A, c, rfl, hs⟩ := slI_own h
  exact ⟨A, c, rfl, hs, fun ad e => .inl ⟨own_base h ad.block (by rw [e]; rfl), own_lt h ad.block (by rw [e]; rfl)⟩, hb⟩
theorem op_cells (w : World) (k n : Int) (v : Value) : (w.alloc (.cells #[.int .i64 k, .int .i64 n, v] 35)).cell? ⟨w.heap.size, 0, none⟩ = some (.int .i64 k) ∧ (w.alloc (.cells #[.int .i64 k, .int .i64 n, v] 35)).cell? ⟨w.heap.size, 1, none⟩ = some (.int .i64 n) ∧ (w.alloc (.cells #[.int .i64 k, .int .i64 n, v] 35)).cell? ⟨w.heap.size, 2, none⟩ = some v := by
  have h := World.alloc_heap_new w (.cells #[.int .i64 k, .int .i64 n, v] 35)
  refine ⟨?_, ?_, ?_⟩ <;> rw [cell_of_row _ _ _ _ _ _ h] <;> rfl
set_option maxHeartbeats 4000000 in
theorem step_push (kind n : Int) (B : Option Addr) (d : Nat) (l : List Int) (A : Option Addr) (c : Nat) (L : List Int) (most : Nat) (w : World) (hL : SlI w A L.length c L) (hl : SlI w B l.length d l) (hLm : L.length ≤ most) (hm : most ≤ 65536) (hll : l.length ≤ 1000000) (hk : kind = 0) (hlt : L.length < most) :
    Calls Try.prog 13 #[.agg #[.int .i64 kind, .int .i64 n, .slice B l.length d], .slice A L.length c, .int .i64 most] w (StepRes w A (L ++ [n]) 0 true) := by
  subst hk
  obtain ⟨h0, h1, h2⟩ := op_cells w 0 n (.slice B l.length d)
  have hb0 : Below w.heap.size w (w.alloc (.cells #[.int .i64 0, .int .i64 n, .slice B l.length d] 35)) := (Below.refl _ w).alloc (Nat.le_refl _) _
  have HLs := Lib.hid (slI_below hL hb0)
  have HLl := Lib.hid (slI_below hl hb0)
  have HB0 := Lib.hid hb0
  obtain ⟨W0, hW0⟩ : ∃ W0, W0 = w.alloc (.cells #[.int .i64 0, .int .i64 n, .slice B l.length d] 35) := ⟨_, rfl⟩
  go_enter Try.func13, Try.ntmps13
  go_upto_region 1 with fail
  rw [← hW0] at HB0 HLs HLl h0 h1 h2 ⊢
  clear hW0
  go_wp2_with fail
  have H1 := Lib.hid h1
  have HB := Lib.hid (Below.refl W0.heap.size W0).drew
  clear h1
  refine wp_region_any (by kernel_rfl) ?_
  (try (change wpAny _ _ _ _ _ _ _ (World.drew _)))
  generalize World.drew W0 = wd at *
  refine wpAny_take (i := 1) (oi := _) (v := ?_) (by simp only [List.getElem?_toArray, List.getElem?_cons_succ, List.getElem?_cons_zero]; rfl) (by kernel_rfl) (by kernel_rfl) (by kernel_rfl) (by intro _ _ _ h; exact h) (Or.inl ⟨by rfl, ?_⟩) ?_
  rotate_left
  focus (intro w; go_simp; try with_reducible rfl)
  (try simp only [Act.put, List.setIfInBounds_toArray, List.set_cons_zero, List.set_cons_succ])
  refine wpAny_take (i := 3) (oi := _) (v := ?_) (by simp only [List.getElem?_toArray, List.getElem?_cons_succ, List.getElem?_cons_zero]; rfl) (by kernel_rfl) (by kernel_rfl) (by kernel_rfl) (by intro _ _ _ h; exact h) (Or.inl ⟨by rfl, ?_⟩) ?_
  rotate_left
  focus (intro w; go_simp; try with_reducible rfl)
  (try simp only [Act.put, List.setIfInBounds_toArray, List.set_cons_zero, List.set_cons_succ])
  refine wpAny_ready (rs := [0, 4]) (by kernel_rfl) (by simp) ?_
  refine AllReady.cons rfl (fun K hK => ?_) ?_
  · go_simp
    have HO := Lib.hid (own_empty HB.out HB.out.size)
    replace HB := Lib.hid (HB.out.alloc HB.out.size (.cells #[] 3))
    generalize World.alloc wd (.cells #[] 3) = wa at *
    refine hK _ _ ?_
    clear hK K
    (try simp only [Act.put, List.setIfInBounds_toArray, List.set_cons_zero, List.set_cons_succ])
    refine wpAny_ready (rs := [2, 4]) (by kernel_rfl) (by simp) ?_
    refine AllReady.cons rfl (fun K hK => ?_) ?_
    · rw [if_pos (by rfl)]
      (try simp only [List.getElem_toArray, List.getElem_cons_succ, List.getElem_cons_zero])
      refine wp_append_row (w0 := W0) W0.heap.size (.tmp 21) (.tmp 22) 33 3 .i64 8 rfl Try.underlying33 info33 (by decide) _ _ L A L.length c rfl rfl HO.out (HLs.out.1.below HB.out) HB.out HB.out.size (by first | (simp; done) | (simp; omega)) ?_
      intro vwc wc hown hbl hg
      replace HO := Lib.hid hown
      replace HB := Lib.hid hbl
      clear hown hbl hg
      refine hK _ _ ?_
      clear hK K
      (try simp only [Act.put, List.setIfInBounds_toArray, List.set_cons_zero, List.set_cons_succ])
      refine wpAny_ready (rs := [4]) (by kernel_rfl) (by simp) ?_
      refine AllReady.cons rfl (fun K hK => ?_) ?_
      · have hc := cell_below HB.out H1.out
        go_simp
        clear hc
        refine hK _ _ ?_
        clear hK K
        (try simp only [Act.put, List.setIfInBounds_toArray, List.set_cons_zero, List.set_cons_succ])
        refine wpAny_ready (rs := [5]) (by kernel_rfl) (by simp) ?_
        refine AllReady.cons rfl (fun K hK => ?_) ?_
        · go_simp
          have HR := Lib.hid (one_reads wc n)
          have HNE := Lib.hid (own_not_new HO.out)
          replace HO := Lib.hid (HO.out.alloc (.cells #[.int .i64 n] 3))
          replace HB := Lib.hid (HB.out.alloc HB.out.size (.cells #[.int .i64 n] 3))
          generalize World.alloc wc (.cells #[.int .i64 n] 3) = wb at *
          refine hK _ _ ?_
          clear hK K
          (try simp only [Act.put, List.setIfInBounds_toArray, List.set_cons_zero, List.set_cons_succ])
          refine wpAny_ready (rs := [6]) (by kernel_rfl) (by simp) ?_
          refine AllReady.cons rfl (fun K hK => ?_) ?_
          · rw [if_pos (by rfl)]
            (try simp only [List.getElem_toArray, List.getElem_cons_succ, List.getElem_cons_zero])
            refine wp_append_row (w0 := W0) W0.heap.size (.tmp 23) (.tmp 26) 33 3 .i64 8 rfl Try.underlying33 info33 (by decide) _ _ [n] _ 1 _ rfl rfl HO.out HR.out HB.out HB.out.size (by first | (simp; done) | (simp; omega)) ?_
            intro vwe we hown hbl hg
            replace HO := Lib.hid hown
            replace HB := Lib.hid hbl
            clear hown hbl hg
            refine hK _ _ ?_
            clear hK K
            (try simp only [Act.put, List.setIfInBounds_toArray, List.set_cons_zero, List.set_cons_succ])
            refine wpAny_take (i := 7) (oi := _) (v := ?_) (by simp only [List.getElem?_toArray, List.getElem?_cons_succ, List.getElem?_cons_zero]; rfl) (by kernel_rfl) (by kernel_rfl) (by kernel_rfl) (by intro _ _ _ h; exact h) (Or.inl ⟨by rfl, ?_⟩) ?_
            rotate_left
            focus (intro w; go_simp; try with_reducible rfl)
            (try simp only [Act.put, List.setIfInBounds_toArray, List.set_cons_zero, List.set_cons_succ])
            refine wpAny_take (i := 8) (oi := _) (v := ?_) (by simp only [List.getElem?_toArray, List.getElem?_cons_succ, List.getElem?_cons_zero]; rfl) (by kernel_rfl) (by kernel_rfl) (by kernel_rfl) (by intro _ _ _ h; exact h) (Or.inl ⟨by rfl, ?_⟩) ?_
            rotate_left
            focus (intro w; go_simp; try with_reducible rfl)
            (try simp only [Act.put, List.setIfInBounds_toArray, List.set_cons_zero, List.set_cons_succ])
            refine wpAny_take (i := 9) (oi := _) (v := ?_) (by simp only [List.getElem?_toArray, List.getElem?_cons_succ, List.getElem?_cons_zero]; rfl) (by kernel_rfl) (by kernel_rfl) (by kernel_rfl) (by intro _ _ _ h; exact h) (Or.inl ⟨by rfl, ?_⟩) ?_
            rotate_left
            focus (intro w; go_simp; try with_reducible rfl)
            (try simp only [Act.put, List.setIfInBounds_toArray, List.set_cons_zero, List.set_cons_succ])
            refine wpAny_done (by kernel_rfl) ?_ _
            go_wp2
            go_ret3
            exact stepRes_own (own_mono (by have h := HO.out; rw [List.nil_append] at h; exact h) HB0.out.size) (HB0.out.trans (HB.out.mono HB0.out.size))
          exact AllReady.nil
        exact AllReady.nil
      exact AllReady.nil
    refine AllReady.cons rfl (fun K hK => ?_) ?_
    · have hc := cell_below HB.out H1.out
      go_simp
      clear hc
      refine hK _ _ ?_
      clear hK K
      (try simp only [Act.put, List.setIfInBounds_toArray, List.set_cons_zero, List.set_cons_succ])
      refine wpAny_ready (rs := [2, 5]) (by kernel_rfl) (by simp) ?_
      refine AllReady.cons rfl (fun K hK => ?_) ?_
      · rw [if_pos (by rfl)]
        (try simp only [List.getElem_toArray, List.getElem_cons_succ, List.getElem_cons_zero])
        refine wp_append_row (w0 := W0) W0.heap.size (.tmp 21) (.tmp 22) 33 3 .i64 8 rfl Try.underlying33 info33 (by decide) _ _ L A L.length c rfl rfl HO.out (HLs.out.1.below HB.out) HB.out HB.out.size (by first | (simp; done) | (simp; omega)) ?_
        intro vwc wc hown hbl hg
        replace HO := Lib.hid hown
        replace HB := Lib.hid hbl
        clear hown hbl hg
        refine hK _ _ ?_
        clear hK K
        (try simp only [Act.put, List.setIfInBounds_toArray, List.set_cons_zero, List.set_cons_succ])
        refine wpAny_ready (rs := [5]) (by kernel_rfl) (by simp) ?_
        refine AllReady.cons rfl (fun K hK => ?_) ?_
        · go_simp
          have HR := Lib.hid (one_reads wc n)
          have HNE := Lib.hid (own_not_new HO.out)
          replace HO := Lib.hid (HO.out.alloc (.cells #[.int .i64 n] 3))
          replace HB := Lib.hid (HB.out.alloc HB.out.size (.cells #[.int .i64 n] 3))
          generalize World.alloc wc (.cells #[.int .i64 n] 3) = wb at *
          refine hK _ _ ?_
          clear hK K
          (try simp only [Act.put, List.setIfInBounds_toArray, List.set_cons_zero, List.set_cons_succ])
          refine wpAny_ready (rs := [6]) (by kernel_rfl) (by simp) ?_
          refine AllReady.cons rfl (fun K hK => ?_) ?_
          · rw [if_pos (by rfl)]
            (try simp only [List.getElem_toArray, List.getElem_cons_succ, List.getElem_cons_zero])
            refine wp_append_row (w0 := W0) W0.heap.size (.tmp 23) (.tmp 26) 33 3 .i64 8 rfl Try.underlying33 info33 (by decide) _ _ [n] _ 1 _ rfl rfl HO.out HR.out HB.out HB.out.size (by first | (simp; done) | (simp; omega)) ?_
            intro vwe we hown hbl hg
            replace HO := Lib.hid hown
            replace HB := Lib.hid hbl
            clear hown hbl hg
            refine hK _ _ ?_
            clear hK K
            (try simp only [Act.put, List.setIfInBounds_toArray, List.set_cons_zero, List.set_cons_succ])
            refine wpAny_take (i := 7) (oi := _) (v := ?_) (by simp only [List.getElem?_toArray, List.getElem?_cons_succ, List.getElem?_cons_zero]; rfl) (by kernel_rfl) (by kernel_rfl) (by kernel_rfl) (by intro _ _ _ h; exact h) (Or.inl ⟨by rfl, ?_⟩) ?_
            rotate_left
            focus (intro w; go_simp; try with_reducible rfl)
            (try simp only [Act.put, List.setIfInBounds_toArray, List.set_cons_zero, List.set_cons_succ])
            refine wpAny_take (i := 8) (oi := _) (v := ?_) (by simp only [List.getElem?_toArray, List.getElem?_cons_succ, List.getElem?_cons_zero]; rfl) (by kernel_rfl) (by kernel_rfl) (by kernel_rfl) (by intro _ _ _ h; exact h) (Or.inl ⟨by rfl, ?_⟩) ?_
            rotate_left
            focus (intro w; go_simp; try with_reducible rfl)
            (try simp only [Act.put, List.setIfInBounds_toArray, List.set_cons_zero, List.set_cons_succ])
            refine wpAny_take (i := 9) (oi := _) (v := ?_) (by simp only [List.getElem?_toArray, List.getElem?_cons_succ, List.getElem?_cons_zero]; rfl) (by kernel_rfl) (by kernel_rfl) (by kernel_rfl) (by intro _ _ _ h; exact h) (Or.inl ⟨by rfl, ?_⟩) ?_
            rotate_left
            focus (intro w; go_simp; try with_reducible rfl)
            (try simp only [Act.put, List.setIfInBounds_toArray, List.set_cons_zero, List.set_cons_succ])
            refine wpAny_done (by kernel_rfl) ?_ _
            go_wp2
            go_ret3
            exact stepRes_own (own_mono (by have h := HO.out; rw [List.nil_append] at h; exact h) HB0.out.size) (HB0.out.trans (HB.out.mono HB0.out.size))
          exact AllReady.nil
        exact AllReady.nil
      refine AllReady.cons rfl (fun K hK => ?_) ?_
      · go_simp
        have HR := Lib.hid (one_reads wa n)
        have HNE := Lib.hid (own_not_new HO.out)
        replace HO := Lib.hid (HO.out.alloc (.cells #[.int .i64 n] 3))
        replace HB := Lib.hid (HB.out.alloc HB.out.size (.cells #[.int .i64 n] 3))
        generalize World.alloc wa (.cells #[.int .i64 n] 3) = wb at *
        refine hK _ _ ?_
        clear hK K
        (try simp only [Act.put, List.setIfInBounds_toArray, List.set_cons_zero, List.set_cons_succ])
        refine wpAny_ready (rs := [2]) (by kernel_rfl) (by simp) ?_
        refine AllReady.cons rfl (fun K hK => ?_) ?_
        · rw [if_pos (by rfl)]
          (try simp only [List.getElem_toArray, List.getElem_cons_succ, List.getElem_cons_zero])
          refine wp_append_row (w0 := W0) W0.heap.size (.tmp 21) (.tmp 22) 33 3 .i64 8 rfl Try.underlying33 info33 (by decide) _ _ L A L.length c rfl rfl HO.out (HLs.out.1.below HB.out) HB.out HB.out.size (by first | (simp; done) | (simp; omega)) ?_
          intro vwc wc hown hbl hg
          replace HR := Lib.hid (reads_own HR.out HNE.out hg)
          replace HO := Lib.hid hown
          replace HB := Lib.hid hbl
          clear hown hbl hg
          refine hK _ _ ?_
          clear hK K
          (try simp only [Act.put, List.setIfInBounds_toArray, List.set_cons_zero, List.set_cons_succ])
          refine wpAny_ready (rs := [6]) (by kernel_rfl) (by simp) ?_
          refine AllReady.cons rfl (fun K hK => ?_) ?_
          · rw [if_pos (by rfl)]
            (try simp only [List.getElem_toArray, List.getElem_cons_succ, List.getElem_cons_zero])
            refine wp_append_row (w0 := W0) W0.heap.size (.tmp 23) (.tmp 26) 33 3 .i64 8 rfl Try.underlying33 info33 (by decide) _ _ [n] _ 1 _ rfl rfl HO.out HR.out HB.out HB.out.size (by first | (simp; done) | (simp; omega)) ?_
            intro vwe we hown hbl hg
            replace HO := Lib.hid hown
            replace HB := Lib.hid hbl
            clear hown hbl hg
            refine hK _ _ ?_
            clear hK K
            (try simp only [Act.put, List.setIfInBounds_toArray, List.set_cons_zero, List.set_cons_succ])
            refine wpAny_take (i := 7) (oi := _) (v := ?_) (by simp only [List.getElem?_toArray, List.getElem?_cons_succ, List.getElem?_cons_zero]; rfl) (by kernel_rfl) (by kernel_rfl) (by kernel_rfl) (by intro _ _ _ h; exact h) (Or.inl ⟨by rfl, ?_⟩) ?_
            rotate_left
            focus (intro w; go_simp; try with_reducible rfl)
            (try simp only [Act.put, List.setIfInBounds_toArray, List.set_cons_zero, List.set_cons_succ])
            refine wpAny_take (i := 8) (oi := _) (v := ?_) (by simp only [List.getElem?_toArray, List.getElem?_cons_succ, List.getElem?_cons_zero]; rfl) (by kernel_rfl) (by kernel_rfl) (by kernel_rfl) (by intro _ _ _ h; exact h) (Or.inl ⟨by rfl, ?_⟩) ?_
            rotate_left
            focus (intro w; go_simp; try with_reducible rfl)
            (try simp only [Act.put, List.setIfInBounds_toArray, List.set_cons_zero, List.set_cons_succ])
            refine wpAny_take (i := 9) (oi := _) (v := ?_) (by simp only [List.getElem?_toArray, List.getElem?_cons_succ, List.getElem?_cons_zero]; rfl) (by kernel_rfl) (by kernel_rfl) (by kernel_rfl) (by intro _ _ _ h; exact h) (Or.inl ⟨by rfl, ?_⟩) ?_
            rotate_left
            focus (intro w; go_simp; try with_reducible rfl)
            (try simp only [Act.put, List.setIfInBounds_toArray, List.set_cons_zero, List.set_cons_succ])
            refine wpAny_done (by kernel_rfl) ?_ _
            go_wp2
            go_ret3
            exact stepRes_own (own_mono (by have h := HO.out; rw [List.nil_append] at h; exact h) HB0.out.size) (HB0.out.trans (HB.out.mono HB0.out.size))
          exact AllReady.nil
        exact AllReady.nil
      exact AllReady.nil
    exact AllReady.nil
  refine AllReady.cons rfl (fun K hK => ?_) ?_
  · have hc := cell_below HB.out H1.out
    go_simp
    clear hc
    refine hK _ _ ?_
    clear hK K
    (try simp only [Act.put, List.setIfInBounds_toArray, List.set_cons_zero, List.set_cons_succ])
    refine wpAny_ready (rs := [0, 5]) (by kernel_rfl) (by simp) ?_
    refine AllReady.cons rfl (fun K hK => ?_) ?_
    · go_simp
      have HO := Lib.hid (own_empty HB.out HB.out.size)
      replace HB := Lib.hid (HB.out.alloc HB.out.size (.cells #[] 3))
      generalize World.alloc wd (.cells #[] 3) = wa at *
      refine hK _ _ ?_
      clear hK K
      (try simp only [Act.put, List.setIfInBounds_toArray, List.set_cons_zero, List.set_cons_succ])
      refine wpAny_ready (rs := [2, 5]) (by kernel_rfl) (by simp) ?_
      refine AllReady.cons rfl (fun K hK => ?_) ?_
      · rw [if_pos (by rfl)]
        (try simp only [List.getElem_toArray, List.getElem_cons_succ, List.getElem_cons_zero])
        refine wp_append_row (w0 := W0) W0.heap.size (.tmp 21) (.tmp 22) 33 3 .i64 8 rfl Try.underlying33 info33 (by decide) _ _ L A L.length c rfl rfl HO.out (HLs.out.1.below HB.out) HB.out HB.out.size (by first | (simp; done) | (simp; omega)) ?_
        intro vwc wc hown hbl hg
        replace HO := Lib.hid hown
        replace HB := Lib.hid hbl
        clear hown hbl hg
        refine hK _ _ ?_
        clear hK K
        (try simp only [Act.put, List.setIfInBounds_toArray, List.set_cons_zero, List.set_cons_succ])
        refine wpAny_ready (rs := [5]) (by kernel_rfl) (by simp) ?_
        refine AllReady.cons rfl (fun K hK => ?_) ?_
        · go_simp
          have HR := Lib.hid (one_reads wc n)
          have HNE := Lib.hid (own_not_new HO.out)
          replace HO := Lib.hid (HO.out.alloc (.cells #[.int .i64 n] 3))
          replace HB := Lib.hid (HB.out.alloc HB.out.size (.cells #[.int .i64 n] 3))
          generalize World.alloc wc (.cells #[.int .i64 n] 3) = wb at *
          refine hK _ _ ?_
          clear hK K
          (try simp only [Act.put, List.setIfInBounds_toArray, List.set_cons_zero, List.set_cons_succ])
          refine wpAny_ready (rs := [6]) (by kernel_rfl) (by simp) ?_
          refine AllReady.cons rfl (fun K hK => ?_) ?_
          · rw [if_pos (by rfl)]
            (try simp only [List.getElem_toArray, List.getElem_cons_succ, List.getElem_cons_zero])
            refine wp_append_row (w0 := W0) W0.heap.size (.tmp 23) (.tmp 26) 33 3 .i64 8 rfl Try.underlying33 info33 (by decide) _ _ [n] _ 1 _ rfl rfl HO.out HR.out HB.out HB.out.size (by first | (simp; done) | (simp; omega)) ?_
            intro vwe we hown hbl hg
            replace HO := Lib.hid hown
            replace HB := Lib.hid hbl
            clear hown hbl hg
            refine hK _ _ ?_
            clear hK K
            (try simp only [Act.put, List.setIfInBounds_toArray, List.set_cons_zero, List.set_cons_succ])
            refine wpAny_take (i := 7) (oi := _) (v := ?_) (by simp only [List.getElem?_toArray, List.getElem?_cons_succ, List.getElem?_cons_zero]; rfl) (by kernel_rfl) (by kernel_rfl) (by kernel_rfl) (by intro _ _ _ h; exact h) (Or.inl ⟨by rfl, ?_⟩) ?_
            rotate_left
            focus (intro w; go_simp; try with_reducible rfl)
            (try simp only [Act.put, List.setIfInBounds_toArray, List.set_cons_zero, List.set_cons_succ])
            refine wpAny_take (i := 8) (oi := _) (v := ?_) (by simp only [List.getElem?_toArray, List.getElem?_cons_succ, List.getElem?_cons_zero]; rfl) (by kernel_rfl) (by kernel_rfl) (by kernel_rfl) (by intro _ _ _ h; exact h) (Or.inl ⟨by rfl, ?_⟩) ?_
            rotate_left
            focus (intro w; go_simp; try with_reducible rfl)
            (try simp only [Act.put, List.setIfInBounds_toArray, List.set_cons_zero, List.set_cons_succ])
            refine wpAny_take (i := 9) (oi := _) (v := ?_) (by simp only [List.getElem?_toArray, List.getElem?_cons_succ, List.getElem?_cons_zero]; rfl) (by kernel_rfl) (by kernel_rfl) (by kernel_rfl) (by intro _ _ _ h; exact h) (Or.inl ⟨by rfl, ?_⟩) ?_
            rotate_left
            focus (intro w; go_simp; try with_reducible rfl)
            (try simp only [Act.put, List.setIfInBounds_toArray, List.set_cons_zero, List.set_cons_succ])
            refine wpAny_done (by kernel_rfl) ?_ _
            go_wp2
            go_ret3
            exact stepRes_own (own_mono (by have h := HO.out; rw [List.nil_append] at h; exact h) HB0.out.size) (HB0.out.trans (HB.out.mono HB0.out.size))
          exact AllReady.nil
        exact AllReady.nil
      refine AllReady.cons rfl (fun K hK => ?_) ?_
      · go_simp
        have HR := Lib.hid (one_reads wa n)
        have HNE := Lib.hid (own_not_new HO.out)
        replace HO := Lib.hid (HO.out.alloc (.cells #[.int .i64 n] 3))
        replace HB := Lib.hid (HB.out.alloc HB.out.size (.cells #[.int .i64 n] 3))
        generalize World.alloc wa (.cells #[.int .i64 n] 3) = wb at *
        refine hK _ _ ?_
        clear hK K
        (try simp only [Act.put, List.setIfInBounds_toArray, List.set_cons_zero, List.set_cons_succ])
        refine wpAny_ready (rs := [2]) (by kernel_rfl) (by simp) ?_
        refine AllReady.cons rfl (fun K hK => ?_) ?_
        · rw [if_pos (by rfl)]
          (try simp only [List.getElem_toArray, List.getElem_cons_succ, List.getElem_cons_zero])
          refine wp_append_row (w0 := W0) W0.heap.size (.tmp 21) (.tmp 22) 33 3 .i64 8 rfl Try.underlying33 info33 (by decide) _ _ L A L.length c rfl rfl HO.out (HLs.out.1.below HB.out) HB.out HB.out.size (by first | (simp; done) | (simp; omega)) ?_
          intro vwc wc hown hbl hg
          replace HR := Lib.hid (reads_own HR.out HNE.out hg)
          replace HO := Lib.hid hown
          replace HB := Lib.hid hbl
          clear hown hbl hg
          refine hK _ _ ?_
          clear hK K
          (try simp only [Act.put, List.setIfInBounds_toArray, List.set_cons_zero, List.set_cons_succ])
          refine wpAny_ready (rs := [6]) (by kernel_rfl) (by simp) ?_
          refine AllReady.cons rfl (fun K hK => ?_) ?_
          · rw [if_pos (by rfl)]
            (try simp only [List.getElem_toArray, List.getElem_cons_succ, List.getElem_cons_zero])
            refine wp_append_row (w0 := W0) W0.heap.size (.tmp 23) (.tmp 26) 33 3 .i64 8 rfl Try.underlying33 info33 (by decide) _ _ [n] _ 1 _ rfl rfl HO.out HR.out HB.out HB.out.size (by first | (simp; done) | (simp; omega)) ?_
            intro vwe we hown hbl hg
            replace HO := Lib.hid hown
            replace HB := Lib.hid hbl
            clear hown hbl hg
            refine hK _ _ ?_
            clear hK K
            (try simp only [Act.put, List.setIfInBounds_toArray, List.set_cons_zero, List.set_cons_succ])
            refine wpAny_take (i := 7) (oi := _) (v := ?_) (by simp only [List.getElem?_toArray, List.getElem?_cons_succ, List.getElem?_cons_zero]; rfl) (by kernel_rfl) (by kernel_rfl) (by kernel_rfl) (by intro _ _ _ h; exact h) (Or.inl ⟨by rfl, ?_⟩) ?_
            rotate_left
            focus (intro w; go_simp; try with_reducible rfl)
            (try simp only [Act.put, List.setIfInBounds_toArray, List.set_cons_zero, List.set_cons_succ])
            refine wpAny_take (i := 8) (oi := _) (v := ?_) (by simp only [List.getElem?_toArray, List.getElem?_cons_succ, List.getElem?_cons_zero]; rfl) (by kernel_rfl) (by kernel_rfl) (by kernel_rfl) (by intro _ _ _ h; exact h) (Or.inl ⟨by rfl, ?_⟩) ?_
            rotate_left
            focus (intro w; go_simp; try with_reducible rfl)
            (try simp only [Act.put, List.setIfInBounds_toArray, List.set_cons_zero, List.set_cons_succ])
            refine wpAny_take (i := 9) (oi := _) (v := ?_) (by simp only [List.getElem?_toArray, List.getElem?_cons_succ, List.getElem?_cons_zero]; rfl) (by kernel_rfl) (by kernel_rfl) (by kernel_rfl) (by intro _ _ _ h; exact h) (Or.inl ⟨by rfl, ?_⟩) ?_
            rotate_left
            focus (intro w; go_simp; try with_reducible rfl)
            (try simp only [Act.put, List.setIfInBounds_toArray, List.set_cons_zero, List.set_cons_succ])
            refine wpAny_done (by kernel_rfl) ?_ _
            go_wp2
            go_ret3
            exact stepRes_own (own_mono (by have h := HO.out; rw [List.nil_append] at h; exact h) HB0.out.size) (HB0.out.trans (HB.out.mono HB0.out.size))
          exact AllReady.nil
        exact AllReady.nil
      exact AllReady.nil
    refine AllReady.cons rfl (fun K hK => ?_) ?_
    · go_simp
      have HR := Lib.hid (one_reads wd n)
      replace HB := Lib.hid (HB.out.alloc HB.out.size (.cells #[.int .i64 n] 3))
      generalize World.alloc wd (.cells #[.int .i64 n] 3) = wb at *
      refine hK _ _ ?_
      clear hK K
      (try simp only [Act.put, List.setIfInBounds_toArray, List.set_cons_zero, List.set_cons_succ])
      refine wpAny_ready (rs := [0]) (by kernel_rfl) (by simp) ?_
      refine AllReady.cons rfl (fun K hK => ?_) ?_
      · go_simp
        have HO := Lib.hid (own_empty HB.out HB.out.size)
        have HNE := Lib.hid (reads_lt HR.out)
        replace HR := Lib.hid (ReadsInt.below HR.out ((Below.refl _ _).alloc (Nat.le_refl _) (.cells #[] 3)))
        replace HB := Lib.hid (HB.out.alloc HB.out.size (.cells #[] 3))
        generalize World.alloc wb (.cells #[] 3) = wa at *
        refine hK _ _ ?_
        clear hK K
        (try simp only [Act.put, List.setIfInBounds_toArray, List.set_cons_zero, List.set_cons_succ])
        refine wpAny_ready (rs := [2]) (by kernel_rfl) (by simp) ?_
        refine AllReady.cons rfl (fun K hK => ?_) ?_
        · rw [if_pos (by rfl)]
          (try simp only [List.getElem_toArray, List.getElem_cons_succ, List.getElem_cons_zero])
          refine wp_append_row (w0 := W0) W0.heap.size (.tmp 21) (.tmp 22) 33 3 .i64 8 rfl Try.underlying33 info33 (by decide) _ _ L A L.length c rfl rfl HO.out (HLs.out.1.below HB.out) HB.out HB.out.size (by first | (simp; done) | (simp; omega)) ?_
          intro vwc wc hown hbl hg
          replace HR := Lib.hid (reads_own HR.out HNE.out hg)
          replace HO := Lib.hid hown
          replace HB := Lib.hid hbl
          clear hown hbl hg
          refine hK _ _ ?_
          clear hK K
          (try simp only [Act.put, List.setIfInBounds_toArray, List.set_cons_zero, List.set_cons_succ])
          refine wpAny_ready (rs := [6]) (by kernel_rfl) (by simp) ?_
          refine AllReady.cons rfl (fun K hK => ?_) ?_
          · rw [if_pos (by rfl)]
            (try simp only [List.getElem_toArray, List.getElem_cons_succ, List.getElem_cons_zero])
            refine wp_append_row (w0 := W0) W0.heap.size (.tmp 23) (.tmp 26) 33 3 .i64 8 rfl Try.underlying33 info33 (by decide) _ _ [n] _ 1 _ rfl rfl HO.out HR.out HB.out HB.out.size (by first | (simp; done) | (simp; omega)) ?_
            intro vwe we hown hbl hg
            replace HO := Lib.hid hown
            replace HB := Lib.hid hbl
            clear hown hbl hg
            refine hK _ _ ?_
            clear hK K
            (try simp only [Act.put, List.setIfInBounds_toArray, List.set_cons_zero, List.set_cons_succ])
            refine wpAny_take (i := 7) (oi := _) (v := ?_) (by simp only [List.getElem?_toArray, List.getElem?_cons_succ, List.getElem?_cons_zero]; rfl) (by kernel_rfl) (by kernel_rfl) (by kernel_rfl) (by intro _ _ _ h; exact h) (Or.inl ⟨by rfl, ?_⟩) ?_
            rotate_left
            focus (intro w; go_simp; try with_reducible rfl)
            (try simp only [Act.put, List.setIfInBounds_toArray, List.set_cons_zero, List.set_cons_succ])
            refine wpAny_take (i := 8) (oi := _) (v := ?_) (by simp only [List.getElem?_toArray, List.getElem?_cons_succ, List.getElem?_cons_zero]; rfl) (by kernel_rfl) (by kernel_rfl) (by kernel_rfl) (by intro _ _ _ h; exact h) (Or.inl ⟨by rfl, ?_⟩) ?_
            rotate_left
            focus (intro w; go_simp; try with_reducible rfl)
            (try simp only [Act.put, List.setIfInBounds_toArray, List.set_cons_zero, List.set_cons_succ])
            refine wpAny_take (i := 9) (oi := _) (v := ?_) (by simp only [List.getElem?_toArray, List.getElem?_cons_succ, List.getElem?_cons_zero]; rfl) (by kernel_rfl) (by kernel_rfl) (by kernel_rfl) (by intro _ _ _ h; exact h) (Or.inl ⟨by rfl, ?_⟩) ?_
            rotate_left
            focus (intro w; go_simp; try with_reducible rfl)
            (try simp only [Act.put, List.setIfInBounds_toArray, List.set_cons_zero, List.set_cons_succ])
            refine wpAny_done (by kernel_rfl) ?_ _
            go_wp2
            go_ret3
            exact stepRes_own (own_mono (by have h := HO.out; rw [List.nil_append] at h; exact h) HB0.out.size) (HB0.out.trans (HB.out.mono HB0.out.size))
          exact AllReady.nil
        exact AllReady.nil
      exact AllReady.nil
    exact AllReady.nil
  exact AllReady.nil
theorem step_full (kind n : Int) (B : Option Addr) (d : Nat) (l : List Int) (A : Option Addr) (c : Nat) (L : List Int) (most : Nat) (w : World) (hL : SlI w A L.length c L) (hl : SlI w B l.length d l) (hLm : L.length ≤ most) (hm : most ≤ 65536) (hll : l.length ≤ 1000000) (hk : kind = 0) (hlt : ¬ L.length < most) :
    Calls Try.prog 13 #[.agg #[.int .i64 kind, .int .i64 n, .slice B l.length d], .slice A L.length c, .int .i64 most] w (StepRes w A L 0 false) := by
  subst hk
  obtain ⟨h0, h1, h2⟩ := op_cells w 0 n (.slice B l.length d)
  have hb0 : Below w.heap.size w (w.alloc (.cells #[.int .i64 0, .int .i64 n, .slice B l.length d] 35)) := (Below.refl _ w).alloc (Nat.le_refl _) _
  have HLs := Lib.hid (slI_below hL hb0)
  have HLl := Lib.hid (slI_below hl hb0)
  have HB0 := Lib.hid hb0
  obtain ⟨W0, hW0⟩ : ∃ W0, W0 = w.alloc (.cells #[.int .i64 0, .int .i64 n, .slice B l.length d] 35) := ⟨_, rfl⟩
  go_enter Try.func13, Try.ntmps13
  go_upto_region 1 with fail
  rw [← hW0] at HB0 HLs HLl h0 h1 h2 ⊢
  clear hW0
  go_wp2
  go_ret3
  exact ⟨A, c, rfl, HLs.out, fun ad e => .inr e, HB0.out⟩
theorem step_out (kind n : Int) (B : Option Addr) (d : Nat) (l : List Int) (A : Option Addr) (c : Nat) (L : List Int) (most : Nat) (w : World) (hL : SlI w A L.length c L) (hl : SlI w B l.length d l) (hLm : L.length ≤ most) (hm : most ≤ 65536) (hll : l.length ≤ 1000000) (q : Int) (hq : (kind = 1 ∧ q = 0) ∨ (kind = 2 ∧ q = n)) (ho : q < 0 ∨ (L.length : Int) ≤ q) :
    Calls Try.prog 13 #[.agg #[.int .i64 kind, .int .i64 n, .slice B l.length d], .slice A L.length c, .int .i64 most] w (StepRes w A L 0 false) := by
  rcases hq with ⟨rfl, rfl⟩ | ⟨rfl, rfl⟩
  · have ho1 : (L.length : Int) ≤ 0 := by omega
    have ho2 : L.length = 0 := by omega
    obtain ⟨h0, h1, h2⟩ := op_cells w 1 n (.slice B l.length d)
    have hb0 : Below w.heap.size w (w.alloc (.cells #[.int .i64 1, .int .i64 n, .slice B l.length d] 35)) := (Below.refl _ w).alloc (Nat.le_refl _) _
    have HLs := Lib.hid (slI_below hL hb0)
    have HLl := Lib.hid (slI_below hl hb0)
    have HB0 := Lib.hid hb0
    obtain ⟨W0, hW0⟩ : ∃ W0, W0 = w.alloc (.cells #[.int .i64 1, .int .i64 n, .slice B l.length d] 35) := ⟨_, rfl⟩
    go_enter Try.func13, Try.ntmps13
    go_upto_region 1 with fail
    rw [← hW0] at HB0 HLs HLl h0 h1 h2 ⊢
    clear hW0
    go_wp2
    go_ret3
    exact ⟨A, c, rfl, HLs.out, fun ad e => .inr e, HB0.out⟩
  · rcases ho with ho | ho
    · obtain ⟨h0, h1, h2⟩ := op_cells w 2 q (.slice B l.length d)
      have hb0 : Below w.heap.size w (w.alloc (.cells #[.int .i64 2, .int .i64 q, .slice B l.length d] 35)) := (Below.refl _ w).alloc (Nat.le_refl _) _
      have HLs := Lib.hid (slI_below hL hb0)
      have HLl := Lib.hid (slI_below hl hb0)
      have HB0 := Lib.hid hb0
      obtain ⟨W0, hW0⟩ : ∃ W0, W0 = w.alloc (.cells #[.int .i64 2, .int .i64 q, .slice B l.length d] 35) := ⟨_, rfl⟩
      go_enter Try.func13, Try.ntmps13
      go_upto_region 1 with fail
      rw [← hW0] at HB0 HLs HLl h0 h1 h2 ⊢
      clear hW0
      go_wp2
      go_ret3
      exact ⟨A, c, rfl, HLs.out, fun ad e => .inr e, HB0.out⟩
    · have ho0 : 0 ≤ q := by omega
      obtain ⟨h0, h1, h2⟩ := op_cells w 2 q (.slice B l.length d)
      have hb0 : Below w.heap.size w (w.alloc (.cells #[.int .i64 2, .int .i64 q, .slice B l.length d] 35)) := (Below.refl _ w).alloc (Nat.le_refl _) _
      have HLs := Lib.hid (slI_below hL hb0)
      have HLl := Lib.hid (slI_below hl hb0)
      have HB0 := Lib.hid hb0
      obtain ⟨W0, hW0⟩ : ∃ W0, W0 = w.alloc (.cells #[.int .i64 2, .int .i64 q, .slice B l.length d] 35) := ⟨_, rfl⟩
      go_enter Try.func13, Try.ntmps13
      go_upto_region 1 with fail
      rw [← hW0] at HB0 HLs HLl h0 h1 h2 ⊢
      clear hW0
      go_wp2
      go_ret3
      exact ⟨A, c, rfl, HLs.out, fun ad e => .inr e, HB0.out⟩
set_option maxHeartbeats 4000000 in
theorem step_fill (kind n : Int) (B : Option Addr) (d : Nat) (l : List Int) (A : Option Addr) (c : Nat) (L : List Int) (most : Nat) (w : World) (hL : SlI w A L.length c L) (hl : SlI w B l.length d l) (hLm : L.length ≤ most) (hm : most ≤ 65536) (hll : l.length ≤ 1000000) (hk : kind = 3) :
    Calls Try.prog 13 #[.agg #[.int .i64 kind, .int .i64 n, .slice B l.length d], .slice A L.length c, .int .i64 most] w (StepRes w A (fillL most L l) (fillN most L l : Nat) true) := by
  subst hk
  obtain ⟨h0, h1, h2⟩ := op_cells w 3 n (.slice B l.length d)
  have hb0 : Below w.heap.size w (w.alloc (.cells #[.int .i64 3, .int .i64 n, .slice B l.length d] 35)) := (Below.refl _ w).alloc (Nat.le_refl _) _
  have HLs := Lib.hid (slI_below hL hb0)
  have HLl := Lib.hid (slI_below hl hb0)
  have HB0 := Lib.hid hb0
  obtain ⟨W0, hW0⟩ : ∃ W0, W0 = w.alloc (.cells #[.int .i64 3, .int .i64 n, .slice B l.length d] 35) := ⟨_, rfl⟩
  unfold fillL
  have hmm : fillN most L l = if most - L.length ≤ l.length then most - L.length else l.length := rfl
  have HML : Hid (fillN most L l ≤ l.length) := by show _ ≤ _; rw [hmm]; split <;> omega
  have hmB : fillN most L l ≤ 65536 := by rw [hmm]; split <;> omega
  have hld := hl.2
  generalize hm : fillN most L l = m at *
  have hmd : m ≤ d := Nat.le_trans HML.out hld
  have hmd2 : (m : Int) ≤ (d : Int) := by omega
  have hm0 : (0 : Int) ≤ (m : Int) := by omega
  by_cases hle : most - L.length ≤ l.length
  · rw [if_pos hle] at hmm
    have hmi : (most : Int) - (L.length : Int) = (m : Int) := by omega
    have hle2 : (m : Int) ≤ (l.length : Int) := by omega
    clear hm hmm hle
    go_enter Try.func13, Try.ntmps13
    go_upto_region 1 with fail
    rw [← hW0] at HB0 HLs HLl h0 h1 h2 ⊢
    clear hW0
    go_wp2_with fail
    have H2 := Lib.hid h2
    have HB := Lib.hid (Below.refl W0.heap.size W0).drew
    clear h2
    refine wp_region_any (by kernel_rfl) ?_
    (try (change wpAny _ _ _ _ _ _ _ (World.drew _)))
    generalize World.drew W0 = wd at *
    refine wpAny_take (i := 1) (oi := _) (v := ?_) (by simp only [List.getElem?_toArray, List.getElem?_cons_succ, List.getElem?_cons_zero]; rfl) (by kernel_rfl) (by kernel_rfl) (by kernel_rfl) (by intro _ _ _ h; exact h) (Or.inl ⟨by rfl, ?_⟩) ?_
    rotate_left
    focus (intro w; go_simp; try with_reducible rfl)
    (try simp only [Act.put, List.setIfInBounds_toArray, List.set_cons_zero, List.set_cons_succ])
    refine wpAny_take (i := 3) (oi := _) (v := ?_) (by simp only [List.getElem?_toArray, List.getElem?_cons_succ, List.getElem?_cons_zero]; rfl) (by kernel_rfl) (by kernel_rfl) (by kernel_rfl) (by intro _ _ _ h; exact h) (Or.inl ⟨by rfl, ?_⟩) ?_
    rotate_left
    focus (intro w; go_simp; try with_reducible rfl)
    (try simp only [Act.put, List.setIfInBounds_toArray, List.set_cons_zero, List.set_cons_succ])
    refine wpAny_take (i := 5) (oi := _) (v := ?_) (by simp only [List.getElem?_toArray, List.getElem?_cons_succ, List.getElem?_cons_zero]; rfl) (by kernel_rfl) (by kernel_rfl) (by kernel_rfl) (by intro _ _ _ h; exact h) (Or.inl ⟨by rfl, ?_⟩) ?_
    rotate_left
    focus (intro w; go_simp; try with_reducible rfl)
    (try simp only [Act.put, List.setIfInBounds_toArray, List.set_cons_zero, List.set_cons_succ])
    refine wpAny_take (i := 8) (oi := _) (v := ?_) (by simp only [List.getElem?_toArray, List.getElem?_cons_succ, List.getElem?_cons_zero]; rfl) (by kernel_rfl) (by kernel_rfl) (by kernel_rfl) (by intro _ _ _ h; exact h) (Or.inl ⟨by rfl, ?_⟩) ?_
    rotate_left
    focus (intro w; go_simp; try with_reducible rfl)
    (try simp only [Act.put, List.setIfInBounds_toArray, List.set_cons_zero, List.set_cons_succ])
    refine wpAny_ready (rs := [0, 4]) (by kernel_rfl) (by simp) ?_
    refine AllReady.cons rfl (fun K hK => ?_) ?_
    · go_simp
      have HO := Lib.hid (own_empty HB.out HB.out.size)
      replace HB := Lib.hid (HB.out.alloc HB.out.size (.cells #[] 3))
      generalize World.alloc wd (.cells #[] 3) = wa at *
      refine hK _ _ ?_
      clear hK K
      (try simp only [Act.put, List.setIfInBounds_toArray, List.set_cons_zero, List.set_cons_succ])
      refine wpAny_ready (rs := [2, 4]) (by kernel_rfl) (by simp) ?_
      refine AllReady.cons rfl (fun K hK => ?_) ?_
      · rw [if_pos (by rfl)]
        (try simp only [List.getElem_toArray, List.getElem_cons_succ, List.getElem_cons_zero])
        refine wp_append_row (w0 := W0) W0.heap.size (.tmp 41) (.tmp 42) 33 3 .i64 8 rfl Try.underlying33 info33 (by decide) _ _ L A L.length c rfl rfl HO.out (HLs.out.1.below HB.out) HB.out HB.out.size (by first | (simp; done) | (simp; omega)) ?_
        intro vwc wc hown hbl hg
        replace HO := Lib.hid hown
        replace HB := Lib.hid hbl
        clear hown hbl hg
        refine hK _ _ ?_
        clear hK K
        (try simp only [Act.put, List.setIfInBounds_toArray, List.set_cons_zero, List.set_cons_succ])
        refine wpAny_ready (rs := [4]) (by kernel_rfl) (by simp) ?_
        refine AllReady.cons rfl (fun K hK => ?_) ?_
        · have hc := cell_below HB.out H2.out
          go_simp
          clear hc
          refine hK _ _ ?_
          clear hK K
          (try simp only [Act.put, List.setIfInBounds_toArray, List.set_cons_zero, List.set_cons_succ])
          refine wpAny_take (i := 6) (oi := _) (v := ?_) (by simp only [List.getElem?_toArray, List.getElem?_cons_succ, List.getElem?_cons_zero]; rfl) (by kernel_rfl) (by kernel_rfl) (by kernel_rfl) (by intro _ _ _ h; exact h) (Or.inl ⟨by rfl, ?_⟩) ?_
          rotate_left
          focus (intro w; go_simp; try with_reducible rfl)
          (try simp only [Act.put, List.setIfInBounds_toArray, List.set_cons_zero, List.set_cons_succ])
          refine wpAny_ready (rs := [7]) (by kernel_rfl) (by simp) ?_
          refine AllReady.cons rfl (fun K hK => ?_) ?_
          · rw [if_pos (by rfl)]
            (try simp only [List.getElem_toArray, List.getElem_cons_succ, List.getElem_cons_zero])
            refine wp_append_row (w0 := W0) W0.heap.size (.tmp 43) (.tmp 47) 33 3 .i64 8 rfl Try.underlying33 info33 (by decide) _ _ (l.take m) B m d rfl rfl HO.out ((HLl.out.1.take_ m HML.out).below HB.out) HB.out HB.out.size (by first | (simp; done) | (simp; omega)) ?_
            intro vwe we hown hbl hg
            replace HO := Lib.hid hown
            replace HB := Lib.hid hbl
            clear hown hbl hg
            refine hK _ _ ?_
            clear hK K
            (try simp only [Act.put, List.setIfInBounds_toArray, List.set_cons_zero, List.set_cons_succ])
            refine wpAny_take (i := 9) (oi := _) (v := ?_) (by simp only [List.getElem?_toArray, List.getElem?_cons_succ, List.getElem?_cons_zero]; rfl) (by kernel_rfl) (by kernel_rfl) (by kernel_rfl) (by intro _ _ _ h; exact h) (Or.inl ⟨by rfl, ?_⟩) ?_
            rotate_left
            focus (intro w; go_simp; try with_reducible rfl)
            (try simp only [Act.put, List.setIfInBounds_toArray, List.set_cons_zero, List.set_cons_succ])
            refine wpAny_take (i := 10) (oi := _) (v := ?_) (by simp only [List.getElem?_toArray, List.getElem?_cons_succ, List.getElem?_cons_zero]; rfl) (by kernel_rfl) (by kernel_rfl) (by kernel_rfl) (by intro _ _ _ h; exact h) (Or.inl ⟨by rfl, ?_⟩) ?_
            rotate_left
            focus (intro w; go_simp; try with_reducible rfl)
            (try simp only [Act.put, List.setIfInBounds_toArray, List.set_cons_zero, List.set_cons_succ])
            refine wpAny_take (i := 11) (oi := _) (v := ?_) (by simp only [List.getElem?_toArray, List.getElem?_cons_succ, List.getElem?_cons_zero]; rfl) (by kernel_rfl) (by kernel_rfl) (by kernel_rfl) (by intro _ _ _ h; exact h) (Or.inl ⟨by rfl, ?_⟩) ?_
            rotate_left
            focus (intro w; go_simp; try with_reducible rfl)
            (try simp only [Act.put, List.setIfInBounds_toArray, List.set_cons_zero, List.set_cons_succ])
            refine wpAny_done (by kernel_rfl) ?_ _
            go_wp2
            go_ret3
            exact stepRes_own (own_mono (by have h := HO.out; rw [List.nil_append] at h; exact h) HB0.out.size) (HB0.out.trans (HB.out.mono HB0.out.size))
          exact AllReady.nil
        exact AllReady.nil
      refine AllReady.cons rfl (fun K hK => ?_) ?_
      · have hc := cell_below HB.out H2.out
        go_simp
        clear hc
        refine hK _ _ ?_
        clear hK K
        (try simp only [Act.put, List.setIfInBounds_toArray, List.set_cons_zero, List.set_cons_succ])
        refine wpAny_take (i := 6) (oi := _) (v := ?_) (by simp only [List.getElem?_toArray, List.getElem?_cons_succ, List.getElem?_cons_zero]; rfl) (by kernel_rfl) (by kernel_rfl) (by kernel_rfl) (by intro _ _ _ h; exact h) (Or.inl ⟨by rfl, ?_⟩) ?_
        rotate_left
        focus (intro w; go_simp; try with_reducible rfl)
        (try simp only [Act.put, List.setIfInBounds_toArray, List.set_cons_zero, List.set_cons_succ])
        refine wpAny_ready (rs := [2]) (by kernel_rfl) (by simp) ?_
        refine AllReady.cons rfl (fun K hK => ?_) ?_
        · rw [if_pos (by rfl)]
          (try simp only [List.getElem_toArray, List.getElem_cons_succ, List.getElem_cons_zero])
          refine wp_append_row (w0 := W0) W0.heap.size (.tmp 41) (.tmp 42) 33 3 .i64 8 rfl Try.underlying33 info33 (by decide) _ _ L A L.length c rfl rfl HO.out (HLs.out.1.below HB.out) HB.out HB.out.size (by first | (simp; done) | (simp; omega)) ?_
          intro vwc wc hown hbl hg
          replace HO := Lib.hid hown
          replace HB := Lib.hid hbl
          clear hown hbl hg
          refine hK _ _ ?_
          clear hK K
          (try simp only [Act.put, List.setIfInBounds_toArray, List.set_cons_zero, List.set_cons_succ])
          refine wpAny_ready (rs := [7]) (by kernel_rfl) (by simp) ?_
          refine AllReady.cons rfl (fun K hK => ?_) ?_
          · rw [if_pos (by rfl)]
            (try simp only [List.getElem_toArray, List.getElem_cons_succ, List.getElem_cons_zero])
            refine wp_append_row (w0 := W0) W0.heap.size (.tmp 43) (.tmp 47) 33 3 .i64 8 rfl Try.underlying33 info33 (by decide) _ _ (l.take m) B m d rfl rfl HO.out ((HLl.out.1.take_ m HML.out).below HB.out) HB.out HB.out.size (by first | (simp; done) | (simp; omega)) ?_
            intro vwe we hown hbl hg
            replace HO := Lib.hid hown
            replace HB := Lib.hid hbl
            clear hown hbl hg
            refine hK _ _ ?_
            clear hK K
            (try simp only [Act.put, List.setIfInBounds_toArray, List.set_cons_zero, List.set_cons_succ])
            refine wpAny_take (i := 9) (oi := _) (v := ?_) (by simp only [List.getElem?_toArray, List.getElem?_cons_succ, List.getElem?_cons_zero]; rfl) (by kernel_rfl) (by kernel_rfl) (by kernel_rfl) (by intro _ _ _ h; exact h) (Or.inl ⟨by rfl, ?_⟩) ?_
            rotate_left
            focus (intro w; go_simp; try with_reducible rfl)
            (try simp only [Act.put, List.setIfInBounds_toArray, List.set_cons_zero, List.set_cons_succ])
            refine wpAny_take (i := 10) (oi := _) (v := ?_) (by simp only [List.getElem?_toArray, List.getElem?_cons_succ, List.getElem?_cons_zero]; rfl) (by kernel_rfl) (by kernel_rfl) (by kernel_rfl) (by intro _ _ _ h; exact h) (Or.inl ⟨by rfl, ?_⟩) ?_
            rotate_left
            focus (intro w; go_simp; try with_reducible rfl)
            (try simp only [Act.put, List.setIfInBounds_toArray, List.set_cons_zero, List.set_cons_succ])
            refine wpAny_take (i := 11) (oi := _) (v := ?_) (by simp only [List.getElem?_toArray, List.getElem?_cons_succ, List.getElem?_cons_zero]; rfl) (by kernel_rfl) (by kernel_rfl) (by kernel_rfl) (by intro _ _ _ h; exact h) (Or.inl ⟨by rfl, ?_⟩) ?_
            rotate_left
            focus (intro w; go_simp; try with_reducible rfl)
            (try simp only [Act.put, List.setIfInBounds_toArray, List.set_cons_zero, List.set_cons_succ])
            refine wpAny_done (by kernel_rfl) ?_ _
            go_wp2
            go_ret3
            exact stepRes_own (own_mono (by have h := HO.out; rw [List.nil_append] at h; exact h) HB0.out.size) (HB0.out.trans (HB.out.mono HB0.out.size))
          exact AllReady.nil
        exact AllReady.nil
      exact AllReady.nil
    refine AllReady.cons rfl (fun K hK => ?_) ?_
    · have hc := cell_below HB.out H2.out
      go_simp
      clear hc
      refine hK _ _ ?_
      clear hK K
      (try simp only [Act.put, List.setIfInBounds_toArray, List.set_cons_zero, List.set_cons_succ])
      refine wpAny_take (i := 6) (oi := _) (v := ?_) (by simp only [List.getElem?_toArray, List.getElem?_cons_succ, List.getElem?_cons_zero]; rfl) (by kernel_rfl) (by kernel_rfl) (by kernel_rfl) (by intro _ _ _ h; exact h) (Or.inl ⟨by rfl, ?_⟩) ?_
      rotate_left
      focus (intro w; go_simp; try with_reducible rfl)
      (try simp only [Act.put, List.setIfInBounds_toArray, List.set_cons_zero, List.set_cons_succ])
      refine wpAny_ready (rs := [0]) (by kernel_rfl) (by simp) ?_
      refine AllReady.cons rfl (fun K hK => ?_) ?_
      · go_simp
        have HO := Lib.hid (own_empty HB.out HB.out.size)
        replace HB := Lib.hid (HB.out.alloc HB.out.size (.cells #[] 3))
        generalize World.alloc wd (.cells #[] 3) = wa at *
        refine hK _ _ ?_
        clear hK K
        (try simp only [Act.put, List.setIfInBounds_toArray, List.set_cons_zero, List.set_cons_succ])
        refine wpAny_ready (rs := [2]) (by kernel_rfl) (by simp) ?_
        refine AllReady.cons rfl (fun K hK => ?_) ?_
        · rw [if_pos (by rfl)]
          (try simp only [List.getElem_toArray, List.getElem_cons_succ, List.getElem_cons_zero])
          refine wp_append_row (w0 := W0) W0.heap.size (.tmp 41) (.tmp 42) 33 3 .i64 8 rfl Try.underlying33 info33 (by decide) _ _ L A L.length c rfl rfl HO.out (HLs.out.1.below HB.out) HB.out HB.out.size (by first | (simp; done) | (simp; omega)) ?_
          intro vwc wc hown hbl hg
          replace HO := Lib.hid hown
          replace HB := Lib.hid hbl
          clear hown hbl hg
          refine hK _ _ ?_
          clear hK K
          (try simp only [Act.put, List.setIfInBounds_toArray, List.set_cons_zero, List.set_cons_succ])
          refine wpAny_ready (rs := [7]) (by kernel_rfl) (by simp) ?_
          refine AllReady.cons rfl (fun K hK => ?_) ?_
          · rw [if_pos (by rfl)]
            (try simp only [List.getElem_toArray, List.getElem_cons_succ, List.getElem_cons_zero])
            refine wp_append_row (w0 := W0) W0.heap.size (.tmp 43) (.tmp 47) 33 3 .i64 8 rfl Try.underlying33 info33 (by decide) _ _ (l.take m) B m d rfl rfl HO.out ((HLl.out.1.take_ m HML.out).below HB.out) HB.out HB.out.size (by first | (simp; done) | (simp; omega)) ?_
            intro vwe we hown hbl hg
            replace HO := Lib.hid hown
            replace HB := Lib.hid hbl
            clear hown hbl hg
            refine hK _ _ ?_
            clear hK K
            (try simp only [Act.put, List.setIfInBounds_toArray, List.set_cons_zero, List.set_cons_succ])
            refine wpAny_take (i := 9) (oi := _) (v := ?_) (by simp only [List.getElem?_toArray, List.getElem?_cons_succ, List.getElem?_cons_zero]; rfl) (by kernel_rfl) (by kernel_rfl) (by kernel_rfl) (by intro _ _ _ h; exact h) (Or.inl ⟨by rfl, ?_⟩) ?_
            rotate_left
            focus (intro w; go_simp; try with_reducible rfl)
            (try simp only [Act.put, List.setIfInBounds_toArray, List.set_cons_zero, List.set_cons_succ])
            refine wpAny_take (i := 10) (oi := _) (v := ?_) (by simp only [List.getElem?_toArray, List.getElem?_cons_succ, List.getElem?_cons_zero]; rfl) (by kernel_rfl) (by kernel_rfl) (by kernel_rfl) (by intro _ _ _ h; exact h) (Or.inl ⟨by rfl, ?_⟩) ?_
            rotate_left
            focus (intro w; go_simp; try with_reducible rfl)
            (try simp only [Act.put, List.setIfInBounds_toArray, List.set_cons_zero, List.set_cons_succ])
            refine wpAny_take (i := 11) (oi := _) (v := ?_) (by simp only [List.getElem?_toArray, List.getElem?_cons_succ, List.getElem?_cons_zero]; rfl) (by kernel_rfl) (by kernel_rfl) (by kernel_rfl) (by intro _ _ _ h; exact h) (Or.inl ⟨by rfl, ?_⟩) ?_
            rotate_left
            focus (intro w; go_simp; try with_reducible rfl)
            (try simp only [Act.put, List.setIfInBounds_toArray, List.set_cons_zero, List.set_cons_succ])
            refine wpAny_done (by kernel_rfl) ?_ _
            go_wp2
            go_ret3
            exact stepRes_own (own_mono (by have h := HO.out; rw [List.nil_append] at h; exact h) HB0.out.size) (HB0.out.trans (HB.out.mono HB0.out.size))
          exact AllReady.nil
        exact AllReady.nil
      exact AllReady.nil
    exact AllReady.nil
  · rw [if_neg hle] at hmm
    subst hmm
    have hmi : (l.length : Int) < (most : Int) - (L.length : Int) := by omega
    have hmi2 : ¬ (most : Int) - (L.length : Int) ≤ (l.length : Int) := by omega
    clear hm hle
    go_enter Try.func13, Try.ntmps13
    go_upto_region 1 with fail
    rw [← hW0] at HB0 HLs HLl h0 h1 h2 ⊢
    clear hW0
    go_wp2_with fail
    have H2 := Lib.hid h2
    have HB := Lib.hid (Below.refl W0.heap.size W0).drew
    clear h2
    refine wp_region_any (by kernel_rfl) ?_
    (try (change wpAny _ _ _ _ _ _ _ (World.drew _)))
    generalize World.drew W0 = wd at *
    refine wpAny_take (i := 1) (oi := _) (v := ?_) (by simp only [List.getElem?_toArray, List.getElem?_cons_succ, List.getElem?_cons_zero]; rfl) (by kernel_rfl) (by kernel_rfl) (by kernel_rfl) (by intro _ _ _ h; exact h) (Or.inl ⟨by rfl, ?_⟩) ?_
    rotate_left
    focus (intro w; go_simp; try with_reducible rfl)
    (try simp only [Act.put, List.setIfInBounds_toArray, List.set_cons_zero, List.set_cons_succ])
    refine wpAny_take (i := 3) (oi := _) (v := ?_) (by simp only [List.getElem?_toArray, List.getElem?_cons_succ, List.getElem?_cons_zero]; rfl) (by kernel_rfl) (by kernel_rfl) (by kernel_rfl) (by intro _ _ _ h; exact h) (Or.inl ⟨by rfl, ?_⟩) ?_
    rotate_left
    focus (intro w; go_simp; try with_reducible rfl)
    (try simp only [Act.put, List.setIfInBounds_toArray, List.set_cons_zero, List.set_cons_succ])
    refine wpAny_take (i := 5) (oi := _) (v := ?_) (by simp only [List.getElem?_toArray, List.getElem?_cons_succ, List.getElem?_cons_zero]; rfl) (by kernel_rfl) (by kernel_rfl) (by kernel_rfl) (by intro _ _ _ h; exact h) (Or.inl ⟨by rfl, ?_⟩) ?_
    rotate_left
    focus (intro w; go_simp; try with_reducible rfl)
    (try simp only [Act.put, List.setIfInBounds_toArray, List.set_cons_zero, List.set_cons_succ])
    refine wpAny_take (i := 8) (oi := _) (v := ?_) (by simp only [List.getElem?_toArray, List.getElem?_cons_succ, List.getElem?_cons_zero]; rfl) (by kernel_rfl) (by kernel_rfl) (by kernel_rfl) (by intro _ _ _ h; exact h) (Or.inl ⟨by rfl, ?_⟩) ?_
    rotate_left
    focus (intro w; go_simp; try with_reducible rfl)
    (try simp only [Act.put, List.setIfInBounds_toArray, List.set_cons_zero, List.set_cons_succ])
    refine wpAny_ready (rs := [0, 4]) (by kernel_rfl) (by simp) ?_
    refine AllReady.cons rfl (fun K hK => ?_) ?_
    · go_simp
      have HO := Lib.hid (own_empty HB.out HB.out.size)
      replace HB := Lib.hid (HB.out.alloc HB.out.size (.cells #[] 3))
      generalize World.alloc wd (.cells #[] 3) = wa at *
      refine hK _ _ ?_
      clear hK K
      (try simp only [Act.put, List.setIfInBounds_toArray, List.set_cons_zero, List.set_cons_succ])
      refine wpAny_ready (rs := [2, 4]) (by kernel_rfl) (by simp) ?_
      refine AllReady.cons rfl (fun K hK => ?_) ?_
      · rw [if_pos (by rfl)]
        (try simp only [List.getElem_toArray, List.getElem_cons_succ, List.getElem_cons_zero])
        refine wp_append_row (w0 := W0) W0.heap.size (.tmp 41) (.tmp 42) 33 3 .i64 8 rfl Try.underlying33 info33 (by decide) _ _ L A L.length c rfl rfl HO.out (HLs.out.1.below HB.out) HB.out HB.out.size (by first | (simp; done) | (simp; omega)) ?_
        intro vwc wc hown hbl hg
        replace HO := Lib.hid hown
        replace HB := Lib.hid hbl
        clear hown hbl hg
        refine hK _ _ ?_
        clear hK K
        (try simp only [Act.put, List.setIfInBounds_toArray, List.set_cons_zero, List.set_cons_succ])
        refine wpAny_ready (rs := [4]) (by kernel_rfl) (by simp) ?_
        refine AllReady.cons rfl (fun K hK => ?_) ?_
        · have hc := cell_below HB.out H2.out
          go_simp
          clear hc
          refine hK _ _ ?_
          clear hK K
          (try simp only [Act.put, List.setIfInBounds_toArray, List.set_cons_zero, List.set_cons_succ])
          refine wpAny_take (i := 6) (oi := _) (v := ?_) (by simp only [List.getElem?_toArray, List.getElem?_cons_succ, List.getElem?_cons_zero]; rfl) (by kernel_rfl) (by kernel_rfl) (by kernel_rfl) (by intro _ _ _ h; exact h) (Or.inl ⟨by rfl, ?_⟩) ?_
          rotate_left
          focus (intro w; go_simp; try with_reducible rfl)
          (try simp only [Act.put, List.setIfInBounds_toArray, List.set_cons_zero, List.set_cons_succ])
          refine wpAny_ready (rs := [7]) (by kernel_rfl) (by simp) ?_
          refine AllReady.cons rfl (fun K hK => ?_) ?_
          · rw [if_pos (by rfl)]
            (try simp only [List.getElem_toArray, List.getElem_cons_succ, List.getElem_cons_zero])
            refine wp_append_row (w0 := W0) W0.heap.size (.tmp 43) (.tmp 47) 33 3 .i64 8 rfl Try.underlying33 info33 (by decide) _ _ (l.take l.length) B l.length d rfl rfl HO.out ((HLl.out.1.take_ l.length HML.out).below HB.out) HB.out HB.out.size (by first | (simp; done) | (simp; omega)) ?_
            intro vwe we hown hbl hg
            replace HO := Lib.hid hown
            replace HB := Lib.hid hbl
            clear hown hbl hg
            refine hK _ _ ?_
            clear hK K
            (try simp only [Act.put, List.setIfInBounds_toArray, List.set_cons_zero, List.set_cons_succ])
            refine wpAny_take (i := 9) (oi := _) (v := ?_) (by simp only [List.getElem?_toArray, List.getElem?_cons_succ, List.getElem?_cons_zero]; rfl) (by kernel_rfl) (by kernel_rfl) (by kernel_rfl) (by intro _ _ _ h; exact h) (Or.inl ⟨by rfl, ?_⟩) ?_
            rotate_left
            focus (intro w; go_simp; try with_reducible rfl)
            (try simp only [Act.put, List.setIfInBounds_toArray, List.set_cons_zero, List.set_cons_succ])
            refine wpAny_take (i := 10) (oi := _) (v := ?_) (by simp only [List.getElem?_toArray, List.getElem?_cons_succ, List.getElem?_cons_zero]; rfl) (by kernel_rfl) (by kernel_rfl) (by kernel_rfl) (by intro _ _ _ h; exact h) (Or.inl ⟨by rfl, ?_⟩) ?_
            rotate_left
            focus (intro w; go_simp; try with_reducible rfl)
            (try simp only [Act.put, List.setIfInBounds_toArray, List.set_cons_zero, List.set_cons_succ])
            refine wpAny_take (i := 11) (oi := _) (v := ?_) (by simp only [List.getElem?_toArray, List.getElem?_cons_succ, List.getElem?_cons_zero]; rfl) (by kernel_rfl) (by kernel_rfl) (by kernel_rfl) (by intro _ _ _ h; exact h) (Or.inl ⟨by rfl, ?_⟩) ?_
            rotate_left
            focus (intro w; go_simp; try with_reducible rfl)
            (try simp only [Act.put, List.setIfInBounds_toArray, List.set_cons_zero, List.set_cons_succ])
            refine wpAny_done (by kernel_rfl) ?_ _
            go_wp2
            go_ret3
            exact stepRes_own (own_mono (by have h := HO.out; rw [List.nil_append] at h; exact h) HB0.out.size) (HB0.out.trans (HB.out.mono HB0.out.size))
          exact AllReady.nil
        exact AllReady.nil
      refine AllReady.cons rfl (fun K hK => ?_) ?_
      · have hc := cell_below HB.out H2.out
        go_simp
        clear hc
        refine hK _ _ ?_
        clear hK K
        (try simp only [Act.put, List.setIfInBounds_toArray, List.set_cons_zero, List.set_cons_succ])
        refine wpAny_take (i := 6) (oi := _) (v := ?_) (by simp only [List.getElem?_toArray, List.getElem?_cons_succ, List.getElem?_cons_zero]; rfl) (by kernel_rfl) (by kernel_rfl) (by kernel_rfl) (by intro _ _ _ h; exact h) (Or.inl ⟨by rfl, ?_⟩) ?_
        rotate_left
        focus (intro w; go_simp; try with_reducible rfl)
        (try simp only [Act.put, List.setIfInBounds_toArray, List.set_cons_zero, List.set_cons_succ])
        refine wpAny_ready (rs := [2]) (by kernel_rfl) (by simp) ?_
        refine AllReady.cons rfl (fun K hK => ?_) ?_
        · rw [if_pos (by rfl)]
          (try simp only [List.getElem_toArray, List.getElem_cons_succ, List.getElem_cons_zero])
          refine wp_append_row (w0 := W0) W0.heap.size (.tmp 41) (.tmp 42) 33 3 .i64 8 rfl Try.underlying33 info33 (by decide) _ _ L A L.length c rfl rfl HO.out (HLs.out.1.below HB.out) HB.out HB.out.size (by first | (simp; done) | (simp; omega)) ?_
          intro vwc wc hown hbl hg
          replace HO := Lib.hid hown
          replace HB := Lib.hid hbl
          clear hown hbl hg
          refine hK _ _ ?_
          clear hK K
          (try simp only [Act.put, List.setIfInBounds_toArray, List.set_cons_zero, List.set_cons_succ])
          refine wpAny_ready (rs := [7]) (by kernel_rfl) (by simp) ?_
          refine AllReady.cons rfl (fun K hK => ?_) ?_
          · rw [if_pos (by rfl)]
            (try simp only [List.getElem_toArray, List.getElem_cons_succ, List.getElem_cons_zero])
            refine wp_append_row (w0 := W0) W0.heap.size (.tmp 43) (.tmp 47) 33 3 .i64 8 rfl Try.underlying33 info33 (by decide) _ _ (l.take l.length) B l.length d rfl rfl HO.out ((HLl.out.1.take_ l.length HML.out).below HB.out) HB.out HB.out.size (by first | (simp; done) | (simp; omega)) ?_
            intro vwe we hown hbl hg
            replace HO := Lib.hid hown
            replace HB := Lib.hid hbl
            clear hown hbl hg
            refine hK _ _ ?_
            clear hK K
            (try simp only [Act.put, List.setIfInBounds_toArray, List.set_cons_zero, List.set_cons_succ])
            refine wpAny_take (i := 9) (oi := _) (v := ?_) (by simp only [List.getElem?_toArray, List.getElem?_cons_succ, List.getElem?_cons_zero]; rfl) (by kernel_rfl) (by kernel_rfl) (by kernel_rfl) (by intro _ _ _ h; exact h) (Or.inl ⟨by rfl, ?_⟩) ?_
            rotate_left
            focus (intro w; go_simp; try with_reducible rfl)
            (try simp only [Act.put, List.setIfInBounds_toArray, List.set_cons_zero, List.set_cons_succ])
            refine wpAny_take (i := 10) (oi := _) (v := ?_) (by simp only [List.getElem?_toArray, List.getElem?_cons_succ, List.getElem?_cons_zero]; rfl) (by kernel_rfl) (by kernel_rfl) (by kernel_rfl) (by intro _ _ _ h; exact h) (Or.inl ⟨by rfl, ?_⟩) ?_
            rotate_left
            focus (intro w; go_simp; try with_reducible rfl)
            (try simp only [Act.put, List.setIfInBounds_toArray, List.set_cons_zero, List.set_cons_succ])
            refine wpAny_take (i := 11) (oi := _) (v := ?_) (by simp only [List.getElem?_toArray, List.getElem?_cons_succ, List.getElem?_cons_zero]; rfl) (by kernel_rfl) (by kernel_rfl) (by kernel_rfl) (by intro _ _ _ h; exact h) (Or.inl ⟨by rfl, ?_⟩) ?_
            rotate_left
            focus (intro w; go_simp; try with_reducible rfl)
            (try simp only [Act.put, List.setIfInBounds_toArray, List.set_cons_zero, List.set_cons_succ])
            refine wpAny_done (by kernel_rfl) ?_ _
            go_wp2
            go_ret3
            exact stepRes_own (own_mono (by have h := HO.out; rw [List.nil_append] at h; exact h) HB0.out.size) (HB0.out.trans (HB.out.mono HB0.out.size))
          exact AllReady.nil
        exact AllReady.nil
      exact AllReady.nil
    refine AllReady.cons rfl (fun K hK => ?_) ?_
    · have hc := cell_below HB.out H2.out
      go_simp
      clear hc
      refine hK _ _ ?_
      clear hK K
      (try simp only [Act.put, List.setIfInBounds_toArray, List.set_cons_zero, List.set_cons_succ])
      refine wpAny_take (i := 6) (oi := _) (v := ?_) (by simp only [List.getElem?_toArray, List.getElem?_cons_succ, List.getElem?_cons_zero]; rfl) (by kernel_rfl) (by kernel_rfl) (by kernel_rfl) (by intro _ _ _ h; exact h) (Or.inl ⟨by rfl, ?_⟩) ?_
      rotate_left
      focus (intro w; go_simp; try with_reducible rfl)
      (try simp only [Act.put, List.setIfInBounds_toArray, List.set_cons_zero, List.set_cons_succ])
      refine wpAny_ready (rs := [0]) (by kernel_rfl) (by simp) ?_
      refine AllReady.cons rfl (fun K hK => ?_) ?_
      · go_simp
        have HO := Lib.hid (own_empty HB.out HB.out.size)
        replace HB := Lib.hid (HB.out.alloc HB.out.size (.cells #[] 3))
        generalize World.alloc wd (.cells #[] 3) = wa at *
        refine hK _ _ ?_
        clear hK K
        (try simp only [Act.put, List.setIfInBounds_toArray, List.set_cons_zero, List.set_cons_succ])
        refine wpAny_ready (rs := [2]) (by kernel_rfl) (by simp) ?_
        refine AllReady.cons rfl (fun K hK => ?_) ?_
        · rw [if_pos (by rfl)]
          (try simp only [List.getElem_toArray, List.getElem_cons_succ, List.getElem_cons_zero])
          refine wp_append_row (w0 := W0) W0.heap.size (.tmp 41) (.tmp 42) 33 3 .i64 8 rfl Try.underlying33 info33 (by decide) _ _ L A L.length c rfl rfl HO.out (HLs.out.1.below HB.out) HB.out HB.out.size (by first | (simp; done) | (simp; omega)) ?_
          intro vwc wc hown hbl hg
          replace HO := Lib.hid hown
          replace HB := Lib.hid hbl
          clear hown hbl hg
          refine hK _ _ ?_
          clear hK K
          (try simp only [Act.put, List.setIfInBounds_toArray, List.set_cons_zero, List.set_cons_succ])
          refine wpAny_ready (rs := [7]) (by kernel_rfl) (by simp) ?_
          refine AllReady.cons rfl (fun K hK => ?_) ?_
          · rw [if_pos (by rfl)]
            (try simp only [List.getElem_toArray, List.getElem_cons_succ, List.getElem_cons_zero])
            refine wp_append_row (w0 := W0) W0.heap.size (.tmp 43) (.tmp 47) 33 3 .i64 8 rfl Try.underlying33 info33 (by decide) _ _ (l.take l.length) B l.length d rfl rfl HO.out ((HLl.out.1.take_ l.length HML.out).below HB.out) HB.out HB.out.size (by first | (simp; done) | (simp; omega)) ?_
            intro vwe we hown hbl hg
            replace HO := Lib.hid hown
            replace HB := Lib.hid hbl
            clear hown hbl hg
            refine hK _ _ ?_
            clear hK K
            (try simp only [Act.put, List.setIfInBounds_toArray, List.set_cons_zero, List.set_cons_succ])
            refine wpAny_take (i := 9) (oi := _) (v := ?_) (by simp only [List.getElem?_toArray, List.getElem?_cons_succ, List.getElem?_cons_zero]; rfl) (by kernel_rfl) (by kernel_rfl) (by kernel_rfl) (by intro _ _ _ h; exact h) (Or.inl ⟨by rfl, ?_⟩) ?_
            rotate_left
            focus (intro w; go_simp; try with_reducible rfl)
            (try simp only [Act.put, List.setIfInBounds_toArray, List.set_cons_zero, List.set_cons_succ])
            refine wpAny_take (i := 10) (oi := _) (v := ?_) (by simp only [List.getElem?_toArray, List.getElem?_cons_succ, List.getElem?_cons_zero]; rfl) (by kernel_rfl) (by kernel_rfl) (by kernel_rfl) (by intro _ _ _ h; exact h) (Or.inl ⟨by rfl, ?_⟩) ?_
            rotate_left
            focus (intro w; go_simp; try with_reducible rfl)
            (try simp only [Act.put, List.setIfInBounds_toArray, List.set_cons_zero, List.set_cons_succ])
            refine wpAny_take (i := 11) (oi := _) (v := ?_) (by simp only [List.getElem?_toArray, List.getElem?_cons_succ, List.getElem?_cons_zero]; rfl) (by kernel_rfl) (by kernel_rfl) (by kernel_rfl) (by intro _ _ _ h; exact h) (Or.inl ⟨by rfl, ?_⟩) ?_
            rotate_left
            focus (intro w; go_simp; try with_reducible rfl)
            (try simp only [Act.put, List.setIfInBounds_toArray, List.set_cons_zero, List.set_cons_succ])
            refine wpAny_done (by kernel_rfl) ?_ _
            go_wp2
            go_ret3
            exact stepRes_own (own_mono (by have h := HO.out; rw [List.nil_append] at h; exact h) HB0.out.size) (HB0.out.trans (HB.out.mono HB0.out.size))
          exact AllReady.nil
        exact AllReady.nil
      exact AllReady.nil
    exact AllReady.nil
set_option maxHeartbeats 4000000 in
theorem step_pop (kind n : Int) (B : Option Addr) (d : Nat) (l : List Int) (A : Option Addr) (c : Nat) (L : List Int) (most : Nat) (w : World) (hL : SlI w A L.length c L) (hl : SlI w B l.length d l) (hLm : L.length ≤ most) (hm : most ≤ 65536) (hll : l.length ≤ 1000000) (hk : kind = 1) (hq : 0 < L.length) :
    Calls Try.prog 13 #[.agg #[.int .i64 kind, .int .i64 n, .slice B l.length d], .slice A L.length c, .int .i64 most] w (StepRes w A (L.eraseIdx 0) (L.getD 0 0) true) := by
  subst hk
  obtain ⟨h0, h1, h2⟩ := op_cells w 1 n (.slice B l.length d)
  have hb0 : Below w.heap.size w (w.alloc (.cells #[.int .i64 1, .int .i64 n, .slice B l.length d] 35)) := (Below.refl _ w).alloc (Nat.le_refl _) _
  have HLs := Lib.hid (slI_below hL hb0)
  have HLl := Lib.hid (slI_below hl hb0)
  have HB0 := Lib.hid hb0
  obtain ⟨W0, hW0⟩ : ∃ W0, W0 = w.alloc (.cells #[.int .i64 1, .int .i64 n, .slice B l.length d] 35) := ⟨_, rfl⟩
  obtain ⟨A1, hcut, hA1⟩ := print_cut (P := Try.prog) 33 3 .i64 Try.underlying33 (i := isI3.choose) isI3.choose_spec.1 isI3.choose_spec.2 A L.length c (0 + 1) (by omega)
  have HA1 : Hid (∀ (w : World) (k : IntKind) (xs : List Int), L.length ≤ c → ReadsInt w k A L.length xs → ReadsInt w k A1 (L.length - (0 + 1)) (xs.drop (0 + 1))) := hA1
  obtain ⟨ad, hA2, hcells⟩ := (slI_reads hL) (by omega)
  have hce := cell_below hb0 (hcells 0 hq)
  rw [← hW0] at hce
  rw [show ad.add 0 = ad from by unfold Addr.add; simp] at hce
  have HCE := Lib.hid hce
  have HQ : Hid (0 ≤ L.length) := Nat.le_of_lt hq
  have HLC := Lib.hid hL.2
  have hLne : ¬ L = [] := by rintro rfl; simp at hq
  have hqc : (0 : Int) ≤ (c : Int) := by have := hL.2; omega
  have hq1 : (0 : Int) < (L.length : Int) := by omega
  have hq3 : (0 : Int) ≤ (0 : Int) := by omega
  have hw1 : IntKind.i64.wrap ((0 : Int) + 1) = (0 : Int) + 1 := by rw [IntKind.wrap_i64]; omega
  have hcut2 : ∀ W : World, (Instr.slice 33 (.slice (some ad) L.length c) (some (.int .i64 ((0 : Int) + 1))) none none).run Try.prog W = .ok (.slice A1 (L.length - (0 + 1)) (c - (0 + 1))) W := fun W => by
    have := hcut W
    rw [hA2] at this
    simpa using this
  have HFIN : Hid (∀ (r : Value) (wf : World), wf.ownsRow W0.heap.size 3 1 r (([] ++ L.take 0) ++ L.drop (0 + 1)).length (numI (([] ++ L.take 0) ++ L.drop (0 + 1))) → Below W0.heap.size W0 wf → StepRes w (some ad) L.tail (L.getD 0 0) true (.returned (.tuple #[r, .int .i64 (L.getD 0 0), .bool true])) wf) := fun r wf ho hb => by
    have e : ([] ++ L.take 0) ++ L.drop (0 + 1) = L.tail := by cases L <;> rfl
    rw [e] at ho
    rw [← hW0] at hb0
    exact stepRes_own (own_mono ho hb0.size) (hb0.trans (hb.mono hb0.size))
  clear hcut hA1 hcells hce
  subst hA2
  generalize L.getD 0 0 = y at *
  simp only [Int.zero_add] at hcut2 hw1
  go_enter Try.func13, Try.ntmps13
  go_upto_region 1 with fail
  rw [← hW0] at HB0 HLs HLl h0 h1 h2 ⊢
  clear hW0
  go_wp2_with fail
  have HB := Lib.hid (Below.refl W0.heap.size W0).drew
  refine wp_region_any (by kernel_rfl) ?_
  (try (change wpAny _ _ _ _ _ _ _ (World.drew _)))
  generalize World.drew W0 = wd at *
  refine wpAny_take (i := 1) (oi := _) (v := ?_) (by simp only [List.getElem?_toArray, List.getElem?_cons_succ, List.getElem?_cons_zero]; rfl) (by kernel_rfl) (by kernel_rfl) (by kernel_rfl) (by intro _ _ _ h; exact h) (Or.inl ⟨by rfl, ?_⟩) ?_
  rotate_left
  focus (intro w; go_simp; try with_reducible rfl)
  (try simp only [Act.put, List.setIfInBounds_toArray, List.set_cons_zero, List.set_cons_succ])
  refine wpAny_take (i := 2) (oi := _) (v := ?_) (by simp only [List.getElem?_toArray, List.getElem?_cons_succ, List.getElem?_cons_zero]; rfl) (by kernel_rfl) (by kernel_rfl) (by kernel_rfl) (by intro _ _ _ h; exact h) (Or.inl ⟨by rfl, ?_⟩) ?_
  rotate_left
  focus (intro w; go_simp; try with_reducible rfl)
  (try simp only [Act.put, List.setIfInBounds_toArray, List.set_cons_zero, List.set_cons_succ])
  refine wpAny_take (i := 3) (oi := _) (v := ?_) (by simp only [List.getElem?_toArray, List.getElem?_cons_succ, List.getElem?_cons_zero]; rfl) (by kernel_rfl) (by kernel_rfl) (by kernel_rfl) (by intro _ _ _ h; exact h) (Or.inl ⟨by rfl, ?_⟩) ?_
  rotate_left
  focus (intro w; go_simp; try with_reducible rfl)
  (try simp only [Act.put, List.setIfInBounds_toArray, List.set_cons_zero, List.set_cons_succ])
  refine wpAny_take (i := 5) (oi := _) (v := ?_) (by simp only [List.getElem?_toArray, List.getElem?_cons_succ, List.getElem?_cons_zero]; rfl) (by kernel_rfl) (by kernel_rfl) (by kernel_rfl) (by intro _ _ _ h; exact h) (Or.inl ⟨by rfl, ?_⟩) ?_
  rotate_left
  focus (intro w; go_simp; try with_reducible rfl)
  (try simp only [Act.put, List.setIfInBounds_toArray, List.set_cons_zero, List.set_cons_succ])
  refine wpAny_take (i := 6) (oi := _) (v := ?_) (by simp only [List.getElem?_toArray, List.getElem?_cons_succ, List.getElem?_cons_zero]; rfl) (by kernel_rfl) (by kernel_rfl) (by kernel_rfl) (by intro _ _ _ h; exact h) (Or.inl ⟨by rfl, ?_⟩) ?_
  rotate_left
  focus (intro w; go_simp; try with_reducible rfl)
  (try simp only [Act.put, List.setIfInBounds_toArray, List.set_cons_zero, List.set_cons_succ])
  refine wpAny_take (i := 7) (oi := _) (v := ?_) (by simp only [List.getElem?_toArray, List.getElem?_cons_succ, List.getElem?_cons_zero]; rfl) (by kernel_rfl) (by kernel_rfl) (by kernel_rfl) (by intro _ _ _ h; exact h) (Or.inl ⟨by rfl, ?_⟩) ?_
  rotate_left
  focus (intro w; go_simp; try with_reducible rfl)
  (try simp only [Act.put, List.setIfInBounds_toArray, List.set_cons_zero, List.set_cons_succ])
  refine wpAny_take (i := 8) (oi := _) (v := ?_) (by simp only [List.getElem?_toArray, List.getElem?_cons_succ, List.getElem?_cons_zero]; rfl) (by kernel_rfl) (by kernel_rfl) (by kernel_rfl) (by intro _ _ _ h; exact h) (Or.inl ⟨by rfl, ?_⟩) ?_
  rotate_left
  focus (intro w; go_simp; try with_reducible rfl)
  (try simp only [Act.put, List.setIfInBounds_toArray, List.set_cons_zero, List.set_cons_succ])
  refine wpAny_take (i := 10) (oi := _) (v := ?_) (by simp only [List.getElem?_toArray, List.getElem?_cons_succ, List.getElem?_cons_zero]; rfl) (by kernel_rfl) (by kernel_rfl) (by kernel_rfl) (by intro _ _ _ h; exact h) (Or.inl ⟨by rfl, ?_⟩) ?_
  rotate_left
  focus (intro w; go_simp; try with_reducible rfl)
  (try simp only [Act.put, List.setIfInBounds_toArray, List.set_cons_zero, List.set_cons_succ])
  refine wpAny_take (i := 11) (oi := _) (v := ?_) (by simp only [List.getElem?_toArray, List.getElem?_cons_succ, List.getElem?_cons_zero]; rfl) (by kernel_rfl) (by kernel_rfl) (by kernel_rfl) (by intro _ _ _ h; exact h) (Or.inl ⟨by rfl, ?_⟩) ?_
  rotate_left
  focus (intro w; go_simp; try with_reducible rfl)
  (try simp only [Act.put, List.setIfInBounds_toArray, List.set_cons_zero, List.set_cons_succ])
  refine wpAny_take (i := 12) (oi := _) (v := ?_) (by simp only [List.getElem?_toArray, List.getElem?_cons_succ, List.getElem?_cons_zero]; rfl) (by kernel_rfl) (by kernel_rfl) (by kernel_rfl) (by intro _ _ _ h; exact h) (Or.inl ⟨by rfl, ?_⟩) ?_
  rotate_left
  focus (intro w; go_simp; try with_reducible rfl)
  (try simp only [Act.put, List.setIfInBounds_toArray, List.set_cons_zero, List.set_cons_succ])
  refine wpAny_ready (rs := [0, 13]) (by kernel_rfl) (by simp) ?_
  refine AllReady.cons rfl (fun K hK => ?_) ?_
  · go_simp
    have HO := Lib.hid (own_empty HB.out HB.out.size)
    replace HB := Lib.hid (HB.out.alloc HB.out.size (.cells #[] 3))
    generalize World.alloc wd (.cells #[] 3) = wa at *
    refine hK _ _ ?_
    clear hK K
    (try simp only [Act.put, List.setIfInBounds_toArray, List.set_cons_zero, List.set_cons_succ])
    refine wpAny_ready (rs := [4, 13]) (by kernel_rfl) (by simp) ?_
    refine AllReady.cons rfl (fun K hK => ?_) ?_
    · rw [if_pos (by rfl)]
      (try simp only [List.getElem_toArray, List.getElem_cons_succ, List.getElem_cons_zero])
      refine wp_append_row (w0 := W0) W0.heap.size (.tmp 59) (.tmp 62) 33 3 .i64 8 rfl Try.underlying33 info33 (by decide) _ _ (L.take 0) (some ad) 0 c rfl rfl HO.out ((HLs.out.1.take_ 0 HQ.out).below HB.out) HB.out HB.out.size (by first | (simp; done) | (simp; omega)) ?_
      intro vwc wc hown hbl hg
      replace HO := Lib.hid hown
      replace HB := Lib.hid hbl
      clear hown hbl hg
      refine hK _ _ ?_
      clear hK K
      (try simp only [Act.put, List.setIfInBounds_toArray, List.set_cons_zero, List.set_cons_succ])
      refine wpAny_ready (rs := [9, 13]) (by kernel_rfl) (by simp) ?_
      refine AllReady.cons rfl (fun K hK => ?_) ?_
      · rw [if_pos (by rfl)]
        (try simp only [List.getElem_toArray, List.getElem_cons_succ, List.getElem_cons_zero])
        refine wp_append_row (w0 := W0) W0.heap.size (.tmp 63) (.tmp 67) 33 3 .i64 8 rfl Try.underlying33 info33 (by decide) _ _ (L.drop (0 + 1)) A1 (L.length - (0 + 1)) (c - (0 + 1)) rfl rfl HO.out ((HA1.out _ .i64 L HLC.out HLs.out.1).below HB.out) HB.out HB.out.size (by first | (simp; done) | (simp; omega)) ?_
        intro vwe we hown hbl hg
        replace HO := Lib.hid hown
        replace HB := Lib.hid hbl
        clear hown hbl hg
        refine hK _ _ ?_
        clear hK K
        (try simp only [Act.put, List.setIfInBounds_toArray, List.set_cons_zero, List.set_cons_succ])
        refine wpAny_take (i := 14) (oi := _) (v := ?_) (by simp only [List.getElem?_toArray, List.getElem?_cons_succ, List.getElem?_cons_zero]; rfl) (by kernel_rfl) (by kernel_rfl) (by kernel_rfl) (by intro _ _ _ h; exact h) (Or.inl ⟨by rfl, ?_⟩) ?_
        rotate_left
        focus (intro w; go_simp; try with_reducible rfl)
        (try simp only [Act.put, List.setIfInBounds_toArray, List.set_cons_zero, List.set_cons_succ])
        refine wpAny_ready (rs := [13]) (by kernel_rfl) (by simp) ?_
        refine AllReady.cons rfl (fun K hK => ?_) ?_
        · have hc := cell_below HB.out HCE.out
          go_simp
          clear hc
          refine hK _ _ ?_
          clear hK K
          (try simp only [Act.put, List.setIfInBounds_toArray, List.set_cons_zero, List.set_cons_succ])
          refine wpAny_take (i := 15) (oi := _) (v := ?_) (by simp only [List.getElem?_toArray, List.getElem?_cons_succ, List.getElem?_cons_zero]; rfl) (by kernel_rfl) (by kernel_rfl) (by kernel_rfl) (by intro _ _ _ h; exact h) (Or.inl ⟨by rfl, ?_⟩) ?_
          rotate_left
          focus (intro w; go_simp; try with_reducible rfl)
          (try simp only [Act.put, List.setIfInBounds_toArray, List.set_cons_zero, List.set_cons_succ])
          refine wpAny_take (i := 16) (oi := _) (v := ?_) (by simp only [List.getElem?_toArray, List.getElem?_cons_succ, List.getElem?_cons_zero]; rfl) (by kernel_rfl) (by kernel_rfl) (by kernel_rfl) (by intro _ _ _ h; exact h) (Or.inl ⟨by rfl, ?_⟩) ?_
          rotate_left
          focus (intro w; go_simp; try with_reducible rfl)
          (try simp only [Act.put, List.setIfInBounds_toArray, List.set_cons_zero, List.set_cons_succ])
          refine wpAny_done (by kernel_rfl) ?_ _
          go_wp2
          go_ret3
          first | exact HFIN.out _ _ HO.out HB.out | (rw [show L.eraseIdx 0 = L.tail from by cases L <;> rfl]; exact HFIN.out _ _ HO.out HB.out)
        exact AllReady.nil
      refine AllReady.cons rfl (fun K hK => ?_) ?_
      · have hc := cell_below HB.out HCE.out
        go_simp
        clear hc
        refine hK _ _ ?_
        clear hK K
        (try simp only [Act.put, List.setIfInBounds_toArray, List.set_cons_zero, List.set_cons_succ])
        refine wpAny_ready (rs := [9]) (by kernel_rfl) (by simp) ?_
        refine AllReady.cons rfl (fun K hK => ?_) ?_
        · rw [if_pos (by rfl)]
          (try simp only [List.getElem_toArray, List.getElem_cons_succ, List.getElem_cons_zero])
          refine wp_append_row (w0 := W0) W0.heap.size (.tmp 63) (.tmp 67) 33 3 .i64 8 rfl Try.underlying33 info33 (by decide) _ _ (L.drop (0 + 1)) A1 (L.length - (0 + 1)) (c - (0 + 1)) rfl rfl HO.out ((HA1.out _ .i64 L HLC.out HLs.out.1).below HB.out) HB.out HB.out.size (by first | (simp; done) | (simp; omega)) ?_
          intro vwe we hown hbl hg
          replace HO := Lib.hid hown
          replace HB := Lib.hid hbl
          clear hown hbl hg
          refine hK _ _ ?_
          clear hK K
          (try simp only [Act.put, List.setIfInBounds_toArray, List.set_cons_zero, List.set_cons_succ])
          refine wpAny_take (i := 14) (oi := _) (v := ?_) (by simp only [List.getElem?_toArray, List.getElem?_cons_succ, List.getElem?_cons_zero]; rfl) (by kernel_rfl) (by kernel_rfl) (by kernel_rfl) (by intro _ _ _ h; exact h) (Or.inl ⟨by rfl, ?_⟩) ?_
          rotate_left
          focus (intro w; go_simp; try with_reducible rfl)
          (try simp only [Act.put, List.setIfInBounds_toArray, List.set_cons_zero, List.set_cons_succ])
          refine wpAny_take (i := 15) (oi := _) (v := ?_) (by simp only [List.getElem?_toArray, List.getElem?_cons_succ, List.getElem?_cons_zero]; rfl) (by kernel_rfl) (by kernel_rfl) (by kernel_rfl) (by intro _ _ _ h; exact h) (Or.inl ⟨by rfl, ?_⟩) ?_
          rotate_left
          focus (intro w; go_simp; try with_reducible rfl)
          (try simp only [Act.put, List.setIfInBounds_toArray, List.set_cons_zero, List.set_cons_succ])
          refine wpAny_take (i := 16) (oi := _) (v := ?_) (by simp only [List.getElem?_toArray, List.getElem?_cons_succ, List.getElem?_cons_zero]; rfl) (by kernel_rfl) (by kernel_rfl) (by kernel_rfl) (by intro _ _ _ h; exact h) (Or.inl ⟨by rfl, ?_⟩) ?_
          rotate_left
          focus (intro w; go_simp; try with_reducible rfl)
          (try simp only [Act.put, List.setIfInBounds_toArray, List.set_cons_zero, List.set_cons_succ])
          refine wpAny_done (by kernel_rfl) ?_ _
          go_wp2
          go_ret3
          first | exact HFIN.out _ _ HO.out HB.out | (rw [show L.eraseIdx 0 = L.tail from by cases L <;> rfl]; exact HFIN.out _ _ HO.out HB.out)
        exact AllReady.nil
      exact AllReady.nil
    refine AllReady.cons rfl (fun K hK => ?_) ?_
    · have hc := cell_below HB.out HCE.out
      go_simp
      clear hc
      refine hK _ _ ?_
      clear hK K
      (try simp only [Act.put, List.setIfInBounds_toArray, List.set_cons_zero, List.set_cons_succ])
      refine wpAny_ready (rs := [4]) (by kernel_rfl) (by simp) ?_
      refine AllReady.cons rfl (fun K hK => ?_) ?_
      · rw [if_pos (by rfl)]
        (try simp only [List.getElem_toArray, List.getElem_cons_succ, List.getElem_cons_zero])
        refine wp_append_row (w0 := W0) W0.heap.size (.tmp 59) (.tmp 62) 33 3 .i64 8 rfl Try.underlying33 info33 (by decide) _ _ (L.take 0) (some ad) 0 c rfl rfl HO.out ((HLs.out.1.take_ 0 HQ.out).below HB.out) HB.out HB.out.size (by first | (simp; done) | (simp; omega)) ?_
        intro vwc wc hown hbl hg
        replace HO := Lib.hid hown
        replace HB := Lib.hid hbl
        clear hown hbl hg
        refine hK _ _ ?_
        clear hK K
        (try simp only [Act.put, List.setIfInBounds_toArray, List.set_cons_zero, List.set_cons_succ])
        refine wpAny_ready (rs := [9]) (by kernel_rfl) (by simp) ?_
        refine AllReady.cons rfl (fun K hK => ?_) ?_
        · rw [if_pos (by rfl)]
          (try simp only [List.getElem_toArray, List.getElem_cons_succ, List.getElem_cons_zero])
          refine wp_append_row (w0 := W0) W0.heap.size (.tmp 63) (.tmp 67) 33 3 .i64 8 rfl Try.underlying33 info33 (by decide) _ _ (L.drop (0 + 1)) A1 (L.length - (0 + 1)) (c - (0 + 1)) rfl rfl HO.out ((HA1.out _ .i64 L HLC.out HLs.out.1).below HB.out) HB.out HB.out.size (by first | (simp; done) | (simp; omega)) ?_
          intro vwe we hown hbl hg
          replace HO := Lib.hid hown
          replace HB := Lib.hid hbl
          clear hown hbl hg
          refine hK _ _ ?_
          clear hK K
          (try simp only [Act.put, List.setIfInBounds_toArray, List.set_cons_zero, List.set_cons_succ])
          refine wpAny_take (i := 14) (oi := _) (v := ?_) (by simp only [List.getElem?_toArray, List.getElem?_cons_succ, List.getElem?_cons_zero]; rfl) (by kernel_rfl) (by kernel_rfl) (by kernel_rfl) (by intro _ _ _ h; exact h) (Or.inl ⟨by rfl, ?_⟩) ?_
          rotate_left
          focus (intro w; go_simp; try with_reducible rfl)
          (try simp only [Act.put, List.setIfInBounds_toArray, List.set_cons_zero, List.set_cons_succ])
          refine wpAny_take (i := 15) (oi := _) (v := ?_) (by simp only [List.getElem?_toArray, List.getElem?_cons_succ, List.getElem?_cons_zero]; rfl) (by kernel_rfl) (by kernel_rfl) (by kernel_rfl) (by intro _ _ _ h; exact h) (Or.inl ⟨by rfl, ?_⟩) ?_
          rotate_left
          focus (intro w; go_simp; try with_reducible rfl)
          (try simp only [Act.put, List.setIfInBounds_toArray, List.set_cons_zero, List.set_cons_succ])
          refine wpAny_take (i := 16) (oi := _) (v := ?_) (by simp only [List.getElem?_toArray, List.getElem?_cons_succ, List.getElem?_cons_zero]; rfl) (by kernel_rfl) (by kernel_rfl) (by kernel_rfl) (by intro _ _ _ h; exact h) (Or.inl ⟨by rfl, ?_⟩) ?_
          rotate_left
          focus (intro w; go_simp; try with_reducible rfl)
          (try simp only [Act.put, List.setIfInBounds_toArray, List.set_cons_zero, List.set_cons_succ])
          refine wpAny_done (by kernel_rfl) ?_ _
          go_wp2
          go_ret3
          first | exact HFIN.out _ _ HO.out HB.out | (rw [show L.eraseIdx 0 = L.tail from by cases L <;> rfl]; exact HFIN.out _ _ HO.out HB.out)
        exact AllReady.nil
      exact AllReady.nil
    exact AllReady.nil
  refine AllReady.cons rfl (fun K hK => ?_) ?_
  · have hc := cell_below HB.out HCE.out
    go_simp
    clear hc
    refine hK _ _ ?_
    clear hK K
    (try simp only [Act.put, List.setIfInBounds_toArray, List.set_cons_zero, List.set_cons_succ])
    refine wpAny_ready (rs := [0]) (by kernel_rfl) (by simp) ?_
    refine AllReady.cons rfl (fun K hK => ?_) ?_
    · go_simp
      have HO := Lib.hid (own_empty HB.out HB.out.size)
      replace HB := Lib.hid (HB.out.alloc HB.out.size (.cells #[] 3))
      generalize World.alloc wd (.cells #[] 3) = wa at *
      refine hK _ _ ?_
      clear hK K
      (try simp only [Act.put, List.setIfInBounds_toArray, List.set_cons_zero, List.set_cons_succ])
      refine wpAny_ready (rs := [4]) (by kernel_rfl) (by simp) ?_
      refine AllReady.cons rfl (fun K hK => ?_) ?_
      · rw [if_pos (by rfl)]
        (try simp only [List.getElem_toArray, List.getElem_cons_succ, List.getElem_cons_zero])
        refine wp_append_row (w0 := W0) W0.heap.size (.tmp 59) (.tmp 62) 33 3 .i64 8 rfl Try.underlying33 info33 (by decide) _ _ (L.take 0) (some ad) 0 c rfl rfl HO.out ((HLs.out.1.take_ 0 HQ.out).below HB.out) HB.out HB.out.size (by first | (simp; done) | (simp; omega)) ?_
        intro vwc wc hown hbl hg
        replace HO := Lib.hid hown
        replace HB := Lib.hid hbl
        clear hown hbl hg
        refine hK _ _ ?_
        clear hK K
        (try simp only [Act.put, List.setIfInBounds_toArray, List.set_cons_zero, List.set_cons_succ])
        refine wpAny_ready (rs := [9]) (by kernel_rfl) (by simp) ?_
        refine AllReady.cons rfl (fun K hK => ?_) ?_
        · rw [if_pos (by rfl)]
          (try simp only [List.getElem_toArray, List.getElem_cons_succ, List.getElem_cons_zero])
          refine wp_append_row (w0 := W0) W0.heap.size (.tmp 63) (.tmp 67) 33 3 .i64 8 rfl Try.underlying33 info33 (by decide) _ _ (L.drop (0 + 1)) A1 (L.length - (0 + 1)) (c - (0 + 1)) rfl rfl HO.out ((HA1.out _ .i64 L HLC.out HLs.out.1).below HB.out) HB.out HB.out.size (by first | (simp; done) | (simp; omega)) ?_
          intro vwe we hown hbl hg
          replace HO := Lib.hid hown
          replace HB := Lib.hid hbl
          clear hown hbl hg
          refine hK _ _ ?_
          clear hK K
          (try simp only [Act.put, List.setIfInBounds_toArray, List.set_cons_zero, List.set_cons_succ])
          refine wpAny_take (i := 14) (oi := _) (v := ?_) (by simp only [List.getElem?_toArray, List.getElem?_cons_succ, List.getElem?_cons_zero]; rfl) (by kernel_rfl) (by kernel_rfl) (by kernel_rfl) (by intro _ _ _ h; exact h) (Or.inl ⟨by rfl, ?_⟩) ?_
          rotate_left
          focus (intro w; go_simp; try with_reducible rfl)
          (try simp only [Act.put, List.setIfInBounds_toArray, List.set_cons_zero, List.set_cons_succ])
          refine wpAny_take (i := 15) (oi := _) (v := ?_) (by simp only [List.getElem?_toArray, List.getElem?_cons_succ, List.getElem?_cons_zero]; rfl) (by kernel_rfl) (by kernel_rfl) (by kernel_rfl) (by intro _ _ _ h; exact h) (Or.inl ⟨by rfl, ?_⟩) ?_
          rotate_left
          focus (intro w; go_simp; try with_reducible rfl)
          (try simp only [Act.put, List.setIfInBounds_toArray, List.set_cons_zero, List.set_cons_succ])
          refine wpAny_take (i := 16) (oi := _) (v := ?_) (by simp only [List.getElem?_toArray, List.getElem?_cons_succ, List.getElem?_cons_zero]; rfl) (by kernel_rfl) (by kernel_rfl) (by kernel_rfl) (by intro _ _ _ h; exact h) (Or.inl ⟨by rfl, ?_⟩) ?_
          rotate_left
          focus (intro w; go_simp; try with_reducible rfl)
          (try simp only [Act.put, List.setIfInBounds_toArray, List.set_cons_zero, List.set_cons_succ])
          refine wpAny_done (by kernel_rfl) ?_ _
          go_wp2
          go_ret3
          first | exact HFIN.out _ _ HO.out HB.out | (rw [show L.eraseIdx 0 = L.tail from by cases L <;> rfl]; exact HFIN.out _ _ HO.out HB.out)
        exact AllReady.nil
      exact AllReady.nil
    exact AllReady.nil
  exact AllReady.nil
set_option maxHeartbeats 4000000 in
theorem step_cut (kind n : Int) (B : Option Addr) (d : Nat) (l : List Int) (A : Option Addr) (c : Nat) (L : List Int) (most : Nat) (w : World) (hL : SlI w A L.length c L) (hl : SlI w B l.length d l) (hLm : L.length ≤ most) (hm : most ≤ 65536) (hll : l.length ≤ 1000000) (hk : kind = 2) (q : Nat) (hn : n = q) (hq : q < L.length) :
    Calls Try.prog 13 #[.agg #[.int .i64 kind, .int .i64 n, .slice B l.length d], .slice A L.length c, .int .i64 most] w (StepRes w A (L.eraseIdx q) (L.getD q 0) true) := by
  subst hk
  subst hn
  obtain ⟨h0, h1, h2⟩ := op_cells w 2 (q : Int) (.slice B l.length d)
  have hb0 : Below w.heap.size w (w.alloc (.cells #[.int .i64 2, .int .i64 q, .slice B l.length d] 35)) := (Below.refl _ w).alloc (Nat.le_refl _) _
  have HLs := Lib.hid (slI_below hL hb0)
  have HLl := Lib.hid (slI_below hl hb0)
  have HB0 := Lib.hid hb0
  obtain ⟨W0, hW0⟩ : ∃ W0, W0 = w.alloc (.cells #[.int .i64 2, .int .i64 q, .slice B l.length d] 35) := ⟨_, rfl⟩
  obtain ⟨A1, hcut, hA1⟩ := print_cut (P := Try.prog) 33 3 .i64 Try.underlying33 (i := isI3.choose) isI3.choose_spec.1 isI3.choose_spec.2 A L.length c (q + 1) (by omega)
  have HA1 : Hid (∀ (w : World) (k : IntKind) (xs : List Int), L.length ≤ c → ReadsInt w k A L.length xs → ReadsInt w k A1 (L.length - (q + 1)) (xs.drop (q + 1))) := hA1
  obtain ⟨ad, hA2, hcells⟩ := (slI_reads hL) (by omega)
  have hce := cell_below hb0 (hcells q hq)
  rw [← hW0] at hce
  have HCE := Lib.hid hce
  have HQ : Hid (q ≤ L.length) := Nat.le_of_lt hq
  have HLC := Lib.hid hL.2
  have hLne : ¬ L = [] := by rintro rfl; simp at hq
  have hqc : (q : Int) ≤ (c : Int) := by have := hL.2; omega
  have hq1 : (q : Int) < (L.length : Int) := by omega
  have hq3 : (0 : Int) ≤ (q : Int) := by omega
  have hw1 : IntKind.i64.wrap ((q : Int) + 1) = (q : Int) + 1 := by rw [IntKind.wrap_i64]; omega
  have hcut2 : ∀ W : World, (Instr.slice 33 (.slice (some ad) L.length c) (some (.int .i64 ((q : Int) + 1))) none none).run Try.prog W = .ok (.slice A1 (L.length - (q + 1)) (c - (q + 1))) W := fun W => by
    have := hcut W
    rw [hA2] at this
    simpa using this
  have HFIN : Hid (∀ (r : Value) (wf : World), wf.ownsRow W0.heap.size 3 1 r (([] ++ L.take q) ++ L.drop (q + 1)).length (numI (([] ++ L.take q) ++ L.drop (q + 1))) → Below W0.heap.size W0 wf → StepRes w (some ad) (L.eraseIdx q) (L.getD q 0) true (.returned (.tuple #[r, .int .i64 (L.getD q 0), .bool true])) wf) := fun r wf ho hb => by
    have e : ([] ++ L.take q) ++ L.drop (q + 1) = L.eraseIdx q := by rw [List.nil_append, List.eraseIdx_eq_take_drop_succ]
    rw [e] at ho
    rw [← hW0] at hb0
    exact stepRes_own (own_mono ho hb0.size) (hb0.trans (hb.mono hb0.size))
  clear hcut hA1 hcells hce
  subst hA2
  generalize L.getD q 0 = y at *
  go_enter Try.func13, Try.ntmps13
  go_upto_region 1 with fail
  rw [← hW0] at HB0 HLs HLl h0 h1 h2 ⊢
  clear hW0
  go_wp2_with fail
  have HB := Lib.hid (Below.refl W0.heap.size W0).drew
  refine wp_region_any (by kernel_rfl) ?_
  (try (change wpAny _ _ _ _ _ _ _ (World.drew _)))
  generalize World.drew W0 = wd at *
  refine wpAny_take (i := 1) (oi := _) (v := ?_) (by simp only [List.getElem?_toArray, List.getElem?_cons_succ, List.getElem?_cons_zero]; rfl) (by kernel_rfl) (by kernel_rfl) (by kernel_rfl) (by intro _ _ _ h; exact h) (Or.inl ⟨by rfl, ?_⟩) ?_
  rotate_left
  focus (intro w; go_simp; try with_reducible rfl)
  (try simp only [Act.put, List.setIfInBounds_toArray, List.set_cons_zero, List.set_cons_succ])
  refine wpAny_take (i := 2) (oi := _) (v := ?_) (by simp only [List.getElem?_toArray, List.getElem?_cons_succ, List.getElem?_cons_zero]; rfl) (by kernel_rfl) (by kernel_rfl) (by kernel_rfl) (by intro _ _ _ h; exact h) (Or.inl ⟨by rfl, ?_⟩) ?_
  rotate_left
  focus (intro w; go_simp; try with_reducible rfl)
  (try simp only [Act.put, List.setIfInBounds_toArray, List.set_cons_zero, List.set_cons_succ])
  refine wpAny_take (i := 3) (oi := _) (v := ?_) (by simp only [List.getElem?_toArray, List.getElem?_cons_succ, List.getElem?_cons_zero]; rfl) (by kernel_rfl) (by kernel_rfl) (by kernel_rfl) (by intro _ _ _ h; exact h) (Or.inl ⟨by rfl, ?_⟩) ?_
  rotate_left
  focus (intro w; go_simp; try with_reducible rfl)
  (try simp only [Act.put, List.setIfInBounds_toArray, List.set_cons_zero, List.set_cons_succ])
  refine wpAny_take (i := 5) (oi := _) (v := ?_) (by simp only [List.getElem?_toArray, List.getElem?_cons_succ, List.getElem?_cons_zero]; rfl) (by kernel_rfl) (by kernel_rfl) (by kernel_rfl) (by intro _ _ _ h; exact h) (Or.inl ⟨by rfl, ?_⟩) ?_
  rotate_left
  focus (intro w; go_simp; try with_reducible rfl)
  (try simp only [Act.put, List.setIfInBounds_toArray, List.set_cons_zero, List.set_cons_succ])
  refine wpAny_take (i := 6) (oi := _) (v := ?_) (by simp only [List.getElem?_toArray, List.getElem?_cons_succ, List.getElem?_cons_zero]; rfl) (by kernel_rfl) (by kernel_rfl) (by kernel_rfl) (by intro _ _ _ h; exact h) (Or.inl ⟨by rfl, ?_⟩) ?_
  rotate_left
  focus (intro w; go_simp; try with_reducible rfl)
  (try simp only [Act.put, List.setIfInBounds_toArray, List.set_cons_zero, List.set_cons_succ])
  refine wpAny_take (i := 7) (oi := _) (v := ?_) (by simp only [List.getElem?_toArray, List.getElem?_cons_succ, List.getElem?_cons_zero]; rfl) (by kernel_rfl) (by kernel_rfl) (by kernel_rfl) (by intro _ _ _ h; exact h) (Or.inl ⟨by rfl, ?_⟩) ?_
  rotate_left
  focus (intro w; go_simp; try with_reducible rfl)
  (try simp only [Act.put, List.setIfInBounds_toArray, List.set_cons_zero, List.set_cons_succ])
  refine wpAny_take (i := 8) (oi := _) (v := ?_) (by simp only [List.getElem?_toArray, List.getElem?_cons_succ, List.getElem?_cons_zero]; rfl) (by kernel_rfl) (by kernel_rfl) (by kernel_rfl) (by intro _ _ _ h; exact h) (Or.inl ⟨by rfl, ?_⟩) ?_
  rotate_left
  focus (intro w; go_simp; try with_reducible rfl)
  (try simp only [Act.put, List.setIfInBounds_toArray, List.set_cons_zero, List.set_cons_succ])
  refine wpAny_take (i := 10) (oi := _) (v := ?_) (by simp only [List.getElem?_toArray, List.getElem?_cons_succ, List.getElem?_cons_zero]; rfl) (by kernel_rfl) (by kernel_rfl) (by kernel_rfl) (by intro _ _ _ h; exact h) (Or.inl ⟨by rfl, ?_⟩) ?_
  rotate_left
  focus (intro w; go_simp; try with_reducible rfl)
  (try simp only [Act.put, List.setIfInBounds_toArray, List.set_cons_zero, List.set_cons_succ])
  refine wpAny_take (i := 11) (oi := _) (v := ?_) (by simp only [List.getElem?_toArray, List.getElem?_cons_succ, List.getElem?_cons_zero]; rfl) (by kernel_rfl) (by kernel_rfl) (by kernel_rfl) (by intro _ _ _ h; exact h) (Or.inl ⟨by rfl, ?_⟩) ?_
  rotate_left
  focus (intro w; go_simp; try with_reducible rfl)
  (try simp only [Act.put, List.setIfInBounds_toArray, List.set_cons_zero, List.set_cons_succ])
  refine wpAny_take (i := 12) (oi := _) (v := ?_) (by simp only [List.getElem?_toArray, List.getElem?_cons_succ, List.getElem?_cons_zero]; rfl) (by kernel_rfl) (by kernel_rfl) (by kernel_rfl) (by intro _ _ _ h; exact h) (Or.inl ⟨by rfl, ?_⟩) ?_
  rotate_left
  focus (intro w; go_simp; try with_reducible rfl)
  (try simp only [Act.put, List.setIfInBounds_toArray, List.set_cons_zero, List.set_cons_succ])
  refine wpAny_ready (rs := [0, 13]) (by kernel_rfl) (by simp) ?_
  refine AllReady.cons rfl (fun K hK => ?_) ?_
  · go_simp
    have HO := Lib.hid (own_empty HB.out HB.out.size)
    replace HB := Lib.hid (HB.out.alloc HB.out.size (.cells #[] 3))
    generalize World.alloc wd (.cells #[] 3) = wa at *
    refine hK _ _ ?_
    clear hK K
    (try simp only [Act.put, List.setIfInBounds_toArray, List.set_cons_zero, List.set_cons_succ])
    refine wpAny_ready (rs := [4, 13]) (by kernel_rfl) (by simp) ?_
    refine AllReady.cons rfl (fun K hK => ?_) ?_
    · rw [if_pos (by rfl)]
      (try simp only [List.getElem_toArray, List.getElem_cons_succ, List.getElem_cons_zero])
      refine wp_append_row (w0 := W0) W0.heap.size (.tmp 59) (.tmp 62) 33 3 .i64 8 rfl Try.underlying33 info33 (by decide) _ _ (L.take q) (some ad) q c rfl rfl HO.out ((HLs.out.1.take_ q HQ.out).below HB.out) HB.out HB.out.size (by first | (simp; done) | (simp; omega)) ?_
      intro vwc wc hown hbl hg
      replace HO := Lib.hid hown
      replace HB := Lib.hid hbl
      clear hown hbl hg
      refine hK _ _ ?_
      clear hK K
      (try simp only [Act.put, List.setIfInBounds_toArray, List.set_cons_zero, List.set_cons_succ])
      refine wpAny_ready (rs := [9, 13]) (by kernel_rfl) (by simp) ?_
      refine AllReady.cons rfl (fun K hK => ?_) ?_
      · rw [if_pos (by rfl)]
        (try simp only [List.getElem_toArray, List.getElem_cons_succ, List.getElem_cons_zero])
        refine wp_append_row (w0 := W0) W0.heap.size (.tmp 63) (.tmp 67) 33 3 .i64 8 rfl Try.underlying33 info33 (by decide) _ _ (L.drop (q + 1)) A1 (L.length - (q + 1)) (c - (q + 1)) rfl rfl HO.out ((HA1.out _ .i64 L HLC.out HLs.out.1).below HB.out) HB.out HB.out.size (by first | (simp; done) | (simp; omega)) ?_
        intro vwe we hown hbl hg
        replace HO := Lib.hid hown
        replace HB := Lib.hid hbl
        clear hown hbl hg
        refine hK _ _ ?_
        clear hK K
        (try simp only [Act.put, List.setIfInBounds_toArray, List.set_cons_zero, List.set_cons_succ])
        refine wpAny_take (i := 14) (oi := _) (v := ?_) (by simp only [List.getElem?_toArray, List.getElem?_cons_succ, List.getElem?_cons_zero]; rfl) (by kernel_rfl) (by kernel_rfl) (by kernel_rfl) (by intro _ _ _ h; exact h) (Or.inl ⟨by rfl, ?_⟩) ?_
        rotate_left
        focus (intro w; go_simp; try with_reducible rfl)
        (try simp only [Act.put, List.setIfInBounds_toArray, List.set_cons_zero, List.set_cons_succ])
        refine wpAny_ready (rs := [13]) (by kernel_rfl) (by simp) ?_
        refine AllReady.cons rfl (fun K hK => ?_) ?_
        · have hc := cell_below HB.out HCE.out
          go_simp
          clear hc
          refine hK _ _ ?_
          clear hK K
          (try simp only [Act.put, List.setIfInBounds_toArray, List.set_cons_zero, List.set_cons_succ])
          refine wpAny_take (i := 15) (oi := _) (v := ?_) (by simp only [List.getElem?_toArray, List.getElem?_cons_succ, List.getElem?_cons_zero]; rfl) (by kernel_rfl) (by kernel_rfl) (by kernel_rfl) (by intro _ _ _ h; exact h) (Or.inl ⟨by rfl, ?_⟩) ?_
          rotate_left
          focus (intro w; go_simp; try with_reducible rfl)
          (try simp only [Act.put, List.setIfInBounds_toArray, List.set_cons_zero, List.set_cons_succ])
          refine wpAny_take (i := 16) (oi := _) (v := ?_) (by simp only [List.getElem?_toArray, List.getElem?_cons_succ, List.getElem?_cons_zero]; rfl) (by kernel_rfl) (by kernel_rfl) (by kernel_rfl) (by intro _ _ _ h; exact h) (Or.inl ⟨by rfl, ?_⟩) ?_
          rotate_left
          focus (intro w; go_simp; try with_reducible rfl)
          (try simp only [Act.put, List.setIfInBounds_toArray, List.set_cons_zero, List.set_cons_succ])
          refine wpAny_done (by kernel_rfl) ?_ _
          go_wp2
          go_ret3
          first | exact HFIN.out _ _ HO.out HB.out | (rw [show L.eraseIdx 0 = L.tail from by cases L <;> rfl]; exact HFIN.out _ _ HO.out HB.out)
        exact AllReady.nil
      refine AllReady.cons rfl (fun K hK => ?_) ?_
      · have hc := cell_below HB.out HCE.out
        go_simp
        clear hc
        refine hK _ _ ?_
        clear hK K
        (try simp only [Act.put, List.setIfInBounds_toArray, List.set_cons_zero, List.set_cons_succ])
        refine wpAny_ready (rs := [9]) (by kernel_rfl) (by simp) ?_
        refine AllReady.cons rfl (fun K hK => ?_) ?_
        · rw [if_pos (by rfl)]
          (try simp only [List.getElem_toArray, List.getElem_cons_succ, List.getElem_cons_zero])
          refine wp_append_row (w0 := W0) W0.heap.size (.tmp 63) (.tmp 67) 33 3 .i64 8 rfl Try.underlying33 info33 (by decide) _ _ (L.drop (q + 1)) A1 (L.length - (q + 1)) (c - (q + 1)) rfl rfl HO.out ((HA1.out _ .i64 L HLC.out HLs.out.1).below HB.out) HB.out HB.out.size (by first | (simp; done) | (simp; omega)) ?_
          intro vwe we hown hbl hg
          replace HO := Lib.hid hown
          replace HB := Lib.hid hbl
          clear hown hbl hg
          refine hK _ _ ?_
          clear hK K
          (try simp only [Act.put, List.setIfInBounds_toArray, List.set_cons_zero, List.set_cons_succ])
          refine wpAny_take (i := 14) (oi := _) (v := ?_) (by simp only [List.getElem?_toArray, List.getElem?_cons_succ, List.getElem?_cons_zero]; rfl) (by kernel_rfl) (by kernel_rfl) (by kernel_rfl) (by intro _ _ _ h; exact h) (Or.inl ⟨by rfl, ?_⟩) ?_
          rotate_left
          focus (intro w; go_simp; try with_reducible rfl)
          (try simp only [Act.put, List.setIfInBounds_toArray, List.set_cons_zero, List.set_cons_succ])
          refine wpAny_take (i := 15) (oi := _) (v := ?_) (by simp only [List.getElem?_toArray, List.getElem?_cons_succ, List.getElem?_cons_zero]; rfl) (by kernel_rfl) (by kernel_rfl) (by kernel_rfl) (by intro _ _ _ h; exact h) (Or.inl ⟨by rfl, ?_⟩) ?_
          rotate_left
          focus (intro w; go_simp; try with_reducible rfl)
          (try simp only [Act.put, List.setIfInBounds_toArray, List.set_cons_zero, List.set_cons_succ])
          refine wpAny_take (i := 16) (oi := _) (v := ?_) (by simp only [List.getElem?_toArray, List.getElem?_cons_succ, List.getElem?_cons_zero]; rfl) (by kernel_rfl) (by kernel_rfl) (by kernel_rfl) (by intro _ _ _ h; exact h) (Or.inl ⟨by rfl, ?_⟩) ?_
          rotate_left
          focus (intro w; go_simp; try with_reducible rfl)
          (try simp only [Act.put, List.setIfInBounds_toArray, List.set_cons_zero, List.set_cons_succ])
          refine wpAny_done (by kernel_rfl) ?_ _
          go_wp2
          go_ret3
          first | exact HFIN.out _ _ HO.out HB.out | (rw [show L.eraseIdx 0 = L.tail from by cases L <;> rfl]; exact HFIN.out _ _ HO.out HB.out)
        exact AllReady.nil
      exact AllReady.nil
    refine AllReady.cons rfl (fun K hK => ?_) ?_
    · have hc := cell_below HB.out HCE.out
      go_simp
      clear hc
      refine hK _ _ ?_
      clear hK K
      (try simp only [Act.put, List.setIfInBounds_toArray, List.set_cons_zero, List.set_cons_succ])
      refine wpAny_ready (rs := [4]) (by kernel_rfl) (by simp) ?_
      refine AllReady.cons rfl (fun K hK => ?_) ?_
      · rw [if_pos (by rfl)]
        (try simp only [List.getElem_toArray, List.getElem_cons_succ, List.getElem_cons_zero])
        refine wp_append_row (w0 := W0) W0.heap.size (.tmp 59) (.tmp 62) 33 3 .i64 8 rfl Try.underlying33 info33 (by decide) _ _ (L.take q) (some ad) q c rfl rfl HO.out ((HLs.out.1.take_ q HQ.out).below HB.out) HB.out HB.out.size (by first | (simp; done) | (simp; omega)) ?_
        intro vwc wc hown hbl hg
        replace HO := Lib.hid hown
        replace HB := Lib.hid hbl
        clear hown hbl hg
        refine hK _ _ ?_
        clear hK K
        (try simp only [Act.put, List.setIfInBounds_toArray, List.set_cons_zero, List.set_cons_succ])
        refine wpAny_ready (rs := [9]) (by kernel_rfl) (by simp) ?_
        refine AllReady.cons rfl (fun K hK => ?_) ?_
        · rw [if_pos (by rfl)]
          (try simp only [List.getElem_toArray, List.getElem_cons_succ, List.getElem_cons_zero])
          refine wp_append_row (w0 := W0) W0.heap.size (.tmp 63) (.tmp 67) 33 3 .i64 8 rfl Try.underlying33 info33 (by decide) _ _ (L.drop (q + 1)) A1 (L.length - (q + 1)) (c - (q + 1)) rfl rfl HO.out ((HA1.out _ .i64 L HLC.out HLs.out.1).below HB.out) HB.out HB.out.size (by first | (simp; done) | (simp; omega)) ?_
          intro vwe we hown hbl hg
          replace HO := Lib.hid hown
          replace HB := Lib.hid hbl
          clear hown hbl hg
          refine hK _ _ ?_
          clear hK K
          (try simp only [Act.put, List.setIfInBounds_toArray, List.set_cons_zero, List.set_cons_succ])
          refine wpAny_take (i := 14) (oi := _) (v := ?_) (by simp only [List.getElem?_toArray, List.getElem?_cons_succ, List.getElem?_cons_zero]; rfl) (by kernel_rfl) (by kernel_rfl) (by kernel_rfl) (by intro _ _ _ h; exact h) (Or.inl ⟨by rfl, ?_⟩) ?_
          rotate_left
          focus (intro w; go_simp; try with_reducible rfl)
          (try simp only [Act.put, List.setIfInBounds_toArray, List.set_cons_zero, List.set_cons_succ])
          refine wpAny_take (i := 15) (oi := _) (v := ?_) (by simp only [List.getElem?_toArray, List.getElem?_cons_succ, List.getElem?_cons_zero]; rfl) (by kernel_rfl) (by kernel_rfl) (by kernel_rfl) (by intro _ _ _ h; exact h) (Or.inl ⟨by rfl, ?_⟩) ?_
          rotate_left
          focus (intro w; go_simp; try with_reducible rfl)
          (try simp only [Act.put, List.setIfInBounds_toArray, List.set_cons_zero, List.set_cons_succ])
          refine wpAny_take (i := 16) (oi := _) (v := ?_) (by simp only [List.getElem?_toArray, List.getElem?_cons_succ, List.getElem?_cons_zero]; rfl) (by kernel_rfl) (by kernel_rfl) (by kernel_rfl) (by intro _ _ _ h; exact h) (Or.inl ⟨by rfl, ?_⟩) ?_
          rotate_left
          focus (intro w; go_simp; try with_reducible rfl)
          (try simp only [Act.put, List.setIfInBounds_toArray, List.set_cons_zero, List.set_cons_succ])
          refine wpAny_done (by kernel_rfl) ?_ _
          go_wp2
          go_ret3
          first | exact HFIN.out _ _ HO.out HB.out | (rw [show L.eraseIdx 0 = L.tail from by cases L <;> rfl]; exact HFIN.out _ _ HO.out HB.out)
        exact AllReady.nil
      exact AllReady.nil
    exact AllReady.nil
  refine AllReady.cons rfl (fun K hK => ?_) ?_
  · have hc := cell_below HB.out HCE.out
    go_simp
    clear hc
    refine hK _ _ ?_
    clear hK K
    (try simp only [Act.put, List.setIfInBounds_toArray, List.set_cons_zero, List.set_cons_succ])
    refine wpAny_ready (rs := [0]) (by kernel_rfl) (by simp) ?_
    refine AllReady.cons rfl (fun K hK => ?_) ?_
    · go_simp
      have HO := Lib.hid (own_empty HB.out HB.out.size)
      replace HB := Lib.hid (HB.out.alloc HB.out.size (.cells #[] 3))
      generalize World.alloc wd (.cells #[] 3) = wa at *
      refine hK _ _ ?_
      clear hK K
      (try simp only [Act.put, List.setIfInBounds_toArray, List.set_cons_zero, List.set_cons_succ])
      refine wpAny_ready (rs := [4]) (by kernel_rfl) (by simp) ?_
      refine AllReady.cons rfl (fun K hK => ?_) ?_
      · rw [if_pos (by rfl)]
        (try simp only [List.getElem_toArray, List.getElem_cons_succ, List.getElem_cons_zero])
        refine wp_append_row (w0 := W0) W0.heap.size (.tmp 59) (.tmp 62) 33 3 .i64 8 rfl Try.underlying33 info33 (by decide) _ _ (L.take q) (some ad) q c rfl rfl HO.out ((HLs.out.1.take_ q HQ.out).below HB.out) HB.out HB.out.size (by first | (simp; done) | (simp; omega)) ?_
        intro vwc wc hown hbl hg
        replace HO := Lib.hid hown
        replace HB := Lib.hid hbl
        clear hown hbl hg
        refine hK _ _ ?_
        clear hK K
        (try simp only [Act.put, List.setIfInBounds_toArray, List.set_cons_zero, List.set_cons_succ])
        refine wpAny_ready (rs := [9]) (by kernel_rfl) (by simp) ?_
        refine AllReady.cons rfl (fun K hK => ?_) ?_
        · rw [if_pos (by rfl)]
          (try simp only [List.getElem_toArray, List.getElem_cons_succ, List.getElem_cons_zero])
          refine wp_append_row (w0 := W0) W0.heap.size (.tmp 63) (.tmp 67) 33 3 .i64 8 rfl Try.underlying33 info33 (by decide) _ _ (L.drop (q + 1)) A1 (L.length - (q + 1)) (c - (q + 1)) rfl rfl HO.out ((HA1.out _ .i64 L HLC.out HLs.out.1).below HB.out) HB.out HB.out.size (by first | (simp; done) | (simp; omega)) ?_
          intro vwe we hown hbl hg
          replace HO := Lib.hid hown
          replace HB := Lib.hid hbl
          clear hown hbl hg
          refine hK _ _ ?_
          clear hK K
          (try simp only [Act.put, List.setIfInBounds_toArray, List.set_cons_zero, List.set_cons_succ])
          refine wpAny_take (i := 14) (oi := _) (v := ?_) (by simp only [List.getElem?_toArray, List.getElem?_cons_succ, List.getElem?_cons_zero]; rfl) (by kernel_rfl) (by kernel_rfl) (by kernel_rfl) (by intro _ _ _ h; exact h) (Or.inl ⟨by rfl, ?_⟩) ?_
          rotate_left
          focus (intro w; go_simp; try with_reducible rfl)
          (try simp only [Act.put, List.setIfInBounds_toArray, List.set_cons_zero, List.set_cons_succ])
          refine wpAny_take (i := 15) (oi := _) (v := ?_) (by simp only [List.getElem?_toArray, List.getElem?_cons_succ, List.getElem?_cons_zero]; rfl) (by kernel_rfl) (by kernel_rfl) (by kernel_rfl) (by intro _ _ _ h; exact h) (Or.inl ⟨by rfl, ?_⟩) ?_
          rotate_left
          focus (intro w; go_simp; try with_reducible rfl)
          (try simp only [Act.put, List.setIfInBounds_toArray, List.set_cons_zero, List.set_cons_succ])
          refine wpAny_take (i := 16) (oi := _) (v := ?_) (by simp only [List.getElem?_toArray, List.getElem?_cons_succ, List.getElem?_cons_zero]; rfl) (by kernel_rfl) (by kernel_rfl) (by kernel_rfl) (by intro _ _ _ h; exact h) (Or.inl ⟨by rfl, ?_⟩) ?_
          rotate_left
          focus (intro w; go_simp; try with_reducible rfl)
          (try simp only [Act.put, List.setIfInBounds_toArray, List.set_cons_zero, List.set_cons_succ])
          refine wpAny_done (by kernel_rfl) ?_ _
          go_wp2
          go_ret3
          first | exact HFIN.out _ _ HO.out HB.out | (rw [show L.eraseIdx 0 = L.tail from by cases L <;> rfl]; exact HFIN.out _ _ HO.out HB.out)
        exact AllReady.nil
      exact AllReady.nil
    exact AllReady.nil
  exact AllReady.nil
end Go.Proofs.Ytfphpbhopfhlcaa
