/-
  SpanTells' walk.
-/
import Derived.Test.YtcgfednoolkhkaaRfN
namespace Go.Proofs.Ytcgfednoolkhkaa
open Go.RowKit
set_option linter.unusedVariables false
set_option linter.unusedSimpArgs false
set_option maxRecDepth 100000
/-- All ways through a region meet here; what is made new hangs on the way. -/
theorem wp_meetS {σ : Type} {s : Code} {Q : Exit → Act → World → Prop} {a : Act} {w : World} (f : σ → Act → Act) (p : σ → World → Prop)
    (rest : ∀ n w', p n w' → Q .normal (f n a) w') (first : ∀ K' : Act → World → Prop, (∀ n w', p n w' → K' (f n a) w') → s.wp Try.prog (Exit.then K' Q) a w) : s.wp Try.prog Q a w := by
  refine wp_mono (first (fun a' w' => ∃ n, a' = f n a ∧ p n w') (fun n w' h => ⟨n, rfl, h⟩)) ?_
  intro e a' w' hq
  cases e with
  | normal => obtain ⟨n, rfl, h⟩ := hq; exact rest _ _ h
  | exit id => exact hq
  | goto l => exact hq
  | ret => exact hq
  | panic ch => exact hq
  | outgrown => exact hq
theorem neq_rs {a : List Nat} (W : World) (ha : a.length = 20) : (binOp .neq 56 (idv a) (idv a)).run Try.prog W = .ok (.bool false) W := by
  have h := run_neq_struct (P := Try.prog) (w := W) 56 (idc a).toArray (idc a).toArray
  have e := eq_r W ha ha
  unfold idv at e ⊢
  rw [h, e]
  simp [Result.andThen]
theorem wl_ner {ops : Array Oper} {rest : List Oper} {op : Oper} {a : Act} {w : World} {Q : Exit → Act → World → Prop} (hw : Region.wanted op (yielded ops a.tmps) = true) (x y : Operand) (ho : op.op = .binOp .neq 56 x y 56)
    (l : List Nat) (hx : a.eval x = idv l) (hy : a.eval y = idv l) (hl : l.length = 20)
    (h : wpList Try.prog ops Q rest (a.put op.dst (.bool false)) w) : wpList Try.prog ops Q (op :: rest) a w :=
  wpList_wanted hw fun K hK => by
    have hg : (eqGuard .neq 56 x y (idv l) (idv l)).run Try.prog w = .ok () w := run_eqGuard_agg (P := Try.prog) w .neq 56 x y _ _ (by kernel_rfl)
    unfold Oper.wp execOp
    have he := neq_rs w hl
    simp only [ho, hx, hy, Sem.run_bind, Sem.run_pure, hg, he, Result.andThen_ok]
    exact hK _ _ h
theorem yields_eq {ops : Array Oper} {S : World → Prop} {op : Oper} {a : Act} (hw : Region.wanted op (yielded ops a.tmps) = true) (x y : Operand) (ho : op.op = .binOp .eql 56 x y 56)
    (l : List Nat) (hx : a.eval x = .agg (idc l).toArray) (hy : a.eval y = .agg (idc l).toArray) (hl : l.length = 20) : YieldsIf Try.prog ops S op (.bool true) a :=
  .inl ⟨hw, fun w _ => by
    have hg : (eqGuard .eql 56 x y (.agg (idc l).toArray) (.agg (idc l).toArray)).run Try.prog w = .ok () w := run_eqGuard_agg (P := Try.prog) w .eql 56 x y _ _ (by kernel_rfl)
    have he := eq_rs w hl hl
    rw [decide_eq_true rfl] at he
    unfold idv at he
    unfold execOp
    simp only [ho, hx, hy, Sem.run_bind, Sem.run_pure, hg, he, Result.andThen_ok]⟩
set_option maxHeartbeats 8000000 in
theorem span_tells (o t : List Nat) (A : Option Addr) (c : Nat) (S : List Nat) (i : Int) (w : World) (ho : Id o) (ht : Id t) (hs : Seed w A S) (hl0 : ¬ 100 < S.length) :
    Calls Try.prog 8 #[idv o, idv t, .int .i64 i, .slice A S.length c] w fun e w' => e = .returned (.bool true) ∧ Below w.heap.size w w' := by
  obtain ⟨hA2, hB2, hb2⟩ := id2_new w o t
  have XA := Lib.hid hA2
  have XB := Lib.hid hB2
  have XW := Lib.hid hb2
  have XS := Lib.hid (seed_below hs hb2)
  have HO := Lib.hid ho
  have HT := Lib.hid ht
  have ho20 := ho.1
  have ht20 := ht.1
  have HI1 := Lib.hid (fun W => rindex o t W ho ht)
  have HI2 := Lib.hid (fun W => findex o t W ho ht)
  have HH1 := Lib.hid (fun W => rhas o t i W ho ht)
  have HH2 := Lib.hid (fun W => fhas o t i W ho ht)
  have HL1 := Lib.hid (fun W => rlow o i W ho)
  have HL2 := Lib.hid (fun W => flow o i W ho)
  have HG1 := Lib.hid (fun W => rhigh o i W ho)
  have HG2 := Lib.hid (fun W => fhigh o i W ho)
  have HD1 : Hid (∀ W, Seed W A S → _) := fun W hW => rdraw o S i A c W ho hW
  have HD2 : Hid (∀ W, Seed W A S → _) := fun W hW => fdraw o S i A c W ho hW
  have HN1 := Lib.hid (fun W => rnearer2 o t W ho ht)
  have HN2 := Lib.hid (fun W => fnearer2 o t W ho ht)
  have HNL := Lib.hid (near_len (xorL o t) 160)
  have hl20 := (id_laid ho i (fun _ => 0)).1
  have hh20 := (id_laid ho i (fun _ => 1)).1
  have hx20 := (id_laid ho i (fun k => (bit (fromL S) k : Nat))).1
  generalize laidL o i (fun _ => 0) = L at *
  generalize laidL o i (fun _ => 1) = H at *
  generalize laidL o i (fun k => (bit (fromL S) k : Nat)) = X at *
  generalize laidB i = B at *
  generalize idxN o t = q at *
  generalize idxB o t = p at *
  generalize hasB o i t = h at *
  generalize nearK (xorL o t) 160 = xs at *
  have hqq : ((q : Int) != (q : Int)) = false := by simp
  have hpp : (p != p) = false := by simp
  have hBB : (B != B) = false := by simp
  have hBe : (B == B) = true := by simp
  have hhe : (h == h) = true := by simp
  clear hA2 hB2 hb2 hs ho ht
  unfold idv
  generalize hCa : (idc o).toArray = Ca at *
  generalize hCb : (idc t).toArray = Cb at *
  go_enter Try.func8, Try.ntmps8
  go_upto_region 3 with fail
  obtain ⟨W2, hW2⟩ : ∃ W2, W2 = (w.alloc (.cells Ca 41)).alloc (.cells Cb 41) := ⟨_, rfl⟩
  rw [← hW2] at XA XB XW XS ⊢
  clear hW2
  subst hCa hCb
  go_wp2_with fail
  refine wp_meetS (fun (n : Nat × Nat) a => ((((a.put (some 31) (idv o)).put (some 32) (idv t)).put (some 9) (.pointer (some ⟨n.1, 0, none⟩))).put (some 10) (.pointer (some ⟨n.2, 0, none⟩)))) (fun n w' => Below W2.heap.size W2 w' ∧ IdR w' n.1 o ∧ IdR w' n.2 t) ?_ ?_
  rotate_left
  · intro K' h2
    simp only [Act.put, List.setIfInBounds_toArray, List.set_cons_zero, List.set_cons_succ] at h2
    replace h2 := Lib.hid h2
    have HB := Lib.hid (Below.refl W2.heap.size W2).drew
    refine wp_region_any (by kernel_rfl) ?_
    (try (change wpAny _ _ _ _ _ _ _ (World.drew _)))
    generalize World.drew W2 = wd at *
    refine wpAny_ready (rs := [0, 1, 2, 3]) (by kernel_rfl) (by simp) ?_
    refine AllReady.cons rfl (fun K hK => ?_) ?_
    · rw [if_pos (by rfl)]
      refine wp_load_id (.tmp 4) rfl (w.heap.size) rfl o (idAt_below XA.out HB.out) ho20 ?_
      go_simp
      refine hK _ _ ?_
      clear hK K
      (try simp only [Act.put, List.setIfInBounds_toArray, List.set_cons_zero, List.set_cons_succ])
      refine wpAny_ready (rs := [1, 2, 3]) (by kernel_rfl) (by simp) ?_
      refine AllReady.cons rfl (fun K hK => ?_) ?_
      · rw [if_pos (by rfl)]
        refine wp_load_id (.tmp 5) rfl (w.heap.size + 1) rfl t (idAt_below XB.out HB.out) ht20 ?_
        go_simp
        refine hK _ _ ?_
        clear hK K
        (try simp only [Act.put, List.setIfInBounds_toArray, List.set_cons_zero, List.set_cons_succ])
        refine wpAny_ready (rs := [2, 3]) (by kernel_rfl) (by simp) ?_
        refine AllReady.cons rfl (fun K hK => ?_) ?_
        · go_simp
          have HGE1 := Lib.hid HB.out.size
          have HG1 := Lib.hid (zero_newr HB.out)
          replace HB := Lib.hid (HB.out.alloc HB.out.size Z56)
          generalize wd.heap.size = g1 at *
          generalize World.alloc wd Z56 = wa2 at *
          refine hK _ _ ?_
          clear hK K
          (try simp only [Act.put, List.setIfInBounds_toArray, List.set_cons_zero, List.set_cons_succ])
          refine wpAny_ready (rs := [3]) (by kernel_rfl) (by simp) ?_
          refine AllReady.cons rfl (fun K hK => ?_) ?_
          · go_simp
            have HGE2 := Lib.hid HB.out.size
            have HG2 := Lib.hid (zero_newr HB.out)
            have HNE := Lib.hid (idR_lt HG1.out)
            replace HG1 := Lib.hid (idR_below HG1.out ((Below.refl _ _).alloc (Nat.le_refl _) Z56))
            replace HB := Lib.hid (HB.out.alloc HB.out.size Z56)
            generalize wa2.heap.size = g2 at *
            generalize World.alloc wa2 Z56 = wa3 at *
            refine hK _ _ ?_
            clear hK K
            (try simp only [Act.put, List.setIfInBounds_toArray, List.set_cons_zero, List.set_cons_succ])
            refine wpAny_ready (rs := [4]) (by kernel_rfl) (by simp) ?_
            refine AllReady.cons rfl (fun K hK => ?_) ?_
            · rw [if_pos (by rfl)]
              (try simp only [List.getElem_toArray, List.getElem_cons_succ, List.getElem_cons_zero])
              refine wp_store_r (.tmp 9) (.tmp 31) rfl _ rfl zero20 o rfl HG1.out rfl ho20 ?_
              intro wb4 hA3 hg3
              replace HG2 := Lib.hid (idR_grown HG2.out hg3 (by have := HNE.out; omega))
              replace HB := Lib.hid (HB.out.grown hg3 HB.out.size (fun k e => by cases e; exact HGE1.out))
              replace HG1 := Lib.hid hA3
              clear hA3 hg3
              go_simp
              refine hK _ _ ?_
              clear hK K
              (try simp only [Act.put, List.setIfInBounds_toArray, List.set_cons_zero, List.set_cons_succ])
              refine wpAny_ready (rs := [5]) (by kernel_rfl) (by simp) ?_
              refine AllReady.cons rfl (fun K hK => ?_) ?_
              · rw [if_pos (by rfl)]
                (try simp only [List.getElem_toArray, List.getElem_cons_succ, List.getElem_cons_zero])
                refine wp_store_r (.tmp 10) (.tmp 32) rfl _ rfl zero20 t rfl HG2.out rfl ht20 ?_
                intro wb5 hA3 hg3
                replace HG1 := Lib.hid (idR_grown HG1.out hg3 (by have := HNE.out; omega))
                replace HB := Lib.hid (HB.out.grown hg3 HB.out.size (fun k e => by cases e; exact HGE2.out))
                replace HG2 := Lib.hid hA3
                clear hA3 hg3
                go_simp
                refine hK _ _ ?_
                clear hK K
                (try simp only [Act.put, List.setIfInBounds_toArray, List.set_cons_zero, List.set_cons_succ])
                refine wpAny_done (by kernel_rfl) ?_ _
                exact h2.out (_, _) _ ⟨HB.out, HG1.out, HG2.out⟩
              exact AllReady.nil
            exact AllReady.nil
          exact AllReady.nil
        refine AllReady.cons rfl (fun K hK => ?_) ?_
        · go_simp
          have HGE2 := Lib.hid HB.out.size
          have HG2 := Lib.hid (zero_newr HB.out)
          replace HB := Lib.hid (HB.out.alloc HB.out.size Z56)
          generalize wd.heap.size = g2 at *
          generalize World.alloc wd Z56 = wa3 at *
          refine hK _ _ ?_
          clear hK K
          (try simp only [Act.put, List.setIfInBounds_toArray, List.set_cons_zero, List.set_cons_succ])
          refine wpAny_ready (rs := [2]) (by kernel_rfl) (by simp) ?_
          refine AllReady.cons rfl (fun K hK => ?_) ?_
          · go_simp
            have HGE1 := Lib.hid HB.out.size
            have HG1 := Lib.hid (zero_newr HB.out)
            have HNE := Lib.hid (idR_lt HG2.out)
            replace HG2 := Lib.hid (idR_below HG2.out ((Below.refl _ _).alloc (Nat.le_refl _) Z56))
            replace HB := Lib.hid (HB.out.alloc HB.out.size Z56)
            generalize wa3.heap.size = g1 at *
            generalize World.alloc wa3 Z56 = wa2 at *
            refine hK _ _ ?_
            clear hK K
            (try simp only [Act.put, List.setIfInBounds_toArray, List.set_cons_zero, List.set_cons_succ])
            refine wpAny_ready (rs := [4]) (by kernel_rfl) (by simp) ?_
            refine AllReady.cons rfl (fun K hK => ?_) ?_
            · rw [if_pos (by rfl)]
              (try simp only [List.getElem_toArray, List.getElem_cons_succ, List.getElem_cons_zero])
              refine wp_store_r (.tmp 9) (.tmp 31) rfl _ rfl zero20 o rfl HG1.out rfl ho20 ?_
              intro wb4 hA3 hg3
              replace HG2 := Lib.hid (idR_grown HG2.out hg3 (by have := HNE.out; omega))
              replace HB := Lib.hid (HB.out.grown hg3 HB.out.size (fun k e => by cases e; exact HGE1.out))
              replace HG1 := Lib.hid hA3
              clear hA3 hg3
              go_simp
              refine hK _ _ ?_
              clear hK K
              (try simp only [Act.put, List.setIfInBounds_toArray, List.set_cons_zero, List.set_cons_succ])
              refine wpAny_ready (rs := [5]) (by kernel_rfl) (by simp) ?_
              refine AllReady.cons rfl (fun K hK => ?_) ?_
              · rw [if_pos (by rfl)]
                (try simp only [List.getElem_toArray, List.getElem_cons_succ, List.getElem_cons_zero])
                refine wp_store_r (.tmp 10) (.tmp 32) rfl _ rfl zero20 t rfl HG2.out rfl ht20 ?_
                intro wb5 hA3 hg3
                replace HG1 := Lib.hid (idR_grown HG1.out hg3 (by have := HNE.out; omega))
                replace HB := Lib.hid (HB.out.grown hg3 HB.out.size (fun k e => by cases e; exact HGE2.out))
                replace HG2 := Lib.hid hA3
                clear hA3 hg3
                go_simp
                refine hK _ _ ?_
                clear hK K
                (try simp only [Act.put, List.setIfInBounds_toArray, List.set_cons_zero, List.set_cons_succ])
                refine wpAny_done (by kernel_rfl) ?_ _
                exact h2.out (_, _) _ ⟨HB.out, HG1.out, HG2.out⟩
              exact AllReady.nil
            exact AllReady.nil
          exact AllReady.nil
        exact AllReady.nil
      refine AllReady.cons rfl (fun K hK => ?_) ?_
      · go_simp
        have HGE1 := Lib.hid HB.out.size
        have HG1 := Lib.hid (zero_newr HB.out)
        replace HB := Lib.hid (HB.out.alloc HB.out.size Z56)
        generalize wd.heap.size = g1 at *
        generalize World.alloc wd Z56 = wa2 at *
        refine hK _ _ ?_
        clear hK K
        (try simp only [Act.put, List.setIfInBounds_toArray, List.set_cons_zero, List.set_cons_succ])
        refine wpAny_ready (rs := [1, 3]) (by kernel_rfl) (by simp) ?_
        refine AllReady.cons rfl (fun K hK => ?_) ?_
        · rw [if_pos (by rfl)]
          refine wp_load_id (.tmp 5) rfl (w.heap.size + 1) rfl t (idAt_below XB.out HB.out) ht20 ?_
          go_simp
          refine hK _ _ ?_
          clear hK K
          (try simp only [Act.put, List.setIfInBounds_toArray, List.set_cons_zero, List.set_cons_succ])
          refine wpAny_ready (rs := [3]) (by kernel_rfl) (by simp) ?_
          refine AllReady.cons rfl (fun K hK => ?_) ?_
          · go_simp
            have HGE2 := Lib.hid HB.out.size
            have HG2 := Lib.hid (zero_newr HB.out)
            have HNE := Lib.hid (idR_lt HG1.out)
            replace HG1 := Lib.hid (idR_below HG1.out ((Below.refl _ _).alloc (Nat.le_refl _) Z56))
            replace HB := Lib.hid (HB.out.alloc HB.out.size Z56)
            generalize wa2.heap.size = g2 at *
            generalize World.alloc wa2 Z56 = wa3 at *
            refine hK _ _ ?_
            clear hK K
            (try simp only [Act.put, List.setIfInBounds_toArray, List.set_cons_zero, List.set_cons_succ])
            refine wpAny_ready (rs := [4]) (by kernel_rfl) (by simp) ?_
            refine AllReady.cons rfl (fun K hK => ?_) ?_
            · rw [if_pos (by rfl)]
              (try simp only [List.getElem_toArray, List.getElem_cons_succ, List.getElem_cons_zero])
              refine wp_store_r (.tmp 9) (.tmp 31) rfl _ rfl zero20 o rfl HG1.out rfl ho20 ?_
              intro wb4 hA3 hg3
              replace HG2 := Lib.hid (idR_grown HG2.out hg3 (by have := HNE.out; omega))
              replace HB := Lib.hid (HB.out.grown hg3 HB.out.size (fun k e => by cases e; exact HGE1.out))
              replace HG1 := Lib.hid hA3
              clear hA3 hg3
              go_simp
              refine hK _ _ ?_
              clear hK K
              (try simp only [Act.put, List.setIfInBounds_toArray, List.set_cons_zero, List.set_cons_succ])
              refine wpAny_ready (rs := [5]) (by kernel_rfl) (by simp) ?_
              refine AllReady.cons rfl (fun K hK => ?_) ?_
              · rw [if_pos (by rfl)]
                (try simp only [List.getElem_toArray, List.getElem_cons_succ, List.getElem_cons_zero])
                refine wp_store_r (.tmp 10) (.tmp 32) rfl _ rfl zero20 t rfl HG2.out rfl ht20 ?_
                intro wb5 hA3 hg3
                replace HG1 := Lib.hid (idR_grown HG1.out hg3 (by have := HNE.out; omega))
                replace HB := Lib.hid (HB.out.grown hg3 HB.out.size (fun k e => by cases e; exact HGE2.out))
                replace HG2 := Lib.hid hA3
                clear hA3 hg3
                go_simp
                refine hK _ _ ?_
                clear hK K
                (try simp only [Act.put, List.setIfInBounds_toArray, List.set_cons_zero, List.set_cons_succ])
                refine wpAny_done (by kernel_rfl) ?_ _
                exact h2.out (_, _) _ ⟨HB.out, HG1.out, HG2.out⟩
              exact AllReady.nil
            exact AllReady.nil
          exact AllReady.nil
        refine AllReady.cons rfl (fun K hK => ?_) ?_
        · go_simp
          have HGE2 := Lib.hid HB.out.size
          have HG2 := Lib.hid (zero_newr HB.out)
          have HNE := Lib.hid (idR_lt HG1.out)
          replace HG1 := Lib.hid (idR_below HG1.out ((Below.refl _ _).alloc (Nat.le_refl _) Z56))
          replace HB := Lib.hid (HB.out.alloc HB.out.size Z56)
          generalize wa2.heap.size = g2 at *
          generalize World.alloc wa2 Z56 = wa3 at *
          refine hK _ _ ?_
          clear hK K
          (try simp only [Act.put, List.setIfInBounds_toArray, List.set_cons_zero, List.set_cons_succ])
          refine wpAny_ready (rs := [1, 4]) (by kernel_rfl) (by simp) ?_
          refine AllReady.cons rfl (fun K hK => ?_) ?_
          · rw [if_pos (by rfl)]
            refine wp_load_id (.tmp 5) rfl (w.heap.size + 1) rfl t (idAt_below XB.out HB.out) ht20 ?_
            go_simp
            refine hK _ _ ?_
            clear hK K
            (try simp only [Act.put, List.setIfInBounds_toArray, List.set_cons_zero, List.set_cons_succ])
            refine wpAny_ready (rs := [4]) (by kernel_rfl) (by simp) ?_
            refine AllReady.cons rfl (fun K hK => ?_) ?_
            · rw [if_pos (by rfl)]
              (try simp only [List.getElem_toArray, List.getElem_cons_succ, List.getElem_cons_zero])
              refine wp_store_r (.tmp 9) (.tmp 31) rfl _ rfl zero20 o rfl HG1.out rfl ho20 ?_
              intro wb4 hA3 hg3
              replace HG2 := Lib.hid (idR_grown HG2.out hg3 (by have := HNE.out; omega))
              replace HB := Lib.hid (HB.out.grown hg3 HB.out.size (fun k e => by cases e; exact HGE1.out))
              replace HG1 := Lib.hid hA3
              clear hA3 hg3
              go_simp
              refine hK _ _ ?_
              clear hK K
              (try simp only [Act.put, List.setIfInBounds_toArray, List.set_cons_zero, List.set_cons_succ])
              refine wpAny_ready (rs := [5]) (by kernel_rfl) (by simp) ?_
              refine AllReady.cons rfl (fun K hK => ?_) ?_
              · rw [if_pos (by rfl)]
                (try simp only [List.getElem_toArray, List.getElem_cons_succ, List.getElem_cons_zero])
                refine wp_store_r (.tmp 10) (.tmp 32) rfl _ rfl zero20 t rfl HG2.out rfl ht20 ?_
                intro wb5 hA3 hg3
                replace HG1 := Lib.hid (idR_grown HG1.out hg3 (by have := HNE.out; omega))
                replace HB := Lib.hid (HB.out.grown hg3 HB.out.size (fun k e => by cases e; exact HGE2.out))
                replace HG2 := Lib.hid hA3
                clear hA3 hg3
                go_simp
                refine hK _ _ ?_
                clear hK K
                (try simp only [Act.put, List.setIfInBounds_toArray, List.set_cons_zero, List.set_cons_succ])
                refine wpAny_done (by kernel_rfl) ?_ _
                exact h2.out (_, _) _ ⟨HB.out, HG1.out, HG2.out⟩
              exact AllReady.nil
            exact AllReady.nil
          refine AllReady.cons rfl (fun K hK => ?_) ?_
          · rw [if_pos (by rfl)]
            (try simp only [List.getElem_toArray, List.getElem_cons_succ, List.getElem_cons_zero])
            refine wp_store_r (.tmp 9) (.tmp 31) rfl _ rfl zero20 o rfl HG1.out rfl ho20 ?_
            intro wb4 hA3 hg3
            replace HG2 := Lib.hid (idR_grown HG2.out hg3 (by have := HNE.out; omega))
            replace HB := Lib.hid (HB.out.grown hg3 HB.out.size (fun k e => by cases e; exact HGE1.out))
            replace HG1 := Lib.hid hA3
            clear hA3 hg3
            go_simp
            refine hK _ _ ?_
            clear hK K
            (try simp only [Act.put, List.setIfInBounds_toArray, List.set_cons_zero, List.set_cons_succ])
            refine wpAny_ready (rs := [1]) (by kernel_rfl) (by simp) ?_
            refine AllReady.cons rfl (fun K hK => ?_) ?_
            · rw [if_pos (by rfl)]
              refine wp_load_id (.tmp 5) rfl (w.heap.size + 1) rfl t (idAt_below XB.out HB.out) ht20 ?_
              go_simp
              refine hK _ _ ?_
              clear hK K
              (try simp only [Act.put, List.setIfInBounds_toArray, List.set_cons_zero, List.set_cons_succ])
              refine wpAny_ready (rs := [5]) (by kernel_rfl) (by simp) ?_
              refine AllReady.cons rfl (fun K hK => ?_) ?_
              · rw [if_pos (by rfl)]
                (try simp only [List.getElem_toArray, List.getElem_cons_succ, List.getElem_cons_zero])
                refine wp_store_r (.tmp 10) (.tmp 32) rfl _ rfl zero20 t rfl HG2.out rfl ht20 ?_
                intro wb5 hA3 hg3
                replace HG1 := Lib.hid (idR_grown HG1.out hg3 (by have := HNE.out; omega))
                replace HB := Lib.hid (HB.out.grown hg3 HB.out.size (fun k e => by cases e; exact HGE2.out))
                replace HG2 := Lib.hid hA3
                clear hA3 hg3
                go_simp
                refine hK _ _ ?_
                clear hK K
                (try simp only [Act.put, List.setIfInBounds_toArray, List.set_cons_zero, List.set_cons_succ])
                refine wpAny_done (by kernel_rfl) ?_ _
                exact h2.out (_, _) _ ⟨HB.out, HG1.out, HG2.out⟩
              exact AllReady.nil
            exact AllReady.nil
          exact AllReady.nil
        exact AllReady.nil
      refine AllReady.cons rfl (fun K hK => ?_) ?_
      · go_simp
        have HGE2 := Lib.hid HB.out.size
        have HG2 := Lib.hid (zero_newr HB.out)
        replace HB := Lib.hid (HB.out.alloc HB.out.size Z56)
        generalize wd.heap.size = g2 at *
        generalize World.alloc wd Z56 = wa3 at *
        refine hK _ _ ?_
        clear hK K
        (try simp only [Act.put, List.setIfInBounds_toArray, List.set_cons_zero, List.set_cons_succ])
        refine wpAny_ready (rs := [1, 2]) (by kernel_rfl) (by simp) ?_
        refine AllReady.cons rfl (fun K hK => ?_) ?_
        · rw [if_pos (by rfl)]
          refine wp_load_id (.tmp 5) rfl (w.heap.size + 1) rfl t (idAt_below XB.out HB.out) ht20 ?_
          go_simp
          refine hK _ _ ?_
          clear hK K
          (try simp only [Act.put, List.setIfInBounds_toArray, List.set_cons_zero, List.set_cons_succ])
          refine wpAny_ready (rs := [2]) (by kernel_rfl) (by simp) ?_
          refine AllReady.cons rfl (fun K hK => ?_) ?_
          · go_simp
            have HGE1 := Lib.hid HB.out.size
            have HG1 := Lib.hid (zero_newr HB.out)
            have HNE := Lib.hid (idR_lt HG2.out)
            replace HG2 := Lib.hid (idR_below HG2.out ((Below.refl _ _).alloc (Nat.le_refl _) Z56))
            replace HB := Lib.hid (HB.out.alloc HB.out.size Z56)
            generalize wa3.heap.size = g1 at *
            generalize World.alloc wa3 Z56 = wa2 at *
            refine hK _ _ ?_
            clear hK K
            (try simp only [Act.put, List.setIfInBounds_toArray, List.set_cons_zero, List.set_cons_succ])
            refine wpAny_ready (rs := [4]) (by kernel_rfl) (by simp) ?_
            refine AllReady.cons rfl (fun K hK => ?_) ?_
            · rw [if_pos (by rfl)]
              (try simp only [List.getElem_toArray, List.getElem_cons_succ, List.getElem_cons_zero])
              refine wp_store_r (.tmp 9) (.tmp 31) rfl _ rfl zero20 o rfl HG1.out rfl ho20 ?_
              intro wb4 hA3 hg3
              replace HG2 := Lib.hid (idR_grown HG2.out hg3 (by have := HNE.out; omega))
              replace HB := Lib.hid (HB.out.grown hg3 HB.out.size (fun k e => by cases e; exact HGE1.out))
              replace HG1 := Lib.hid hA3
              clear hA3 hg3
              go_simp
              refine hK _ _ ?_
              clear hK K
              (try simp only [Act.put, List.setIfInBounds_toArray, List.set_cons_zero, List.set_cons_succ])
              refine wpAny_ready (rs := [5]) (by kernel_rfl) (by simp) ?_
              refine AllReady.cons rfl (fun K hK => ?_) ?_
              · rw [if_pos (by rfl)]
                (try simp only [List.getElem_toArray, List.getElem_cons_succ, List.getElem_cons_zero])
                refine wp_store_r (.tmp 10) (.tmp 32) rfl _ rfl zero20 t rfl HG2.out rfl ht20 ?_
                intro wb5 hA3 hg3
                replace HG1 := Lib.hid (idR_grown HG1.out hg3 (by have := HNE.out; omega))
                replace HB := Lib.hid (HB.out.grown hg3 HB.out.size (fun k e => by cases e; exact HGE2.out))
                replace HG2 := Lib.hid hA3
                clear hA3 hg3
                go_simp
                refine hK _ _ ?_
                clear hK K
                (try simp only [Act.put, List.setIfInBounds_toArray, List.set_cons_zero, List.set_cons_succ])
                refine wpAny_done (by kernel_rfl) ?_ _
                exact h2.out (_, _) _ ⟨HB.out, HG1.out, HG2.out⟩
              exact AllReady.nil
            exact AllReady.nil
          exact AllReady.nil
        refine AllReady.cons rfl (fun K hK => ?_) ?_
        · go_simp
          have HGE1 := Lib.hid HB.out.size
          have HG1 := Lib.hid (zero_newr HB.out)
          have HNE := Lib.hid (idR_lt HG2.out)
          replace HG2 := Lib.hid (idR_below HG2.out ((Below.refl _ _).alloc (Nat.le_refl _) Z56))
          replace HB := Lib.hid (HB.out.alloc HB.out.size Z56)
          generalize wa3.heap.size = g1 at *
          generalize World.alloc wa3 Z56 = wa2 at *
          refine hK _ _ ?_
          clear hK K
          (try simp only [Act.put, List.setIfInBounds_toArray, List.set_cons_zero, List.set_cons_succ])
          refine wpAny_ready (rs := [1, 4]) (by kernel_rfl) (by simp) ?_
          refine AllReady.cons rfl (fun K hK => ?_) ?_
          · rw [if_pos (by rfl)]
            refine wp_load_id (.tmp 5) rfl (w.heap.size + 1) rfl t (idAt_below XB.out HB.out) ht20 ?_
            go_simp
            refine hK _ _ ?_
            clear hK K
            (try simp only [Act.put, List.setIfInBounds_toArray, List.set_cons_zero, List.set_cons_succ])
            refine wpAny_ready (rs := [4]) (by kernel_rfl) (by simp) ?_
            refine AllReady.cons rfl (fun K hK => ?_) ?_
            · rw [if_pos (by rfl)]
              (try simp only [List.getElem_toArray, List.getElem_cons_succ, List.getElem_cons_zero])
              refine wp_store_r (.tmp 9) (.tmp 31) rfl _ rfl zero20 o rfl HG1.out rfl ho20 ?_
              intro wb4 hA3 hg3
              replace HG2 := Lib.hid (idR_grown HG2.out hg3 (by have := HNE.out; omega))
              replace HB := Lib.hid (HB.out.grown hg3 HB.out.size (fun k e => by cases e; exact HGE1.out))
              replace HG1 := Lib.hid hA3
              clear hA3 hg3
              go_simp
              refine hK _ _ ?_
              clear hK K
              (try simp only [Act.put, List.setIfInBounds_toArray, List.set_cons_zero, List.set_cons_succ])
              refine wpAny_ready (rs := [5]) (by kernel_rfl) (by simp) ?_
              refine AllReady.cons rfl (fun K hK => ?_) ?_
              · rw [if_pos (by rfl)]
                (try simp only [List.getElem_toArray, List.getElem_cons_succ, List.getElem_cons_zero])
                refine wp_store_r (.tmp 10) (.tmp 32) rfl _ rfl zero20 t rfl HG2.out rfl ht20 ?_
                intro wb5 hA3 hg3
                replace HG1 := Lib.hid (idR_grown HG1.out hg3 (by have := HNE.out; omega))
                replace HB := Lib.hid (HB.out.grown hg3 HB.out.size (fun k e => by cases e; exact HGE2.out))
                replace HG2 := Lib.hid hA3
                clear hA3 hg3
                go_simp
                refine hK _ _ ?_
                clear hK K
                (try simp only [Act.put, List.setIfInBounds_toArray, List.set_cons_zero, List.set_cons_succ])
                refine wpAny_done (by kernel_rfl) ?_ _
                exact h2.out (_, _) _ ⟨HB.out, HG1.out, HG2.out⟩
              exact AllReady.nil
            exact AllReady.nil
          refine AllReady.cons rfl (fun K hK => ?_) ?_
          · rw [if_pos (by rfl)]
            (try simp only [List.getElem_toArray, List.getElem_cons_succ, List.getElem_cons_zero])
            refine wp_store_r (.tmp 9) (.tmp 31) rfl _ rfl zero20 o rfl HG1.out rfl ho20 ?_
            intro wb4 hA3 hg3
            replace HG2 := Lib.hid (idR_grown HG2.out hg3 (by have := HNE.out; omega))
            replace HB := Lib.hid (HB.out.grown hg3 HB.out.size (fun k e => by cases e; exact HGE1.out))
            replace HG1 := Lib.hid hA3
            clear hA3 hg3
            go_simp
            refine hK _ _ ?_
            clear hK K
            (try simp only [Act.put, List.setIfInBounds_toArray, List.set_cons_zero, List.set_cons_succ])
            refine wpAny_ready (rs := [1]) (by kernel_rfl) (by simp) ?_
            refine AllReady.cons rfl (fun K hK => ?_) ?_
            · rw [if_pos (by rfl)]
              refine wp_load_id (.tmp 5) rfl (w.heap.size + 1) rfl t (idAt_below XB.out HB.out) ht20 ?_
              go_simp
              refine hK _ _ ?_
              clear hK K
              (try simp only [Act.put, List.setIfInBounds_toArray, List.set_cons_zero, List.set_cons_succ])
              refine wpAny_ready (rs := [5]) (by kernel_rfl) (by simp) ?_
              refine AllReady.cons rfl (fun K hK => ?_) ?_
              · rw [if_pos (by rfl)]
                (try simp only [List.getElem_toArray, List.getElem_cons_succ, List.getElem_cons_zero])
                refine wp_store_r (.tmp 10) (.tmp 32) rfl _ rfl zero20 t rfl HG2.out rfl ht20 ?_
                intro wb5 hA3 hg3
                replace HG1 := Lib.hid (idR_grown HG1.out hg3 (by have := HNE.out; omega))
                replace HB := Lib.hid (HB.out.grown hg3 HB.out.size (fun k e => by cases e; exact HGE2.out))
                replace HG2 := Lib.hid hA3
                clear hA3 hg3
                go_simp
                refine hK _ _ ?_
                clear hK K
                (try simp only [Act.put, List.setIfInBounds_toArray, List.set_cons_zero, List.set_cons_succ])
                refine wpAny_done (by kernel_rfl) ?_ _
                exact h2.out (_, _) _ ⟨HB.out, HG1.out, HG2.out⟩
              exact AllReady.nil
            exact AllReady.nil
          exact AllReady.nil
        exact AllReady.nil
      exact AllReady.nil
    refine AllReady.cons rfl (fun K hK => ?_) ?_
    · rw [if_pos (by rfl)]
      refine wp_load_id (.tmp 5) rfl (w.heap.size + 1) rfl t (idAt_below XB.out HB.out) ht20 ?_
      go_simp
      refine hK _ _ ?_
      clear hK K
      (try simp only [Act.put, List.setIfInBounds_toArray, List.set_cons_zero, List.set_cons_succ])
      refine wpAny_ready (rs := [0, 2, 3]) (by kernel_rfl) (by simp) ?_
      refine AllReady.cons rfl (fun K hK => ?_) ?_
      · rw [if_pos (by rfl)]
        refine wp_load_id (.tmp 4) rfl (w.heap.size) rfl o (idAt_below XA.out HB.out) ho20 ?_
        go_simp
        refine hK _ _ ?_
        clear hK K
        (try simp only [Act.put, List.setIfInBounds_toArray, List.set_cons_zero, List.set_cons_succ])
        refine wpAny_ready (rs := [2, 3]) (by kernel_rfl) (by simp) ?_
        refine AllReady.cons rfl (fun K hK => ?_) ?_
        · go_simp
          have HGE1 := Lib.hid HB.out.size
          have HG1 := Lib.hid (zero_newr HB.out)
          replace HB := Lib.hid (HB.out.alloc HB.out.size Z56)
          generalize wd.heap.size = g1 at *
          generalize World.alloc wd Z56 = wa2 at *
          refine hK _ _ ?_
          clear hK K
          (try simp only [Act.put, List.setIfInBounds_toArray, List.set_cons_zero, List.set_cons_succ])
          refine wpAny_ready (rs := [3]) (by kernel_rfl) (by simp) ?_
          refine AllReady.cons rfl (fun K hK => ?_) ?_
          · go_simp
            have HGE2 := Lib.hid HB.out.size
            have HG2 := Lib.hid (zero_newr HB.out)
            have HNE := Lib.hid (idR_lt HG1.out)
            replace HG1 := Lib.hid (idR_below HG1.out ((Below.refl _ _).alloc (Nat.le_refl _) Z56))
            replace HB := Lib.hid (HB.out.alloc HB.out.size Z56)
            generalize wa2.heap.size = g2 at *
            generalize World.alloc wa2 Z56 = wa3 at *
            refine hK _ _ ?_
            clear hK K
            (try simp only [Act.put, List.setIfInBounds_toArray, List.set_cons_zero, List.set_cons_succ])
            refine wpAny_ready (rs := [4]) (by kernel_rfl) (by simp) ?_
            refine AllReady.cons rfl (fun K hK => ?_) ?_
            · rw [if_pos (by rfl)]
              (try simp only [List.getElem_toArray, List.getElem_cons_succ, List.getElem_cons_zero])
              refine wp_store_r (.tmp 9) (.tmp 31) rfl _ rfl zero20 o rfl HG1.out rfl ho20 ?_
              intro wb4 hA3 hg3
              replace HG2 := Lib.hid (idR_grown HG2.out hg3 (by have := HNE.out; omega))
              replace HB := Lib.hid (HB.out.grown hg3 HB.out.size (fun k e => by cases e; exact HGE1.out))
              replace HG1 := Lib.hid hA3
              clear hA3 hg3
              go_simp
              refine hK _ _ ?_
              clear hK K
              (try simp only [Act.put, List.setIfInBounds_toArray, List.set_cons_zero, List.set_cons_succ])
              refine wpAny_ready (rs := [5]) (by kernel_rfl) (by simp) ?_
              refine AllReady.cons rfl (fun K hK => ?_) ?_
              · rw [if_pos (by rfl)]
                (try simp only [List.getElem_toArray, List.getElem_cons_succ, List.getElem_cons_zero])
                refine wp_store_r (.tmp 10) (.tmp 32) rfl _ rfl zero20 t rfl HG2.out rfl ht20 ?_
                intro wb5 hA3 hg3
                replace HG1 := Lib.hid (idR_grown HG1.out hg3 (by have := HNE.out; omega))
                replace HB := Lib.hid (HB.out.grown hg3 HB.out.size (fun k e => by cases e; exact HGE2.out))
                replace HG2 := Lib.hid hA3
                clear hA3 hg3
                go_simp
                refine hK _ _ ?_
                clear hK K
                (try simp only [Act.put, List.setIfInBounds_toArray, List.set_cons_zero, List.set_cons_succ])
                refine wpAny_done (by kernel_rfl) ?_ _
                exact h2.out (_, _) _ ⟨HB.out, HG1.out, HG2.out⟩
              exact AllReady.nil
            exact AllReady.nil
          exact AllReady.nil
        refine AllReady.cons rfl (fun K hK => ?_) ?_
        · go_simp
          have HGE2 := Lib.hid HB.out.size
          have HG2 := Lib.hid (zero_newr HB.out)
          replace HB := Lib.hid (HB.out.alloc HB.out.size Z56)
          generalize wd.heap.size = g2 at *
          generalize World.alloc wd Z56 = wa3 at *
          refine hK _ _ ?_
          clear hK K
          (try simp only [Act.put, List.setIfInBounds_toArray, List.set_cons_zero, List.set_cons_succ])
          refine wpAny_ready (rs := [2]) (by kernel_rfl) (by simp) ?_
          refine AllReady.cons rfl (fun K hK => ?_) ?_
          · go_simp
            have HGE1 := Lib.hid HB.out.size
            have HG1 := Lib.hid (zero_newr HB.out)
            have HNE := Lib.hid (idR_lt HG2.out)
            replace HG2 := Lib.hid (idR_below HG2.out ((Below.refl _ _).alloc (Nat.le_refl _) Z56))
            replace HB := Lib.hid (HB.out.alloc HB.out.size Z56)
            generalize wa3.heap.size = g1 at *
            generalize World.alloc wa3 Z56 = wa2 at *
            refine hK _ _ ?_
            clear hK K
            (try simp only [Act.put, List.setIfInBounds_toArray, List.set_cons_zero, List.set_cons_succ])
            refine wpAny_ready (rs := [4]) (by kernel_rfl) (by simp) ?_
            refine AllReady.cons rfl (fun K hK => ?_) ?_
            · rw [if_pos (by rfl)]
              (try simp only [List.getElem_toArray, List.getElem_cons_succ, List.getElem_cons_zero])
              refine wp_store_r (.tmp 9) (.tmp 31) rfl _ rfl zero20 o rfl HG1.out rfl ho20 ?_
              intro wb4 hA3 hg3
              replace HG2 := Lib.hid (idR_grown HG2.out hg3 (by have := HNE.out; omega))
              replace HB := Lib.hid (HB.out.grown hg3 HB.out.size (fun k e => by cases e; exact HGE1.out))
              replace HG1 := Lib.hid hA3
              clear hA3 hg3
              go_simp
              refine hK _ _ ?_
              clear hK K
              (try simp only [Act.put, List.setIfInBounds_toArray, List.set_cons_zero, List.set_cons_succ])
              refine wpAny_ready (rs := [5]) (by kernel_rfl) (by simp) ?_
              refine AllReady.cons rfl (fun K hK => ?_) ?_
              · rw [if_pos (by rfl)]
                (try simp only [List.getElem_toArray, List.getElem_cons_succ, List.getElem_cons_zero])
                refine wp_store_r (.tmp 10) (.tmp 32) rfl _ rfl zero20 t rfl HG2.out rfl ht20 ?_
                intro wb5 hA3 hg3
                replace HG1 := Lib.hid (idR_grown HG1.out hg3 (by have := HNE.out; omega))
                replace HB := Lib.hid (HB.out.grown hg3 HB.out.size (fun k e => by cases e; exact HGE2.out))
                replace HG2 := Lib.hid hA3
                clear hA3 hg3
                go_simp
                refine hK _ _ ?_
                clear hK K
                (try simp only [Act.put, List.setIfInBounds_toArray, List.set_cons_zero, List.set_cons_succ])
                refine wpAny_done (by kernel_rfl) ?_ _
                exact h2.out (_, _) _ ⟨HB.out, HG1.out, HG2.out⟩
              exact AllReady.nil
            exact AllReady.nil
          exact AllReady.nil
        exact AllReady.nil
      refine AllReady.cons rfl (fun K hK => ?_) ?_
      · go_simp
        have HGE1 := Lib.hid HB.out.size
        have HG1 := Lib.hid (zero_newr HB.out)
        replace HB := Lib.hid (HB.out.alloc HB.out.size Z56)
        generalize wd.heap.size = g1 at *
        generalize World.alloc wd Z56 = wa2 at *
        refine hK _ _ ?_
        clear hK K
        (try simp only [Act.put, List.setIfInBounds_toArray, List.set_cons_zero, List.set_cons_succ])
        refine wpAny_ready (rs := [0, 3]) (by kernel_rfl) (by simp) ?_
        refine AllReady.cons rfl (fun K hK => ?_) ?_
        · rw [if_pos (by rfl)]
          refine wp_load_id (.tmp 4) rfl (w.heap.size) rfl o (idAt_below XA.out HB.out) ho20 ?_
          go_simp
          refine hK _ _ ?_
          clear hK K
          (try simp only [Act.put, List.setIfInBounds_toArray, List.set_cons_zero, List.set_cons_succ])
          refine wpAny_ready (rs := [3]) (by kernel_rfl) (by simp) ?_
          refine AllReady.cons rfl (fun K hK => ?_) ?_
          · go_simp
            have HGE2 := Lib.hid HB.out.size
            have HG2 := Lib.hid (zero_newr HB.out)
            have HNE := Lib.hid (idR_lt HG1.out)
            replace HG1 := Lib.hid (idR_below HG1.out ((Below.refl _ _).alloc (Nat.le_refl _) Z56))
            replace HB := Lib.hid (HB.out.alloc HB.out.size Z56)
            generalize wa2.heap.size = g2 at *
            generalize World.alloc wa2 Z56 = wa3 at *
            refine hK _ _ ?_
            clear hK K
            (try simp only [Act.put, List.setIfInBounds_toArray, List.set_cons_zero, List.set_cons_succ])
            refine wpAny_ready (rs := [4]) (by kernel_rfl) (by simp) ?_
            refine AllReady.cons rfl (fun K hK => ?_) ?_
            · rw [if_pos (by rfl)]
              (try simp only [List.getElem_toArray, List.getElem_cons_succ, List.getElem_cons_zero])
              refine wp_store_r (.tmp 9) (.tmp 31) rfl _ rfl zero20 o rfl HG1.out rfl ho20 ?_
              intro wb4 hA3 hg3
              replace HG2 := Lib.hid (idR_grown HG2.out hg3 (by have := HNE.out; omega))
              replace HB := Lib.hid (HB.out.grown hg3 HB.out.size (fun k e => by cases e; exact HGE1.out))
              replace HG1 := Lib.hid hA3
              clear hA3 hg3
              go_simp
              refine hK _ _ ?_
              clear hK K
              (try simp only [Act.put, List.setIfInBounds_toArray, List.set_cons_zero, List.set_cons_succ])
              refine wpAny_ready (rs := [5]) (by kernel_rfl) (by simp) ?_
              refine AllReady.cons rfl (fun K hK => ?_) ?_
              · rw [if_pos (by rfl)]
                (try simp only [List.getElem_toArray, List.getElem_cons_succ, List.getElem_cons_zero])
                refine wp_store_r (.tmp 10) (.tmp 32) rfl _ rfl zero20 t rfl HG2.out rfl ht20 ?_
                intro wb5 hA3 hg3
                replace HG1 := Lib.hid (idR_grown HG1.out hg3 (by have := HNE.out; omega))
                replace HB := Lib.hid (HB.out.grown hg3 HB.out.size (fun k e => by cases e; exact HGE2.out))
                replace HG2 := Lib.hid hA3
                clear hA3 hg3
                go_simp
                refine hK _ _ ?_
                clear hK K
                (try simp only [Act.put, List.setIfInBounds_toArray, List.set_cons_zero, List.set_cons_succ])
                refine wpAny_done (by kernel_rfl) ?_ _
                exact h2.out (_, _) _ ⟨HB.out, HG1.out, HG2.out⟩
              exact AllReady.nil
            exact AllReady.nil
          exact AllReady.nil
        refine AllReady.cons rfl (fun K hK => ?_) ?_
        · go_simp
          have HGE2 := Lib.hid HB.out.size
          have HG2 := Lib.hid (zero_newr HB.out)
          have HNE := Lib.hid (idR_lt HG1.out)
          replace HG1 := Lib.hid (idR_below HG1.out ((Below.refl _ _).alloc (Nat.le_refl _) Z56))
          replace HB := Lib.hid (HB.out.alloc HB.out.size Z56)
          generalize wa2.heap.size = g2 at *
          generalize World.alloc wa2 Z56 = wa3 at *
          refine hK _ _ ?_
          clear hK K
          (try simp only [Act.put, List.setIfInBounds_toArray, List.set_cons_zero, List.set_cons_succ])
          refine wpAny_ready (rs := [0]) (by kernel_rfl) (by simp) ?_
          refine AllReady.cons rfl (fun K hK => ?_) ?_
          · rw [if_pos (by rfl)]
            refine wp_load_id (.tmp 4) rfl (w.heap.size) rfl o (idAt_below XA.out HB.out) ho20 ?_
            go_simp
            refine hK _ _ ?_
            clear hK K
            (try simp only [Act.put, List.setIfInBounds_toArray, List.set_cons_zero, List.set_cons_succ])
            refine wpAny_ready (rs := [4]) (by kernel_rfl) (by simp) ?_
            refine AllReady.cons rfl (fun K hK => ?_) ?_
            · rw [if_pos (by rfl)]
              (try simp only [List.getElem_toArray, List.getElem_cons_succ, List.getElem_cons_zero])
              refine wp_store_r (.tmp 9) (.tmp 31) rfl _ rfl zero20 o rfl HG1.out rfl ho20 ?_
              intro wb4 hA3 hg3
              replace HG2 := Lib.hid (idR_grown HG2.out hg3 (by have := HNE.out; omega))
              replace HB := Lib.hid (HB.out.grown hg3 HB.out.size (fun k e => by cases e; exact HGE1.out))
              replace HG1 := Lib.hid hA3
              clear hA3 hg3
              go_simp
              refine hK _ _ ?_
              clear hK K
              (try simp only [Act.put, List.setIfInBounds_toArray, List.set_cons_zero, List.set_cons_succ])
              refine wpAny_ready (rs := [5]) (by kernel_rfl) (by simp) ?_
              refine AllReady.cons rfl (fun K hK => ?_) ?_
              · rw [if_pos (by rfl)]
                (try simp only [List.getElem_toArray, List.getElem_cons_succ, List.getElem_cons_zero])
                refine wp_store_r (.tmp 10) (.tmp 32) rfl _ rfl zero20 t rfl HG2.out rfl ht20 ?_
                intro wb5 hA3 hg3
                replace HG1 := Lib.hid (idR_grown HG1.out hg3 (by have := HNE.out; omega))
                replace HB := Lib.hid (HB.out.grown hg3 HB.out.size (fun k e => by cases e; exact HGE2.out))
                replace HG2 := Lib.hid hA3
                clear hA3 hg3
                go_simp
                refine hK _ _ ?_
                clear hK K
                (try simp only [Act.put, List.setIfInBounds_toArray, List.set_cons_zero, List.set_cons_succ])
                refine wpAny_done (by kernel_rfl) ?_ _
                exact h2.out (_, _) _ ⟨HB.out, HG1.out, HG2.out⟩
              exact AllReady.nil
            exact AllReady.nil
          exact AllReady.nil
        exact AllReady.nil
      refine AllReady.cons rfl (fun K hK => ?_) ?_
      · go_simp
        have HGE2 := Lib.hid HB.out.size
        have HG2 := Lib.hid (zero_newr HB.out)
        replace HB := Lib.hid (HB.out.alloc HB.out.size Z56)
        generalize wd.heap.size = g2 at *
        generalize World.alloc wd Z56 = wa3 at *
        refine hK _ _ ?_
        clear hK K
        (try simp only [Act.put, List.setIfInBounds_toArray, List.set_cons_zero, List.set_cons_succ])
        refine wpAny_ready (rs := [0, 2]) (by kernel_rfl) (by simp) ?_
        refine AllReady.cons rfl (fun K hK => ?_) ?_
        · rw [if_pos (by rfl)]
          refine wp_load_id (.tmp 4) rfl (w.heap.size) rfl o (idAt_below XA.out HB.out) ho20 ?_
          go_simp
          refine hK _ _ ?_
          clear hK K
          (try simp only [Act.put, List.setIfInBounds_toArray, List.set_cons_zero, List.set_cons_succ])
          refine wpAny_ready (rs := [2]) (by kernel_rfl) (by simp) ?_
          refine AllReady.cons rfl (fun K hK => ?_) ?_
          · go_simp
            have HGE1 := Lib.hid HB.out.size
            have HG1 := Lib.hid (zero_newr HB.out)
            have HNE := Lib.hid (idR_lt HG2.out)
            replace HG2 := Lib.hid (idR_below HG2.out ((Below.refl _ _).alloc (Nat.le_refl _) Z56))
            replace HB := Lib.hid (HB.out.alloc HB.out.size Z56)
            generalize wa3.heap.size = g1 at *
            generalize World.alloc wa3 Z56 = wa2 at *
            refine hK _ _ ?_
            clear hK K
            (try simp only [Act.put, List.setIfInBounds_toArray, List.set_cons_zero, List.set_cons_succ])
            refine wpAny_ready (rs := [4]) (by kernel_rfl) (by simp) ?_
            refine AllReady.cons rfl (fun K hK => ?_) ?_
            · rw [if_pos (by rfl)]
              (try simp only [List.getElem_toArray, List.getElem_cons_succ, List.getElem_cons_zero])
              refine wp_store_r (.tmp 9) (.tmp 31) rfl _ rfl zero20 o rfl HG1.out rfl ho20 ?_
              intro wb4 hA3 hg3
              replace HG2 := Lib.hid (idR_grown HG2.out hg3 (by have := HNE.out; omega))
              replace HB := Lib.hid (HB.out.grown hg3 HB.out.size (fun k e => by cases e; exact HGE1.out))
              replace HG1 := Lib.hid hA3
              clear hA3 hg3
              go_simp
              refine hK _ _ ?_
              clear hK K
              (try simp only [Act.put, List.setIfInBounds_toArray, List.set_cons_zero, List.set_cons_succ])
              refine wpAny_ready (rs := [5]) (by kernel_rfl) (by simp) ?_
              refine AllReady.cons rfl (fun K hK => ?_) ?_
              · rw [if_pos (by rfl)]
                (try simp only [List.getElem_toArray, List.getElem_cons_succ, List.getElem_cons_zero])
                refine wp_store_r (.tmp 10) (.tmp 32) rfl _ rfl zero20 t rfl HG2.out rfl ht20 ?_
                intro wb5 hA3 hg3
                replace HG1 := Lib.hid (idR_grown HG1.out hg3 (by have := HNE.out; omega))
                replace HB := Lib.hid (HB.out.grown hg3 HB.out.size (fun k e => by cases e; exact HGE2.out))
                replace HG2 := Lib.hid hA3
                clear hA3 hg3
                go_simp
                refine hK _ _ ?_
                clear hK K
                (try simp only [Act.put, List.setIfInBounds_toArray, List.set_cons_zero, List.set_cons_succ])
                refine wpAny_done (by kernel_rfl) ?_ _
                exact h2.out (_, _) _ ⟨HB.out, HG1.out, HG2.out⟩
              exact AllReady.nil
            exact AllReady.nil
          exact AllReady.nil
        refine AllReady.cons rfl (fun K hK => ?_) ?_
        · go_simp
          have HGE1 := Lib.hid HB.out.size
          have HG1 := Lib.hid (zero_newr HB.out)
          have HNE := Lib.hid (idR_lt HG2.out)
          replace HG2 := Lib.hid (idR_below HG2.out ((Below.refl _ _).alloc (Nat.le_refl _) Z56))
          replace HB := Lib.hid (HB.out.alloc HB.out.size Z56)
          generalize wa3.heap.size = g1 at *
          generalize World.alloc wa3 Z56 = wa2 at *
          refine hK _ _ ?_
          clear hK K
          (try simp only [Act.put, List.setIfInBounds_toArray, List.set_cons_zero, List.set_cons_succ])
          refine wpAny_ready (rs := [0]) (by kernel_rfl) (by simp) ?_
          refine AllReady.cons rfl (fun K hK => ?_) ?_
          · rw [if_pos (by rfl)]
            refine wp_load_id (.tmp 4) rfl (w.heap.size) rfl o (idAt_below XA.out HB.out) ho20 ?_
            go_simp
            refine hK _ _ ?_
            clear hK K
            (try simp only [Act.put, List.setIfInBounds_toArray, List.set_cons_zero, List.set_cons_succ])
            refine wpAny_ready (rs := [4]) (by kernel_rfl) (by simp) ?_
            refine AllReady.cons rfl (fun K hK => ?_) ?_
            · rw [if_pos (by rfl)]
              (try simp only [List.getElem_toArray, List.getElem_cons_succ, List.getElem_cons_zero])
              refine wp_store_r (.tmp 9) (.tmp 31) rfl _ rfl zero20 o rfl HG1.out rfl ho20 ?_
              intro wb4 hA3 hg3
              replace HG2 := Lib.hid (idR_grown HG2.out hg3 (by have := HNE.out; omega))
              replace HB := Lib.hid (HB.out.grown hg3 HB.out.size (fun k e => by cases e; exact HGE1.out))
              replace HG1 := Lib.hid hA3
              clear hA3 hg3
              go_simp
              refine hK _ _ ?_
              clear hK K
              (try simp only [Act.put, List.setIfInBounds_toArray, List.set_cons_zero, List.set_cons_succ])
              refine wpAny_ready (rs := [5]) (by kernel_rfl) (by simp) ?_
              refine AllReady.cons rfl (fun K hK => ?_) ?_
              · rw [if_pos (by rfl)]
                (try simp only [List.getElem_toArray, List.getElem_cons_succ, List.getElem_cons_zero])
                refine wp_store_r (.tmp 10) (.tmp 32) rfl _ rfl zero20 t rfl HG2.out rfl ht20 ?_
                intro wb5 hA3 hg3
                replace HG1 := Lib.hid (idR_grown HG1.out hg3 (by have := HNE.out; omega))
                replace HB := Lib.hid (HB.out.grown hg3 HB.out.size (fun k e => by cases e; exact HGE2.out))
                replace HG2 := Lib.hid hA3
                clear hA3 hg3
                go_simp
                refine hK _ _ ?_
                clear hK K
                (try simp only [Act.put, List.setIfInBounds_toArray, List.set_cons_zero, List.set_cons_succ])
                refine wpAny_done (by kernel_rfl) ?_ _
                exact h2.out (_, _) _ ⟨HB.out, HG1.out, HG2.out⟩
              exact AllReady.nil
            exact AllReady.nil
          exact AllReady.nil
        exact AllReady.nil
      exact AllReady.nil
    refine AllReady.cons rfl (fun K hK => ?_) ?_
    · go_simp
      have HGE1 := Lib.hid HB.out.size
      have HG1 := Lib.hid (zero_newr HB.out)
      replace HB := Lib.hid (HB.out.alloc HB.out.size Z56)
      generalize wd.heap.size = g1 at *
      generalize World.alloc wd Z56 = wa2 at *
      refine hK _ _ ?_
      clear hK K
      (try simp only [Act.put, List.setIfInBounds_toArray, List.set_cons_zero, List.set_cons_succ])
      refine wpAny_ready (rs := [0, 1, 3]) (by kernel_rfl) (by simp) ?_
      refine AllReady.cons rfl (fun K hK => ?_) ?_
      · rw [if_pos (by rfl)]
        refine wp_load_id (.tmp 4) rfl (w.heap.size) rfl o (idAt_below XA.out HB.out) ho20 ?_
        go_simp
        refine hK _ _ ?_
        clear hK K
        (try simp only [Act.put, List.setIfInBounds_toArray, List.set_cons_zero, List.set_cons_succ])
        refine wpAny_ready (rs := [1, 3]) (by kernel_rfl) (by simp) ?_
        refine AllReady.cons rfl (fun K hK => ?_) ?_
        · rw [if_pos (by rfl)]
          refine wp_load_id (.tmp 5) rfl (w.heap.size + 1) rfl t (idAt_below XB.out HB.out) ht20 ?_
          go_simp
          refine hK _ _ ?_
          clear hK K
          (try simp only [Act.put, List.setIfInBounds_toArray, List.set_cons_zero, List.set_cons_succ])
          refine wpAny_ready (rs := [3]) (by kernel_rfl) (by simp) ?_
          refine AllReady.cons rfl (fun K hK => ?_) ?_
          · go_simp
            have HGE2 := Lib.hid HB.out.size
            have HG2 := Lib.hid (zero_newr HB.out)
            have HNE := Lib.hid (idR_lt HG1.out)
            replace HG1 := Lib.hid (idR_below HG1.out ((Below.refl _ _).alloc (Nat.le_refl _) Z56))
            replace HB := Lib.hid (HB.out.alloc HB.out.size Z56)
            generalize wa2.heap.size = g2 at *
            generalize World.alloc wa2 Z56 = wa3 at *
            refine hK _ _ ?_
            clear hK K
            (try simp only [Act.put, List.setIfInBounds_toArray, List.set_cons_zero, List.set_cons_succ])
            refine wpAny_ready (rs := [4]) (by kernel_rfl) (by simp) ?_
            refine AllReady.cons rfl (fun K hK => ?_) ?_
            · rw [if_pos (by rfl)]
              (try simp only [List.getElem_toArray, List.getElem_cons_succ, List.getElem_cons_zero])
              refine wp_store_r (.tmp 9) (.tmp 31) rfl _ rfl zero20 o rfl HG1.out rfl ho20 ?_
              intro wb4 hA3 hg3
              replace HG2 := Lib.hid (idR_grown HG2.out hg3 (by have := HNE.out; omega))
              replace HB := Lib.hid (HB.out.grown hg3 HB.out.size (fun k e => by cases e; exact HGE1.out))
              replace HG1 := Lib.hid hA3
              clear hA3 hg3
              go_simp
              refine hK _ _ ?_
              clear hK K
              (try simp only [Act.put, List.setIfInBounds_toArray, List.set_cons_zero, List.set_cons_succ])
              refine wpAny_ready (rs := [5]) (by kernel_rfl) (by simp) ?_
              refine AllReady.cons rfl (fun K hK => ?_) ?_
              · rw [if_pos (by rfl)]
                (try simp only [List.getElem_toArray, List.getElem_cons_succ, List.getElem_cons_zero])
                refine wp_store_r (.tmp 10) (.tmp 32) rfl _ rfl zero20 t rfl HG2.out rfl ht20 ?_
                intro wb5 hA3 hg3
                replace HG1 := Lib.hid (idR_grown HG1.out hg3 (by have := HNE.out; omega))
                replace HB := Lib.hid (HB.out.grown hg3 HB.out.size (fun k e => by cases e; exact HGE2.out))
                replace HG2 := Lib.hid hA3
                clear hA3 hg3
                go_simp
                refine hK _ _ ?_
                clear hK K
                (try simp only [Act.put, List.setIfInBounds_toArray, List.set_cons_zero, List.set_cons_succ])
                refine wpAny_done (by kernel_rfl) ?_ _
                exact h2.out (_, _) _ ⟨HB.out, HG1.out, HG2.out⟩
              exact AllReady.nil
            exact AllReady.nil
          exact AllReady.nil
        refine AllReady.cons rfl (fun K hK => ?_) ?_
        · go_simp
          have HGE2 := Lib.hid HB.out.size
          have HG2 := Lib.hid (zero_newr HB.out)
          have HNE := Lib.hid (idR_lt HG1.out)
          replace HG1 := Lib.hid (idR_below HG1.out ((Below.refl _ _).alloc (Nat.le_refl _) Z56))
          replace HB := Lib.hid (HB.out.alloc HB.out.size Z56)
          generalize wa2.heap.size = g2 at *
          generalize World.alloc wa2 Z56 = wa3 at *
          refine hK _ _ ?_
          clear hK K
          (try simp only [Act.put, List.setIfInBounds_toArray, List.set_cons_zero, List.set_cons_succ])
          refine wpAny_ready (rs := [1, 4]) (by kernel_rfl) (by simp) ?_
          refine AllReady.cons rfl (fun K hK => ?_) ?_
          · rw [if_pos (by rfl)]
            refine wp_load_id (.tmp 5) rfl (w.heap.size + 1) rfl t (idAt_below XB.out HB.out) ht20 ?_
            go_simp
            refine hK _ _ ?_
            clear hK K
            (try simp only [Act.put, List.setIfInBounds_toArray, List.set_cons_zero, List.set_cons_succ])
            refine wpAny_ready (rs := [4]) (by kernel_rfl) (by simp) ?_
            refine AllReady.cons rfl (fun K hK => ?_) ?_
            · rw [if_pos (by rfl)]
              (try simp only [List.getElem_toArray, List.getElem_cons_succ, List.getElem_cons_zero])
              refine wp_store_r (.tmp 9) (.tmp 31) rfl _ rfl zero20 o rfl HG1.out rfl ho20 ?_
              intro wb4 hA3 hg3
              replace HG2 := Lib.hid (idR_grown HG2.out hg3 (by have := HNE.out; omega))
              replace HB := Lib.hid (HB.out.grown hg3 HB.out.size (fun k e => by cases e; exact HGE1.out))
              replace HG1 := Lib.hid hA3
              clear hA3 hg3
              go_simp
              refine hK _ _ ?_
              clear hK K
              (try simp only [Act.put, List.setIfInBounds_toArray, List.set_cons_zero, List.set_cons_succ])
              refine wpAny_ready (rs := [5]) (by kernel_rfl) (by simp) ?_
              refine AllReady.cons rfl (fun K hK => ?_) ?_
              · rw [if_pos (by rfl)]
                (try simp only [List.getElem_toArray, List.getElem_cons_succ, List.getElem_cons_zero])
                refine wp_store_r (.tmp 10) (.tmp 32) rfl _ rfl zero20 t rfl HG2.out rfl ht20 ?_
                intro wb5 hA3 hg3
                replace HG1 := Lib.hid (idR_grown HG1.out hg3 (by have := HNE.out; omega))
                replace HB := Lib.hid (HB.out.grown hg3 HB.out.size (fun k e => by cases e; exact HGE2.out))
                replace HG2 := Lib.hid hA3
                clear hA3 hg3
                go_simp
                refine hK _ _ ?_
                clear hK K
                (try simp only [Act.put, List.setIfInBounds_toArray, List.set_cons_zero, List.set_cons_succ])
                refine wpAny_done (by kernel_rfl) ?_ _
                exact h2.out (_, _) _ ⟨HB.out, HG1.out, HG2.out⟩
              exact AllReady.nil
            exact AllReady.nil
          refine AllReady.cons rfl (fun K hK => ?_) ?_
          · rw [if_pos (by rfl)]
            (try simp only [List.getElem_toArray, List.getElem_cons_succ, List.getElem_cons_zero])
            refine wp_store_r (.tmp 9) (.tmp 31) rfl _ rfl zero20 o rfl HG1.out rfl ho20 ?_
            intro wb4 hA3 hg3
            replace HG2 := Lib.hid (idR_grown HG2.out hg3 (by have := HNE.out; omega))
            replace HB := Lib.hid (HB.out.grown hg3 HB.out.size (fun k e => by cases e; exact HGE1.out))
            replace HG1 := Lib.hid hA3
            clear hA3 hg3
            go_simp
            refine hK _ _ ?_
            clear hK K
            (try simp only [Act.put, List.setIfInBounds_toArray, List.set_cons_zero, List.set_cons_succ])
            refine wpAny_ready (rs := [1]) (by kernel_rfl) (by simp) ?_
            refine AllReady.cons rfl (fun K hK => ?_) ?_
            · rw [if_pos (by rfl)]
              refine wp_load_id (.tmp 5) rfl (w.heap.size + 1) rfl t (idAt_below XB.out HB.out) ht20 ?_
              go_simp
              refine hK _ _ ?_
              clear hK K
              (try simp only [Act.put, List.setIfInBounds_toArray, List.set_cons_zero, List.set_cons_succ])
              refine wpAny_ready (rs := [5]) (by kernel_rfl) (by simp) ?_
              refine AllReady.cons rfl (fun K hK => ?_) ?_
              · rw [if_pos (by rfl)]
                (try simp only [List.getElem_toArray, List.getElem_cons_succ, List.getElem_cons_zero])
                refine wp_store_r (.tmp 10) (.tmp 32) rfl _ rfl zero20 t rfl HG2.out rfl ht20 ?_
                intro wb5 hA3 hg3
                replace HG1 := Lib.hid (idR_grown HG1.out hg3 (by have := HNE.out; omega))
                replace HB := Lib.hid (HB.out.grown hg3 HB.out.size (fun k e => by cases e; exact HGE2.out))
                replace HG2 := Lib.hid hA3
                clear hA3 hg3
                go_simp
                refine hK _ _ ?_
                clear hK K
                (try simp only [Act.put, List.setIfInBounds_toArray, List.set_cons_zero, List.set_cons_succ])
                refine wpAny_done (by kernel_rfl) ?_ _
                exact h2.out (_, _) _ ⟨HB.out, HG1.out, HG2.out⟩
              exact AllReady.nil
            exact AllReady.nil
          exact AllReady.nil
        exact AllReady.nil
      refine AllReady.cons rfl (fun K hK => ?_) ?_
      · rw [if_pos (by rfl)]
        refine wp_load_id (.tmp 5) rfl (w.heap.size + 1) rfl t (idAt_below XB.out HB.out) ht20 ?_
        go_simp
        refine hK _ _ ?_
        clear hK K
        (try simp only [Act.put, List.setIfInBounds_toArray, List.set_cons_zero, List.set_cons_succ])
        refine wpAny_ready (rs := [0, 3]) (by kernel_rfl) (by simp) ?_
        refine AllReady.cons rfl (fun K hK => ?_) ?_
        · rw [if_pos (by rfl)]
          refine wp_load_id (.tmp 4) rfl (w.heap.size) rfl o (idAt_below XA.out HB.out) ho20 ?_
          go_simp
          refine hK _ _ ?_
          clear hK K
          (try simp only [Act.put, List.setIfInBounds_toArray, List.set_cons_zero, List.set_cons_succ])
          refine wpAny_ready (rs := [3]) (by kernel_rfl) (by simp) ?_
          refine AllReady.cons rfl (fun K hK => ?_) ?_
          · go_simp
            have HGE2 := Lib.hid HB.out.size
            have HG2 := Lib.hid (zero_newr HB.out)
            have HNE := Lib.hid (idR_lt HG1.out)
            replace HG1 := Lib.hid (idR_below HG1.out ((Below.refl _ _).alloc (Nat.le_refl _) Z56))
            replace HB := Lib.hid (HB.out.alloc HB.out.size Z56)
            generalize wa2.heap.size = g2 at *
            generalize World.alloc wa2 Z56 = wa3 at *
            refine hK _ _ ?_
            clear hK K
            (try simp only [Act.put, List.setIfInBounds_toArray, List.set_cons_zero, List.set_cons_succ])
            refine wpAny_ready (rs := [4]) (by kernel_rfl) (by simp) ?_
            refine AllReady.cons rfl (fun K hK => ?_) ?_
            · rw [if_pos (by rfl)]
              (try simp only [List.getElem_toArray, List.getElem_cons_succ, List.getElem_cons_zero])
              refine wp_store_r (.tmp 9) (.tmp 31) rfl _ rfl zero20 o rfl HG1.out rfl ho20 ?_
              intro wb4 hA3 hg3
              replace HG2 := Lib.hid (idR_grown HG2.out hg3 (by have := HNE.out; omega))
              replace HB := Lib.hid (HB.out.grown hg3 HB.out.size (fun k e => by cases e; exact HGE1.out))
              replace HG1 := Lib.hid hA3
              clear hA3 hg3
              go_simp
              refine hK _ _ ?_
              clear hK K
              (try simp only [Act.put, List.setIfInBounds_toArray, List.set_cons_zero, List.set_cons_succ])
              refine wpAny_ready (rs := [5]) (by kernel_rfl) (by simp) ?_
              refine AllReady.cons rfl (fun K hK => ?_) ?_
              · rw [if_pos (by rfl)]
                (try simp only [List.getElem_toArray, List.getElem_cons_succ, List.getElem_cons_zero])
                refine wp_store_r (.tmp 10) (.tmp 32) rfl _ rfl zero20 t rfl HG2.out rfl ht20 ?_
                intro wb5 hA3 hg3
                replace HG1 := Lib.hid (idR_grown HG1.out hg3 (by have := HNE.out; omega))
                replace HB := Lib.hid (HB.out.grown hg3 HB.out.size (fun k e => by cases e; exact HGE2.out))
                replace HG2 := Lib.hid hA3
                clear hA3 hg3
                go_simp
                refine hK _ _ ?_
                clear hK K
                (try simp only [Act.put, List.setIfInBounds_toArray, List.set_cons_zero, List.set_cons_succ])
                refine wpAny_done (by kernel_rfl) ?_ _
                exact h2.out (_, _) _ ⟨HB.out, HG1.out, HG2.out⟩
              exact AllReady.nil
            exact AllReady.nil
          exact AllReady.nil
        refine AllReady.cons rfl (fun K hK => ?_) ?_
        · go_simp
          have HGE2 := Lib.hid HB.out.size
          have HG2 := Lib.hid (zero_newr HB.out)
          have HNE := Lib.hid (idR_lt HG1.out)
          replace HG1 := Lib.hid (idR_below HG1.out ((Below.refl _ _).alloc (Nat.le_refl _) Z56))
          replace HB := Lib.hid (HB.out.alloc HB.out.size Z56)
          generalize wa2.heap.size = g2 at *
          generalize World.alloc wa2 Z56 = wa3 at *
          refine hK _ _ ?_
          clear hK K
          (try simp only [Act.put, List.setIfInBounds_toArray, List.set_cons_zero, List.set_cons_succ])
          refine wpAny_ready (rs := [0]) (by kernel_rfl) (by simp) ?_
          refine AllReady.cons rfl (fun K hK => ?_) ?_
          · rw [if_pos (by rfl)]
            refine wp_load_id (.tmp 4) rfl (w.heap.size) rfl o (idAt_below XA.out HB.out) ho20 ?_
            go_simp
            refine hK _ _ ?_
            clear hK K
            (try simp only [Act.put, List.setIfInBounds_toArray, List.set_cons_zero, List.set_cons_succ])
            refine wpAny_ready (rs := [4]) (by kernel_rfl) (by simp) ?_
            refine AllReady.cons rfl (fun K hK => ?_) ?_
            · rw [if_pos (by rfl)]
              (try simp only [List.getElem_toArray, List.getElem_cons_succ, List.getElem_cons_zero])
              refine wp_store_r (.tmp 9) (.tmp 31) rfl _ rfl zero20 o rfl HG1.out rfl ho20 ?_
              intro wb4 hA3 hg3
              replace HG2 := Lib.hid (idR_grown HG2.out hg3 (by have := HNE.out; omega))
              replace HB := Lib.hid (HB.out.grown hg3 HB.out.size (fun k e => by cases e; exact HGE1.out))
              replace HG1 := Lib.hid hA3
              clear hA3 hg3
              go_simp
              refine hK _ _ ?_
              clear hK K
              (try simp only [Act.put, List.setIfInBounds_toArray, List.set_cons_zero, List.set_cons_succ])
              refine wpAny_ready (rs := [5]) (by kernel_rfl) (by simp) ?_
              refine AllReady.cons rfl (fun K hK => ?_) ?_
              · rw [if_pos (by rfl)]
                (try simp only [List.getElem_toArray, List.getElem_cons_succ, List.getElem_cons_zero])
                refine wp_store_r (.tmp 10) (.tmp 32) rfl _ rfl zero20 t rfl HG2.out rfl ht20 ?_
                intro wb5 hA3 hg3
                replace HG1 := Lib.hid (idR_grown HG1.out hg3 (by have := HNE.out; omega))
                replace HB := Lib.hid (HB.out.grown hg3 HB.out.size (fun k e => by cases e; exact HGE2.out))
                replace HG2 := Lib.hid hA3
                clear hA3 hg3
                go_simp
                refine hK _ _ ?_
                clear hK K
                (try simp only [Act.put, List.setIfInBounds_toArray, List.set_cons_zero, List.set_cons_succ])
                refine wpAny_done (by kernel_rfl) ?_ _
                exact h2.out (_, _) _ ⟨HB.out, HG1.out, HG2.out⟩
              exact AllReady.nil
            exact AllReady.nil
          exact AllReady.nil
        exact AllReady.nil
      refine AllReady.cons rfl (fun K hK => ?_) ?_
      · go_simp
        have HGE2 := Lib.hid HB.out.size
        have HG2 := Lib.hid (zero_newr HB.out)
        have HNE := Lib.hid (idR_lt HG1.out)
        replace HG1 := Lib.hid (idR_below HG1.out ((Below.refl _ _).alloc (Nat.le_refl _) Z56))
        replace HB := Lib.hid (HB.out.alloc HB.out.size Z56)
        generalize wa2.heap.size = g2 at *
        generalize World.alloc wa2 Z56 = wa3 at *
        refine hK _ _ ?_
        clear hK K
        (try simp only [Act.put, List.setIfInBounds_toArray, List.set_cons_zero, List.set_cons_succ])
        refine wpAny_ready (rs := [0, 1]) (by kernel_rfl) (by simp) ?_
        refine AllReady.cons rfl (fun K hK => ?_) ?_
        · rw [if_pos (by rfl)]
          refine wp_load_id (.tmp 4) rfl (w.heap.size) rfl o (idAt_below XA.out HB.out) ho20 ?_
          go_simp
          refine hK _ _ ?_
          clear hK K
          (try simp only [Act.put, List.setIfInBounds_toArray, List.set_cons_zero, List.set_cons_succ])
          refine wpAny_ready (rs := [1, 4]) (by kernel_rfl) (by simp) ?_
          refine AllReady.cons rfl (fun K hK => ?_) ?_
          · rw [if_pos (by rfl)]
            refine wp_load_id (.tmp 5) rfl (w.heap.size + 1) rfl t (idAt_below XB.out HB.out) ht20 ?_
            go_simp
            refine hK _ _ ?_
            clear hK K
            (try simp only [Act.put, List.setIfInBounds_toArray, List.set_cons_zero, List.set_cons_succ])
            refine wpAny_ready (rs := [4]) (by kernel_rfl) (by simp) ?_
            refine AllReady.cons rfl (fun K hK => ?_) ?_
            · rw [if_pos (by rfl)]
              (try simp only [List.getElem_toArray, List.getElem_cons_succ, List.getElem_cons_zero])
              refine wp_store_r (.tmp 9) (.tmp 31) rfl _ rfl zero20 o rfl HG1.out rfl ho20 ?_
              intro wb4 hA3 hg3
              replace HG2 := Lib.hid (idR_grown HG2.out hg3 (by have := HNE.out; omega))
              replace HB := Lib.hid (HB.out.grown hg3 HB.out.size (fun k e => by cases e; exact HGE1.out))
              replace HG1 := Lib.hid hA3
              clear hA3 hg3
              go_simp
              refine hK _ _ ?_
              clear hK K
              (try simp only [Act.put, List.setIfInBounds_toArray, List.set_cons_zero, List.set_cons_succ])
              refine wpAny_ready (rs := [5]) (by kernel_rfl) (by simp) ?_
              refine AllReady.cons rfl (fun K hK => ?_) ?_
              · rw [if_pos (by rfl)]
                (try simp only [List.getElem_toArray, List.getElem_cons_succ, List.getElem_cons_zero])
                refine wp_store_r (.tmp 10) (.tmp 32) rfl _ rfl zero20 t rfl HG2.out rfl ht20 ?_
                intro wb5 hA3 hg3
                replace HG1 := Lib.hid (idR_grown HG1.out hg3 (by have := HNE.out; omega))
                replace HB := Lib.hid (HB.out.grown hg3 HB.out.size (fun k e => by cases e; exact HGE2.out))
                replace HG2 := Lib.hid hA3
                clear hA3 hg3
                go_simp
                refine hK _ _ ?_
                clear hK K
                (try simp only [Act.put, List.setIfInBounds_toArray, List.set_cons_zero, List.set_cons_succ])
                refine wpAny_done (by kernel_rfl) ?_ _
                exact h2.out (_, _) _ ⟨HB.out, HG1.out, HG2.out⟩
              exact AllReady.nil
            exact AllReady.nil
          refine AllReady.cons rfl (fun K hK => ?_) ?_
          · rw [if_pos (by rfl)]
            (try simp only [List.getElem_toArray, List.getElem_cons_succ, List.getElem_cons_zero])
            refine wp_store_r (.tmp 9) (.tmp 31) rfl _ rfl zero20 o rfl HG1.out rfl ho20 ?_
            intro wb4 hA3 hg3
            replace HG2 := Lib.hid (idR_grown HG2.out hg3 (by have := HNE.out; omega))
            replace HB := Lib.hid (HB.out.grown hg3 HB.out.size (fun k e => by cases e; exact HGE1.out))
            replace HG1 := Lib.hid hA3
            clear hA3 hg3
            go_simp
            refine hK _ _ ?_
            clear hK K
            (try simp only [Act.put, List.setIfInBounds_toArray, List.set_cons_zero, List.set_cons_succ])
            refine wpAny_ready (rs := [1]) (by kernel_rfl) (by simp) ?_
            refine AllReady.cons rfl (fun K hK => ?_) ?_
            · rw [if_pos (by rfl)]
              refine wp_load_id (.tmp 5) rfl (w.heap.size + 1) rfl t (idAt_below XB.out HB.out) ht20 ?_
              go_simp
              refine hK _ _ ?_
              clear hK K
              (try simp only [Act.put, List.setIfInBounds_toArray, List.set_cons_zero, List.set_cons_succ])
              refine wpAny_ready (rs := [5]) (by kernel_rfl) (by simp) ?_
              refine AllReady.cons rfl (fun K hK => ?_) ?_
              · rw [if_pos (by rfl)]
                (try simp only [List.getElem_toArray, List.getElem_cons_succ, List.getElem_cons_zero])
                refine wp_store_r (.tmp 10) (.tmp 32) rfl _ rfl zero20 t rfl HG2.out rfl ht20 ?_
                intro wb5 hA3 hg3
                replace HG1 := Lib.hid (idR_grown HG1.out hg3 (by have := HNE.out; omega))
                replace HB := Lib.hid (HB.out.grown hg3 HB.out.size (fun k e => by cases e; exact HGE2.out))
                replace HG2 := Lib.hid hA3
                clear hA3 hg3
                go_simp
                refine hK _ _ ?_
                clear hK K
                (try simp only [Act.put, List.setIfInBounds_toArray, List.set_cons_zero, List.set_cons_succ])
                refine wpAny_done (by kernel_rfl) ?_ _
                exact h2.out (_, _) _ ⟨HB.out, HG1.out, HG2.out⟩
              exact AllReady.nil
            exact AllReady.nil
          exact AllReady.nil
        refine AllReady.cons rfl (fun K hK => ?_) ?_
        · rw [if_pos (by rfl)]
          refine wp_load_id (.tmp 5) rfl (w.heap.size + 1) rfl t (idAt_below XB.out HB.out) ht20 ?_
          go_simp
          refine hK _ _ ?_
          clear hK K
          (try simp only [Act.put, List.setIfInBounds_toArray, List.set_cons_zero, List.set_cons_succ])
          refine wpAny_ready (rs := [0]) (by kernel_rfl) (by simp) ?_
          refine AllReady.cons rfl (fun K hK => ?_) ?_
          · rw [if_pos (by rfl)]
            refine wp_load_id (.tmp 4) rfl (w.heap.size) rfl o (idAt_below XA.out HB.out) ho20 ?_
            go_simp
            refine hK _ _ ?_
            clear hK K
            (try simp only [Act.put, List.setIfInBounds_toArray, List.set_cons_zero, List.set_cons_succ])
            refine wpAny_ready (rs := [4]) (by kernel_rfl) (by simp) ?_
            refine AllReady.cons rfl (fun K hK => ?_) ?_
            · rw [if_pos (by rfl)]
              (try simp only [List.getElem_toArray, List.getElem_cons_succ, List.getElem_cons_zero])
              refine wp_store_r (.tmp 9) (.tmp 31) rfl _ rfl zero20 o rfl HG1.out rfl ho20 ?_
              intro wb4 hA3 hg3
              replace HG2 := Lib.hid (idR_grown HG2.out hg3 (by have := HNE.out; omega))
              replace HB := Lib.hid (HB.out.grown hg3 HB.out.size (fun k e => by cases e; exact HGE1.out))
              replace HG1 := Lib.hid hA3
              clear hA3 hg3
              go_simp
              refine hK _ _ ?_
              clear hK K
              (try simp only [Act.put, List.setIfInBounds_toArray, List.set_cons_zero, List.set_cons_succ])
              refine wpAny_ready (rs := [5]) (by kernel_rfl) (by simp) ?_
              refine AllReady.cons rfl (fun K hK => ?_) ?_
              · rw [if_pos (by rfl)]
                (try simp only [List.getElem_toArray, List.getElem_cons_succ, List.getElem_cons_zero])
                refine wp_store_r (.tmp 10) (.tmp 32) rfl _ rfl zero20 t rfl HG2.out rfl ht20 ?_
                intro wb5 hA3 hg3
                replace HG1 := Lib.hid (idR_grown HG1.out hg3 (by have := HNE.out; omega))
                replace HB := Lib.hid (HB.out.grown hg3 HB.out.size (fun k e => by cases e; exact HGE2.out))
                replace HG2 := Lib.hid hA3
                clear hA3 hg3
                go_simp
                refine hK _ _ ?_
                clear hK K
                (try simp only [Act.put, List.setIfInBounds_toArray, List.set_cons_zero, List.set_cons_succ])
                refine wpAny_done (by kernel_rfl) ?_ _
                exact h2.out (_, _) _ ⟨HB.out, HG1.out, HG2.out⟩
              exact AllReady.nil
            exact AllReady.nil
          exact AllReady.nil
        exact AllReady.nil
      exact AllReady.nil
    refine AllReady.cons rfl (fun K hK => ?_) ?_
    · go_simp
      have HGE2 := Lib.hid HB.out.size
      have HG2 := Lib.hid (zero_newr HB.out)
      replace HB := Lib.hid (HB.out.alloc HB.out.size Z56)
      generalize wd.heap.size = g2 at *
      generalize World.alloc wd Z56 = wa3 at *
      refine hK _ _ ?_
      clear hK K
      (try simp only [Act.put, List.setIfInBounds_toArray, List.set_cons_zero, List.set_cons_succ])
      refine wpAny_ready (rs := [0, 1, 2]) (by kernel_rfl) (by simp) ?_
      refine AllReady.cons rfl (fun K hK => ?_) ?_
      · rw [if_pos (by rfl)]
        refine wp_load_id (.tmp 4) rfl (w.heap.size) rfl o (idAt_below XA.out HB.out) ho20 ?_
        go_simp
        refine hK _ _ ?_
        clear hK K
        (try simp only [Act.put, List.setIfInBounds_toArray, List.set_cons_zero, List.set_cons_succ])
        refine wpAny_ready (rs := [1, 2]) (by kernel_rfl) (by simp) ?_
        refine AllReady.cons rfl (fun K hK => ?_) ?_
        · rw [if_pos (by rfl)]
          refine wp_load_id (.tmp 5) rfl (w.heap.size + 1) rfl t (idAt_below XB.out HB.out) ht20 ?_
          go_simp
          refine hK _ _ ?_
          clear hK K
          (try simp only [Act.put, List.setIfInBounds_toArray, List.set_cons_zero, List.set_cons_succ])
          refine wpAny_ready (rs := [2]) (by kernel_rfl) (by simp) ?_
          refine AllReady.cons rfl (fun K hK => ?_) ?_
          · go_simp
            have HGE1 := Lib.hid HB.out.size
            have HG1 := Lib.hid (zero_newr HB.out)
            have HNE := Lib.hid (idR_lt HG2.out)
            replace HG2 := Lib.hid (idR_below HG2.out ((Below.refl _ _).alloc (Nat.le_refl _) Z56))
            replace HB := Lib.hid (HB.out.alloc HB.out.size Z56)
            generalize wa3.heap.size = g1 at *
            generalize World.alloc wa3 Z56 = wa2 at *
            refine hK _ _ ?_
            clear hK K
            (try simp only [Act.put, List.setIfInBounds_toArray, List.set_cons_zero, List.set_cons_succ])
            refine wpAny_ready (rs := [4]) (by kernel_rfl) (by simp) ?_
            refine AllReady.cons rfl (fun K hK => ?_) ?_
            · rw [if_pos (by rfl)]
              (try simp only [List.getElem_toArray, List.getElem_cons_succ, List.getElem_cons_zero])
              refine wp_store_r (.tmp 9) (.tmp 31) rfl _ rfl zero20 o rfl HG1.out rfl ho20 ?_
              intro wb4 hA3 hg3
              replace HG2 := Lib.hid (idR_grown HG2.out hg3 (by have := HNE.out; omega))
              replace HB := Lib.hid (HB.out.grown hg3 HB.out.size (fun k e => by cases e; exact HGE1.out))
              replace HG1 := Lib.hid hA3
              clear hA3 hg3
              go_simp
              refine hK _ _ ?_
              clear hK K
              (try simp only [Act.put, List.setIfInBounds_toArray, List.set_cons_zero, List.set_cons_succ])
              refine wpAny_ready (rs := [5]) (by kernel_rfl) (by simp) ?_
              refine AllReady.cons rfl (fun K hK => ?_) ?_
              · rw [if_pos (by rfl)]
                (try simp only [List.getElem_toArray, List.getElem_cons_succ, List.getElem_cons_zero])
                refine wp_store_r (.tmp 10) (.tmp 32) rfl _ rfl zero20 t rfl HG2.out rfl ht20 ?_
                intro wb5 hA3 hg3
                replace HG1 := Lib.hid (idR_grown HG1.out hg3 (by have := HNE.out; omega))
                replace HB := Lib.hid (HB.out.grown hg3 HB.out.size (fun k e => by cases e; exact HGE2.out))
                replace HG2 := Lib.hid hA3
                clear hA3 hg3
                go_simp
                refine hK _ _ ?_
                clear hK K
                (try simp only [Act.put, List.setIfInBounds_toArray, List.set_cons_zero, List.set_cons_succ])
                refine wpAny_done (by kernel_rfl) ?_ _
                exact h2.out (_, _) _ ⟨HB.out, HG1.out, HG2.out⟩
              exact AllReady.nil
            exact AllReady.nil
          exact AllReady.nil
        refine AllReady.cons rfl (fun K hK => ?_) ?_
        · go_simp
          have HGE1 := Lib.hid HB.out.size
          have HG1 := Lib.hid (zero_newr HB.out)
          have HNE := Lib.hid (idR_lt HG2.out)
          replace HG2 := Lib.hid (idR_below HG2.out ((Below.refl _ _).alloc (Nat.le_refl _) Z56))
          replace HB := Lib.hid (HB.out.alloc HB.out.size Z56)
          generalize wa3.heap.size = g1 at *
          generalize World.alloc wa3 Z56 = wa2 at *
          refine hK _ _ ?_
          clear hK K
          (try simp only [Act.put, List.setIfInBounds_toArray, List.set_cons_zero, List.set_cons_succ])
          refine wpAny_ready (rs := [1, 4]) (by kernel_rfl) (by simp) ?_
          refine AllReady.cons rfl (fun K hK => ?_) ?_
          · rw [if_pos (by rfl)]
            refine wp_load_id (.tmp 5) rfl (w.heap.size + 1) rfl t (idAt_below XB.out HB.out) ht20 ?_
            go_simp
            refine hK _ _ ?_
            clear hK K
            (try simp only [Act.put, List.setIfInBounds_toArray, List.set_cons_zero, List.set_cons_succ])
            refine wpAny_ready (rs := [4]) (by kernel_rfl) (by simp) ?_
            refine AllReady.cons rfl (fun K hK => ?_) ?_
            · rw [if_pos (by rfl)]
              (try simp only [List.getElem_toArray, List.getElem_cons_succ, List.getElem_cons_zero])
              refine wp_store_r (.tmp 9) (.tmp 31) rfl _ rfl zero20 o rfl HG1.out rfl ho20 ?_
              intro wb4 hA3 hg3
              replace HG2 := Lib.hid (idR_grown HG2.out hg3 (by have := HNE.out; omega))
              replace HB := Lib.hid (HB.out.grown hg3 HB.out.size (fun k e => by cases e; exact HGE1.out))
              replace HG1 := Lib.hid hA3
              clear hA3 hg3
              go_simp
              refine hK _ _ ?_
              clear hK K
              (try simp only [Act.put, List.setIfInBounds_toArray, List.set_cons_zero, List.set_cons_succ])
              refine wpAny_ready (rs := [5]) (by kernel_rfl) (by simp) ?_
              refine AllReady.cons rfl (fun K hK => ?_) ?_
              · rw [if_pos (by rfl)]
                (try simp only [List.getElem_toArray, List.getElem_cons_succ, List.getElem_cons_zero])
                refine wp_store_r (.tmp 10) (.tmp 32) rfl _ rfl zero20 t rfl HG2.out rfl ht20 ?_
                intro wb5 hA3 hg3
                replace HG1 := Lib.hid (idR_grown HG1.out hg3 (by have := HNE.out; omega))
                replace HB := Lib.hid (HB.out.grown hg3 HB.out.size (fun k e => by cases e; exact HGE2.out))
                replace HG2 := Lib.hid hA3
                clear hA3 hg3
                go_simp
                refine hK _ _ ?_
                clear hK K
                (try simp only [Act.put, List.setIfInBounds_toArray, List.set_cons_zero, List.set_cons_succ])
                refine wpAny_done (by kernel_rfl) ?_ _
                exact h2.out (_, _) _ ⟨HB.out, HG1.out, HG2.out⟩
              exact AllReady.nil
            exact AllReady.nil
          refine AllReady.cons rfl (fun K hK => ?_) ?_
          · rw [if_pos (by rfl)]
            (try simp only [List.getElem_toArray, List.getElem_cons_succ, List.getElem_cons_zero])
            refine wp_store_r (.tmp 9) (.tmp 31) rfl _ rfl zero20 o rfl HG1.out rfl ho20 ?_
            intro wb4 hA3 hg3
            replace HG2 := Lib.hid (idR_grown HG2.out hg3 (by have := HNE.out; omega))
            replace HB := Lib.hid (HB.out.grown hg3 HB.out.size (fun k e => by cases e; exact HGE1.out))
            replace HG1 := Lib.hid hA3
            clear hA3 hg3
            go_simp
            refine hK _ _ ?_
            clear hK K
            (try simp only [Act.put, List.setIfInBounds_toArray, List.set_cons_zero, List.set_cons_succ])
            refine wpAny_ready (rs := [1]) (by kernel_rfl) (by simp) ?_
            refine AllReady.cons rfl (fun K hK => ?_) ?_
            · rw [if_pos (by rfl)]
              refine wp_load_id (.tmp 5) rfl (w.heap.size + 1) rfl t (idAt_below XB.out HB.out) ht20 ?_
              go_simp
              refine hK _ _ ?_
              clear hK K
              (try simp only [Act.put, List.setIfInBounds_toArray, List.set_cons_zero, List.set_cons_succ])
              refine wpAny_ready (rs := [5]) (by kernel_rfl) (by simp) ?_
              refine AllReady.cons rfl (fun K hK => ?_) ?_
              · rw [if_pos (by rfl)]
                (try simp only [List.getElem_toArray, List.getElem_cons_succ, List.getElem_cons_zero])
                refine wp_store_r (.tmp 10) (.tmp 32) rfl _ rfl zero20 t rfl HG2.out rfl ht20 ?_
                intro wb5 hA3 hg3
                replace HG1 := Lib.hid (idR_grown HG1.out hg3 (by have := HNE.out; omega))
                replace HB := Lib.hid (HB.out.grown hg3 HB.out.size (fun k e => by cases e; exact HGE2.out))
                replace HG2 := Lib.hid hA3
                clear hA3 hg3
                go_simp
                refine hK _ _ ?_
                clear hK K
                (try simp only [Act.put, List.setIfInBounds_toArray, List.set_cons_zero, List.set_cons_succ])
                refine wpAny_done (by kernel_rfl) ?_ _
                exact h2.out (_, _) _ ⟨HB.out, HG1.out, HG2.out⟩
              exact AllReady.nil
            exact AllReady.nil
          exact AllReady.nil
        exact AllReady.nil
      refine AllReady.cons rfl (fun K hK => ?_) ?_
      · rw [if_pos (by rfl)]
        refine wp_load_id (.tmp 5) rfl (w.heap.size + 1) rfl t (idAt_below XB.out HB.out) ht20 ?_
        go_simp
        refine hK _ _ ?_
        clear hK K
        (try simp only [Act.put, List.setIfInBounds_toArray, List.set_cons_zero, List.set_cons_succ])
        refine wpAny_ready (rs := [0, 2]) (by kernel_rfl) (by simp) ?_
        refine AllReady.cons rfl (fun K hK => ?_) ?_
        · rw [if_pos (by rfl)]
          refine wp_load_id (.tmp 4) rfl (w.heap.size) rfl o (idAt_below XA.out HB.out) ho20 ?_
          go_simp
          refine hK _ _ ?_
          clear hK K
          (try simp only [Act.put, List.setIfInBounds_toArray, List.set_cons_zero, List.set_cons_succ])
          refine wpAny_ready (rs := [2]) (by kernel_rfl) (by simp) ?_
          refine AllReady.cons rfl (fun K hK => ?_) ?_
          · go_simp
            have HGE1 := Lib.hid HB.out.size
            have HG1 := Lib.hid (zero_newr HB.out)
            have HNE := Lib.hid (idR_lt HG2.out)
            replace HG2 := Lib.hid (idR_below HG2.out ((Below.refl _ _).alloc (Nat.le_refl _) Z56))
            replace HB := Lib.hid (HB.out.alloc HB.out.size Z56)
            generalize wa3.heap.size = g1 at *
            generalize World.alloc wa3 Z56 = wa2 at *
            refine hK _ _ ?_
            clear hK K
            (try simp only [Act.put, List.setIfInBounds_toArray, List.set_cons_zero, List.set_cons_succ])
            refine wpAny_ready (rs := [4]) (by kernel_rfl) (by simp) ?_
            refine AllReady.cons rfl (fun K hK => ?_) ?_
            · rw [if_pos (by rfl)]
              (try simp only [List.getElem_toArray, List.getElem_cons_succ, List.getElem_cons_zero])
              refine wp_store_r (.tmp 9) (.tmp 31) rfl _ rfl zero20 o rfl HG1.out rfl ho20 ?_
              intro wb4 hA3 hg3
              replace HG2 := Lib.hid (idR_grown HG2.out hg3 (by have := HNE.out; omega))
              replace HB := Lib.hid (HB.out.grown hg3 HB.out.size (fun k e => by cases e; exact HGE1.out))
              replace HG1 := Lib.hid hA3
              clear hA3 hg3
              go_simp
              refine hK _ _ ?_
              clear hK K
              (try simp only [Act.put, List.setIfInBounds_toArray, List.set_cons_zero, List.set_cons_succ])
              refine wpAny_ready (rs := [5]) (by kernel_rfl) (by simp) ?_
              refine AllReady.cons rfl (fun K hK => ?_) ?_
              · rw [if_pos (by rfl)]
                (try simp only [List.getElem_toArray, List.getElem_cons_succ, List.getElem_cons_zero])
                refine wp_store_r (.tmp 10) (.tmp 32) rfl _ rfl zero20 t rfl HG2.out rfl ht20 ?_
                intro wb5 hA3 hg3
                replace HG1 := Lib.hid (idR_grown HG1.out hg3 (by have := HNE.out; omega))
                replace HB := Lib.hid (HB.out.grown hg3 HB.out.size (fun k e => by cases e; exact HGE2.out))
                replace HG2 := Lib.hid hA3
                clear hA3 hg3
                go_simp
                refine hK _ _ ?_
                clear hK K
                (try simp only [Act.put, List.setIfInBounds_toArray, List.set_cons_zero, List.set_cons_succ])
                refine wpAny_done (by kernel_rfl) ?_ _
                exact h2.out (_, _) _ ⟨HB.out, HG1.out, HG2.out⟩
              exact AllReady.nil
            exact AllReady.nil
          exact AllReady.nil
        refine AllReady.cons rfl (fun K hK => ?_) ?_
        · go_simp
          have HGE1 := Lib.hid HB.out.size
          have HG1 := Lib.hid (zero_newr HB.out)
          have HNE := Lib.hid (idR_lt HG2.out)
          replace HG2 := Lib.hid (idR_below HG2.out ((Below.refl _ _).alloc (Nat.le_refl _) Z56))
          replace HB := Lib.hid (HB.out.alloc HB.out.size Z56)
          generalize wa3.heap.size = g1 at *
          generalize World.alloc wa3 Z56 = wa2 at *
          refine hK _ _ ?_
          clear hK K
          (try simp only [Act.put, List.setIfInBounds_toArray, List.set_cons_zero, List.set_cons_succ])
          refine wpAny_ready (rs := [0]) (by kernel_rfl) (by simp) ?_
          refine AllReady.cons rfl (fun K hK => ?_) ?_
          · rw [if_pos (by rfl)]
            refine wp_load_id (.tmp 4) rfl (w.heap.size) rfl o (idAt_below XA.out HB.out) ho20 ?_
            go_simp
            refine hK _ _ ?_
            clear hK K
            (try simp only [Act.put, List.setIfInBounds_toArray, List.set_cons_zero, List.set_cons_succ])
            refine wpAny_ready (rs := [4]) (by kernel_rfl) (by simp) ?_
            refine AllReady.cons rfl (fun K hK => ?_) ?_
            · rw [if_pos (by rfl)]
              (try simp only [List.getElem_toArray, List.getElem_cons_succ, List.getElem_cons_zero])
              refine wp_store_r (.tmp 9) (.tmp 31) rfl _ rfl zero20 o rfl HG1.out rfl ho20 ?_
              intro wb4 hA3 hg3
              replace HG2 := Lib.hid (idR_grown HG2.out hg3 (by have := HNE.out; omega))
              replace HB := Lib.hid (HB.out.grown hg3 HB.out.size (fun k e => by cases e; exact HGE1.out))
              replace HG1 := Lib.hid hA3
              clear hA3 hg3
              go_simp
              refine hK _ _ ?_
              clear hK K
              (try simp only [Act.put, List.setIfInBounds_toArray, List.set_cons_zero, List.set_cons_succ])
              refine wpAny_ready (rs := [5]) (by kernel_rfl) (by simp) ?_
              refine AllReady.cons rfl (fun K hK => ?_) ?_
              · rw [if_pos (by rfl)]
                (try simp only [List.getElem_toArray, List.getElem_cons_succ, List.getElem_cons_zero])
                refine wp_store_r (.tmp 10) (.tmp 32) rfl _ rfl zero20 t rfl HG2.out rfl ht20 ?_
                intro wb5 hA3 hg3
                replace HG1 := Lib.hid (idR_grown HG1.out hg3 (by have := HNE.out; omega))
                replace HB := Lib.hid (HB.out.grown hg3 HB.out.size (fun k e => by cases e; exact HGE2.out))
                replace HG2 := Lib.hid hA3
                clear hA3 hg3
                go_simp
                refine hK _ _ ?_
                clear hK K
                (try simp only [Act.put, List.setIfInBounds_toArray, List.set_cons_zero, List.set_cons_succ])
                refine wpAny_done (by kernel_rfl) ?_ _
                exact h2.out (_, _) _ ⟨HB.out, HG1.out, HG2.out⟩
              exact AllReady.nil
            exact AllReady.nil
          exact AllReady.nil
        exact AllReady.nil
      refine AllReady.cons rfl (fun K hK => ?_) ?_
      · go_simp
        have HGE1 := Lib.hid HB.out.size
        have HG1 := Lib.hid (zero_newr HB.out)
        have HNE := Lib.hid (idR_lt HG2.out)
        replace HG2 := Lib.hid (idR_below HG2.out ((Below.refl _ _).alloc (Nat.le_refl _) Z56))
        replace HB := Lib.hid (HB.out.alloc HB.out.size Z56)
        generalize wa3.heap.size = g1 at *
        generalize World.alloc wa3 Z56 = wa2 at *
        refine hK _ _ ?_
        clear hK K
        (try simp only [Act.put, List.setIfInBounds_toArray, List.set_cons_zero, List.set_cons_succ])
        refine wpAny_ready (rs := [0, 1]) (by kernel_rfl) (by simp) ?_
        refine AllReady.cons rfl (fun K hK => ?_) ?_
        · rw [if_pos (by rfl)]
          refine wp_load_id (.tmp 4) rfl (w.heap.size) rfl o (idAt_below XA.out HB.out) ho20 ?_
          go_simp
          refine hK _ _ ?_
          clear hK K
          (try simp only [Act.put, List.setIfInBounds_toArray, List.set_cons_zero, List.set_cons_succ])
          refine wpAny_ready (rs := [1, 4]) (by kernel_rfl) (by simp) ?_
          refine AllReady.cons rfl (fun K hK => ?_) ?_
          · rw [if_pos (by rfl)]
            refine wp_load_id (.tmp 5) rfl (w.heap.size + 1) rfl t (idAt_below XB.out HB.out) ht20 ?_
            go_simp
            refine hK _ _ ?_
            clear hK K
            (try simp only [Act.put, List.setIfInBounds_toArray, List.set_cons_zero, List.set_cons_succ])
            refine wpAny_ready (rs := [4]) (by kernel_rfl) (by simp) ?_
            refine AllReady.cons rfl (fun K hK => ?_) ?_
            · rw [if_pos (by rfl)]
              (try simp only [List.getElem_toArray, List.getElem_cons_succ, List.getElem_cons_zero])
              refine wp_store_r (.tmp 9) (.tmp 31) rfl _ rfl zero20 o rfl HG1.out rfl ho20 ?_
              intro wb4 hA3 hg3
              replace HG2 := Lib.hid (idR_grown HG2.out hg3 (by have := HNE.out; omega))
              replace HB := Lib.hid (HB.out.grown hg3 HB.out.size (fun k e => by cases e; exact HGE1.out))
              replace HG1 := Lib.hid hA3
              clear hA3 hg3
              go_simp
              refine hK _ _ ?_
              clear hK K
              (try simp only [Act.put, List.setIfInBounds_toArray, List.set_cons_zero, List.set_cons_succ])
              refine wpAny_ready (rs := [5]) (by kernel_rfl) (by simp) ?_
              refine AllReady.cons rfl (fun K hK => ?_) ?_
              · rw [if_pos (by rfl)]
                (try simp only [List.getElem_toArray, List.getElem_cons_succ, List.getElem_cons_zero])
                refine wp_store_r (.tmp 10) (.tmp 32) rfl _ rfl zero20 t rfl HG2.out rfl ht20 ?_
                intro wb5 hA3 hg3
                replace HG1 := Lib.hid (idR_grown HG1.out hg3 (by have := HNE.out; omega))
                replace HB := Lib.hid (HB.out.grown hg3 HB.out.size (fun k e => by cases e; exact HGE2.out))
                replace HG2 := Lib.hid hA3
                clear hA3 hg3
                go_simp
                refine hK _ _ ?_
                clear hK K
                (try simp only [Act.put, List.setIfInBounds_toArray, List.set_cons_zero, List.set_cons_succ])
                refine wpAny_done (by kernel_rfl) ?_ _
                exact h2.out (_, _) _ ⟨HB.out, HG1.out, HG2.out⟩
              exact AllReady.nil
            exact AllReady.nil
          refine AllReady.cons rfl (fun K hK => ?_) ?_
          · rw [if_pos (by rfl)]
            (try simp only [List.getElem_toArray, List.getElem_cons_succ, List.getElem_cons_zero])
            refine wp_store_r (.tmp 9) (.tmp 31) rfl _ rfl zero20 o rfl HG1.out rfl ho20 ?_
            intro wb4 hA3 hg3
            replace HG2 := Lib.hid (idR_grown HG2.out hg3 (by have := HNE.out; omega))
            replace HB := Lib.hid (HB.out.grown hg3 HB.out.size (fun k e => by cases e; exact HGE1.out))
            replace HG1 := Lib.hid hA3
            clear hA3 hg3
            go_simp
            refine hK _ _ ?_
            clear hK K
            (try simp only [Act.put, List.setIfInBounds_toArray, List.set_cons_zero, List.set_cons_succ])
            refine wpAny_ready (rs := [1]) (by kernel_rfl) (by simp) ?_
            refine AllReady.cons rfl (fun K hK => ?_) ?_
            · rw [if_pos (by rfl)]
              refine wp_load_id (.tmp 5) rfl (w.heap.size + 1) rfl t (idAt_below XB.out HB.out) ht20 ?_
              go_simp
              refine hK _ _ ?_
              clear hK K
              (try simp only [Act.put, List.setIfInBounds_toArray, List.set_cons_zero, List.set_cons_succ])
              refine wpAny_ready (rs := [5]) (by kernel_rfl) (by simp) ?_
              refine AllReady.cons rfl (fun K hK => ?_) ?_
              · rw [if_pos (by rfl)]
                (try simp only [List.getElem_toArray, List.getElem_cons_succ, List.getElem_cons_zero])
                refine wp_store_r (.tmp 10) (.tmp 32) rfl _ rfl zero20 t rfl HG2.out rfl ht20 ?_
                intro wb5 hA3 hg3
                replace HG1 := Lib.hid (idR_grown HG1.out hg3 (by have := HNE.out; omega))
                replace HB := Lib.hid (HB.out.grown hg3 HB.out.size (fun k e => by cases e; exact HGE2.out))
                replace HG2 := Lib.hid hA3
                clear hA3 hg3
                go_simp
                refine hK _ _ ?_
                clear hK K
                (try simp only [Act.put, List.setIfInBounds_toArray, List.set_cons_zero, List.set_cons_succ])
                refine wpAny_done (by kernel_rfl) ?_ _
                exact h2.out (_, _) _ ⟨HB.out, HG1.out, HG2.out⟩
              exact AllReady.nil
            exact AllReady.nil
          exact AllReady.nil
        refine AllReady.cons rfl (fun K hK => ?_) ?_
        · rw [if_pos (by rfl)]
          refine wp_load_id (.tmp 5) rfl (w.heap.size + 1) rfl t (idAt_below XB.out HB.out) ht20 ?_
          go_simp
          refine hK _ _ ?_
          clear hK K
          (try simp only [Act.put, List.setIfInBounds_toArray, List.set_cons_zero, List.set_cons_succ])
          refine wpAny_ready (rs := [0]) (by kernel_rfl) (by simp) ?_
          refine AllReady.cons rfl (fun K hK => ?_) ?_
          · rw [if_pos (by rfl)]
            refine wp_load_id (.tmp 4) rfl (w.heap.size) rfl o (idAt_below XA.out HB.out) ho20 ?_
            go_simp
            refine hK _ _ ?_
            clear hK K
            (try simp only [Act.put, List.setIfInBounds_toArray, List.set_cons_zero, List.set_cons_succ])
            refine wpAny_ready (rs := [4]) (by kernel_rfl) (by simp) ?_
            refine AllReady.cons rfl (fun K hK => ?_) ?_
            · rw [if_pos (by rfl)]
              (try simp only [List.getElem_toArray, List.getElem_cons_succ, List.getElem_cons_zero])
              refine wp_store_r (.tmp 9) (.tmp 31) rfl _ rfl zero20 o rfl HG1.out rfl ho20 ?_
              intro wb4 hA3 hg3
              replace HG2 := Lib.hid (idR_grown HG2.out hg3 (by have := HNE.out; omega))
              replace HB := Lib.hid (HB.out.grown hg3 HB.out.size (fun k e => by cases e; exact HGE1.out))
              replace HG1 := Lib.hid hA3
              clear hA3 hg3
              go_simp
              refine hK _ _ ?_
              clear hK K
              (try simp only [Act.put, List.setIfInBounds_toArray, List.set_cons_zero, List.set_cons_succ])
              refine wpAny_ready (rs := [5]) (by kernel_rfl) (by simp) ?_
              refine AllReady.cons rfl (fun K hK => ?_) ?_
              · rw [if_pos (by rfl)]
                (try simp only [List.getElem_toArray, List.getElem_cons_succ, List.getElem_cons_zero])
                refine wp_store_r (.tmp 10) (.tmp 32) rfl _ rfl zero20 t rfl HG2.out rfl ht20 ?_
                intro wb5 hA3 hg3
                replace HG1 := Lib.hid (idR_grown HG1.out hg3 (by have := HNE.out; omega))
                replace HB := Lib.hid (HB.out.grown hg3 HB.out.size (fun k e => by cases e; exact HGE2.out))
                replace HG2 := Lib.hid hA3
                clear hA3 hg3
                go_simp
                refine hK _ _ ?_
                clear hK K
                (try simp only [Act.put, List.setIfInBounds_toArray, List.set_cons_zero, List.set_cons_succ])
                refine wpAny_done (by kernel_rfl) ?_ _
                exact h2.out (_, _) _ ⟨HB.out, HG1.out, HG2.out⟩
              exact AllReady.nil
            exact AllReady.nil
          exact AllReady.nil
        exact AllReady.nil
      exact AllReady.nil
    exact AllReady.nil
  rintro ⟨n9, n10⟩ w3 ⟨hb3, h9, h10⟩
  simp only [Act.put, List.setIfInBounds_toArray, List.set_cons_zero, List.set_cons_succ]
  dsimp only at h9 h10
  replace XA := Lib.hid (idAt_below XA.out hb3)
  replace XB := Lib.hid (idAt_below XB.out hb3)
  replace XW := Lib.hid (XW.out.trans (hb3.mono XW.out.size))
  replace XS := Lib.hid (seed_below XS.out hb3)
  have Yn9 := Lib.hid h9
  have Yn10 := Lib.hid h10
  clear hb3 h9 h10
  go_upto_region 5 with (first
    | (refine wl_load rfl (.tmp 4) rfl (w.heap.size) rfl o XA.out ho20 ?_)
    | (refine wl_load rfl (.tmp 5) rfl (w.heap.size + 1) rfl t XB.out ht20 ?_)
    | (go_at_call 32; refine (HI1.out _).mono ?_; rintro e w4 ⟨rfl, hbk⟩))
  replace XA := Lib.hid (idAt_below XA.out hbk)
  replace XB := Lib.hid (idAt_below XB.out hbk)
  replace Yn9 := Lib.hid (idR_below Yn9.out hbk)
  replace Yn10 := Lib.hid (idR_below Yn10.out hbk)
  replace XW := Lib.hid (XW.out.trans (hbk.mono XW.out.size))
  replace XS := Lib.hid (seed_below XS.out hbk)
  clear hbk
  go_upto_region 6 with (first
    | (refine wl_loadr rfl (.tmp 9) rfl (n9) rfl o Yn9.out ho20 ?_)
    | (refine wl_loadr rfl (.tmp 10) rfl (n10) rfl t Yn10.out ht20 ?_)
    | (go_at_call 33; refine (HI2.out _).mono ?_; rintro e w5 ⟨rfl, hbk⟩))
  replace XA := Lib.hid (idAt_below XA.out hbk)
  replace XB := Lib.hid (idAt_below XB.out hbk)
  replace Yn9 := Lib.hid (idR_below Yn9.out hbk)
  replace Yn10 := Lib.hid (idR_below Yn10.out hbk)
  replace XW := Lib.hid (XW.out.trans (hbk.mono XW.out.size))
  replace XS := Lib.hid (seed_below XS.out hbk)
  clear hbk
  go_upto_region 7 with (first
    | (refine wl_load rfl (.tmp 4) rfl (w.heap.size) rfl o XA.out ho20 ?_)
    | (go_at_call 28; refine (HL1.out _).mono ?_; rintro e w6 ⟨rfl, hbk⟩)
    | (refine wpList_store_id rfl (.tmp 15) (.tmp 49) rfl w6.heap.size rfl zero20 L rfl (idAt_zero w6) rfl hl20 ?_; intro w7 hAj hgj))
  have hbj := below_step hbk hbk.size hgj
  generalize w6.heap.size = n15 at *
  replace XA := Lib.hid (idAt_below XA.out hbj)
  replace XB := Lib.hid (idAt_below XB.out hbj)
  replace Yn9 := Lib.hid (idR_below Yn9.out hbj)
  replace Yn10 := Lib.hid (idR_below Yn10.out hbj)
  replace XW := Lib.hid (XW.out.trans (hbj.mono XW.out.size))
  replace XS := Lib.hid (seed_below XS.out hbj)
  have Yn15 := Lib.hid hAj
  clear hbk hgj hbj hAj
  go_upto_region 8 with (first
    | (refine wl_loadr rfl (.tmp 9) rfl (n9) rfl o Yn9.out ho20 ?_)
    | (go_at_call 34; refine (HL2.out _).mono ?_; rintro e w8 ⟨rfl, hbk⟩)
    | (refine wpList_store_r rfl (.tmp 17) (.tmp 55) rfl w8.heap.size rfl zero20 L rfl (idR_zero w8) rfl hl20 ?_; intro w9 hAj hgj))
  have hbj := below_stepr hbk hbk.size hgj
  generalize w8.heap.size = n17 at *
  replace XA := Lib.hid (idAt_below XA.out hbj)
  replace XB := Lib.hid (idAt_below XB.out hbj)
  replace Yn9 := Lib.hid (idR_below Yn9.out hbj)
  replace Yn10 := Lib.hid (idR_below Yn10.out hbj)
  replace Yn15 := Lib.hid (idAt_below Yn15.out hbj)
  replace XW := Lib.hid (XW.out.trans (hbj.mono XW.out.size))
  replace XS := Lib.hid (seed_below XS.out hbj)
  have Yn17 := Lib.hid hAj
  clear hbk hgj hbj hAj
  go_upto_region 9 with (first
    | (refine wl_load rfl (.tmp 4) rfl (w.heap.size) rfl o XA.out ho20 ?_)
    | (go_at_call 29; refine (HG1.out _).mono ?_; rintro e w10 ⟨rfl, hbk⟩)
    | (refine wpList_store_id rfl (.tmp 19) (.tmp 61) rfl w10.heap.size rfl zero20 H rfl (idAt_zero w10) rfl hh20 ?_; intro w11 hAj hgj))
  have hbj := below_step hbk hbk.size hgj
  generalize w10.heap.size = n19 at *
  replace XA := Lib.hid (idAt_below XA.out hbj)
  replace XB := Lib.hid (idAt_below XB.out hbj)
  replace Yn9 := Lib.hid (idR_below Yn9.out hbj)
  replace Yn10 := Lib.hid (idR_below Yn10.out hbj)
  replace Yn15 := Lib.hid (idAt_below Yn15.out hbj)
  replace Yn17 := Lib.hid (idR_below Yn17.out hbj)
  replace XW := Lib.hid (XW.out.trans (hbj.mono XW.out.size))
  replace XS := Lib.hid (seed_below XS.out hbj)
  have Yn19 := Lib.hid hAj
  clear hbk hgj hbj hAj
  go_upto_region 10 with (first
    | (refine wl_loadr rfl (.tmp 9) rfl (n9) rfl o Yn9.out ho20 ?_)
    | (go_at_call 35; refine (HG2.out _).mono ?_; rintro e w12 ⟨rfl, hbk⟩)
    | (refine wpList_store_r rfl (.tmp 21) (.tmp 67) rfl w12.heap.size rfl zero20 H rfl (idR_zero w12) rfl hh20 ?_; intro w13 hAj hgj))
  have hbj := below_stepr hbk hbk.size hgj
  generalize w12.heap.size = n21 at *
  replace XA := Lib.hid (idAt_below XA.out hbj)
  replace XB := Lib.hid (idAt_below XB.out hbj)
  replace Yn9 := Lib.hid (idR_below Yn9.out hbj)
  replace Yn10 := Lib.hid (idR_below Yn10.out hbj)
  replace Yn15 := Lib.hid (idAt_below Yn15.out hbj)
  replace Yn17 := Lib.hid (idR_below Yn17.out hbj)
  replace Yn19 := Lib.hid (idAt_below Yn19.out hbj)
  replace XW := Lib.hid (XW.out.trans (hbj.mono XW.out.size))
  replace XS := Lib.hid (seed_below XS.out hbj)
  have Yn21 := Lib.hid hAj
  clear hbk hgj hbj hAj
  go_upto_region 11 with (first
    | (refine wl_load rfl (.tmp 4) rfl (w.heap.size) rfl o XA.out ho20 ?_)
    | (go_at_call 26; refine (HD1.out _ XS.out).mono ?_; rintro e w14 ⟨rfl, hbk⟩)
    | (refine wpList_store_id rfl (.tmp 23) (.tmp 74) rfl w14.heap.size rfl zero20 X rfl (idAt_zero w14) rfl hx20 ?_; intro w15 hAj hgj))
  have hbj := below_step hbk hbk.size hgj
  generalize w14.heap.size = n23 at *
  replace XA := Lib.hid (idAt_below XA.out hbj)
  replace XB := Lib.hid (idAt_below XB.out hbj)
  replace Yn9 := Lib.hid (idR_below Yn9.out hbj)
  replace Yn10 := Lib.hid (idR_below Yn10.out hbj)
  replace Yn15 := Lib.hid (idAt_below Yn15.out hbj)
  replace Yn17 := Lib.hid (idR_below Yn17.out hbj)
  replace Yn19 := Lib.hid (idAt_below Yn19.out hbj)
  replace Yn21 := Lib.hid (idR_below Yn21.out hbj)
  replace XW := Lib.hid (XW.out.trans (hbj.mono XW.out.size))
  replace XS := Lib.hid (seed_below XS.out hbj)
  have Yn23 := Lib.hid hAj
  clear hbk hgj hbj hAj
  go_upto_region 12 with (first
    | (refine wl_loadr rfl (.tmp 9) rfl (n9) rfl o Yn9.out ho20 ?_)
    | (go_at_call 36; refine (HD2.out _ XS.out).mono ?_; rintro e w16 ⟨rfl, hbk⟩)
    | (refine wpList_store_r rfl (.tmp 25) (.tmp 81) rfl w16.heap.size rfl zero20 X rfl (idR_zero w16) rfl hx20 ?_; intro w17 hAj hgj))
  have hbj := below_stepr hbk hbk.size hgj
  generalize w16.heap.size = n25 at *
  replace XA := Lib.hid (idAt_below XA.out hbj)
  replace XB := Lib.hid (idAt_below XB.out hbj)
  replace Yn9 := Lib.hid (idR_below Yn9.out hbj)
  replace Yn10 := Lib.hid (idR_below Yn10.out hbj)
  replace Yn15 := Lib.hid (idAt_below Yn15.out hbj)
  replace Yn17 := Lib.hid (idR_below Yn17.out hbj)
  replace Yn19 := Lib.hid (idAt_below Yn19.out hbj)
  replace Yn21 := Lib.hid (idR_below Yn21.out hbj)
  replace Yn23 := Lib.hid (idAt_below Yn23.out hbj)
  replace XW := Lib.hid (XW.out.trans (hbj.mono XW.out.size))
  replace XS := Lib.hid (seed_below XS.out hbj)
  have Yn25 := Lib.hid hAj
  clear hbk hgj hbj hAj
  go_wp2_with (first
    | (refine wl_load rfl (.tmp 15) rfl (n15) rfl L Yn15.out hl20 ?_)
    | (refine wl_loadr rfl (.tmp 17) rfl (n17) rfl L Yn17.out hl20 ?_)
    | (refine wl_load rfl (.tmp 19) rfl (n19) rfl H Yn19.out hh20 ?_)
    | (refine wl_loadr rfl (.tmp 21) rfl (n21) rfl H Yn21.out hh20 ?_)
    | (refine wl_ner rfl (.tmp 92) (.tmp 93) rfl L rfl rfl hl20 ?_)
    | (refine wl_ner rfl (.tmp 102) (.tmp 103) rfl H rfl rfl hh20 ?_))
  have nO : (Try.prog.info? 41).map (·.size) = some (idc o).length := by rw [info41, idc_len, ho20]
  have nT : (Try.prog.info? 41).map (·.size) = some (idc t).length := by rw [info41, idc_len, ht20]
  have nX : (Try.prog.info? 41).map (·.size) = some (idc X).length := by rw [info41, idc_len, hx20]
  have rO : (Try.prog.info? 56).map (·.size) = some (idc o).length := by rw [info56, idc_len, ho20]
  have rT : (Try.prog.info? 56).map (·.size) = some (idc t).length := by rw [info56, idc_len, ht20]
  have rX : (Try.prog.info? 56).map (·.size) = some (idc X).length := by rw [info56, idc_len, hx20]
  refine wp_region_held_drew (S := fun w' => Below w17.heap.size w17 w') (by kernel_rfl) ((Below.refl _ _).drew) (fun hHeld => ?_)
  refine wpAnyH_take (i := 0) (oi := _) (v := _) (by simp only [List.getElem?_toArray, List.getElem?_cons_succ, List.getElem?_cons_zero]; rfl) (by kernel_rfl) (by kernel_rfl) (by kernel_rfl) (by intro _ _ _ h; exact h) (yieldsIf_load_mid (by rfl) _ _ rfl _ 0 rfl (idc X) _ (fun W h => idAt_range (idAt_below Yn23.out h)) Try.underlying41 rfl nX) hHeld ?_
  (try simp only [Act.put, List.setIfInBounds_toArray, List.set_cons_zero, List.set_cons_succ])
  refine wpAnyH_take (i := 1) (oi := _) (v := _) (by simp only [List.getElem?_toArray, List.getElem?_cons_succ, List.getElem?_cons_zero]; rfl) (by kernel_rfl) (by kernel_rfl) (by kernel_rfl) (by intro _ _ _ h; exact h) (yieldsIf_load_mid (by rfl) _ _ rfl _ 0 rfl (idc X) _ (fun W h => idR_range (idR_below Yn25.out h)) Try.underlying56 rfl rX) hHeld ?_
  (try simp only [Act.put, List.setIfInBounds_toArray, List.set_cons_zero, List.set_cons_succ])
  refine wpAnyH_take (i := 2) (oi := _) (v := _) (by simp only [List.getElem?_toArray, List.getElem?_cons_succ, List.getElem?_cons_zero]; rfl) (by kernel_rfl) (by kernel_rfl) (by kernel_rfl) (by intro _ _ _ h; exact h) (yields_eq (by rfl) (.tmp 111) (.tmp 112) rfl X rfl rfl hx20) hHeld ?_
  (try simp only [Act.put, List.setIfInBounds_toArray, List.set_cons_zero, List.set_cons_succ])
  refine wpAnyH_take (i := 3) (oi := _) (v := ?_) (by simp only [List.getElem?_toArray, List.getElem?_cons_succ, List.getElem?_cons_zero]; rfl) (by kernel_rfl) (by kernel_rfl) (by kernel_rfl) (by intro _ _ _ h; exact h) (Or.inl ⟨by rfl, ?_⟩) hHeld ?_
  rotate_left
  focus (intro w hSw; go_simp; try with_reducible rfl)
  (try simp only [Act.put, List.setIfInBounds_toArray, List.set_cons_zero, List.set_cons_succ])
  refine wpAnyH_take (i := 4) (oi := _) (v := ?_) (by simp only [List.getElem?_toArray, List.getElem?_cons_succ, List.getElem?_cons_zero]; rfl) (by kernel_rfl) (by kernel_rfl) (by kernel_rfl) (by intro _ _ _ h; exact h) (Or.inl ⟨by rfl, ?_⟩) hHeld ?_
  rotate_left
  focus (intro w hSw; go_simp; try with_reducible rfl)
  (try simp only [Act.put, List.setIfInBounds_toArray, List.set_cons_zero, List.set_cons_succ])
  refine wpAnyH_take (i := 5) (oi := _) (v := ?_) (by simp only [List.getElem?_toArray, List.getElem?_cons_succ, List.getElem?_cons_zero]; rfl) (by kernel_rfl) (by kernel_rfl) (by kernel_rfl) (by intro _ _ _ h; exact h) (Or.inl ⟨by rfl, ?_⟩) hHeld ?_
  rotate_left
  focus (intro w hSw; go_simp; try with_reducible rfl)
  (try simp only [Act.put, List.setIfInBounds_toArray, List.set_cons_zero, List.set_cons_succ])
  refine wpAnyH_take (i := 6) (oi := _) (v := ?_) (by simp only [List.getElem?_toArray, List.getElem?_cons_succ, List.getElem?_cons_zero]; rfl) (by kernel_rfl) (by kernel_rfl) (by kernel_rfl) (by intro _ _ _ h; exact h) (Or.inl ⟨by rfl, ?_⟩) hHeld ?_
  rotate_left
  focus (intro w hSw; go_simp; try with_reducible rfl)
  (try simp only [Act.put, List.setIfInBounds_toArray, List.set_cons_zero, List.set_cons_succ])
  refine wpAnyH_take (i := 7) (oi := _) (v := ?_) (by simp only [List.getElem?_toArray, List.getElem?_cons_succ, List.getElem?_cons_zero]; rfl) (by kernel_rfl) (by kernel_rfl) (by kernel_rfl) (by intro _ _ _ h; exact h) (Or.inl ⟨by rfl, ?_⟩) hHeld ?_
  rotate_left
  focus (intro w hSw; go_simp; try with_reducible rfl)
  (try simp only [Act.put, List.setIfInBounds_toArray, List.set_cons_zero, List.set_cons_succ])
  refine wpAnyH_take (i := 8) (oi := _) (v := ?_) (by simp only [List.getElem?_toArray, List.getElem?_cons_succ, List.getElem?_cons_zero]; rfl) (by kernel_rfl) (by kernel_rfl) (by kernel_rfl) (by intro _ _ _ h; exact h) (Or.inl ⟨by rfl, ?_⟩) hHeld ?_
  rotate_left
  focus (intro w hSw; go_simp; try with_reducible rfl)
  (try simp only [Act.put, List.setIfInBounds_toArray, List.set_cons_zero, List.set_cons_succ])
  refine wpAnyH_take (i := 9) (oi := _) (v := _) (by simp only [List.getElem?_toArray, List.getElem?_cons_succ, List.getElem?_cons_zero]; rfl) (by kernel_rfl) (by kernel_rfl) (by kernel_rfl) (by intro _ _ _ h; exact h) (yieldsIf_load_mid (by rfl) _ _ rfl _ 0 rfl (idc o) _ (fun W h => idAt_range (idAt_below XA.out h)) Try.underlying41 rfl nO) hHeld ?_
  (try simp only [Act.put, List.setIfInBounds_toArray, List.set_cons_zero, List.set_cons_succ])
  refine wpAnyH_take (i := 10) (oi := _) (v := ?_) (by simp only [List.getElem?_toArray, List.getElem?_cons_succ, List.getElem?_cons_zero]; rfl) (by kernel_rfl) (by kernel_rfl) (by kernel_rfl) (by intro _ _ _ h; exact h) (Or.inl ⟨by rfl, ?_⟩) hHeld ?_
  rotate_left
  focus (intro w hSw; go_simp; try with_reducible rfl)
  (try simp only [Act.put, List.setIfInBounds_toArray, List.set_cons_zero, List.set_cons_succ])
  refine wpAnyH_take (i := 11) (oi := _) (v := _) (by simp only [List.getElem?_toArray, List.getElem?_cons_succ, List.getElem?_cons_zero]; rfl) (by kernel_rfl) (by kernel_rfl) (by kernel_rfl) (by intro _ _ _ h; exact h) (yieldsIf_load_mid (by rfl) _ _ rfl _ 0 rfl (idc t) _ (fun W h => idAt_range (idAt_below XB.out h)) Try.underlying41 rfl nT) hHeld ?_
  (try simp only [Act.put, List.setIfInBounds_toArray, List.set_cons_zero, List.set_cons_succ])
  refine wpAnyH_take (i := 13) (oi := _) (v := _) (by simp only [List.getElem?_toArray, List.getElem?_cons_succ, List.getElem?_cons_zero]; rfl) (by kernel_rfl) (by kernel_rfl) (by kernel_rfl) (by intro _ _ _ h; exact h) (yieldsIf_load_mid (by rfl) _ _ rfl _ 0 rfl (idc o) _ (fun W h => idR_range (idR_below Yn9.out h)) Try.underlying56 rfl rO) hHeld ?_
  (try simp only [Act.put, List.setIfInBounds_toArray, List.set_cons_zero, List.set_cons_succ])
  refine wpAnyH_take (i := 14) (oi := _) (v := ?_) (by simp only [List.getElem?_toArray, List.getElem?_cons_succ, List.getElem?_cons_zero]; rfl) (by kernel_rfl) (by kernel_rfl) (by kernel_rfl) (by intro _ _ _ h; exact h) (Or.inl ⟨by rfl, ?_⟩) hHeld ?_
  rotate_left
  focus (intro w hSw; go_simp; try with_reducible rfl)
  (try simp only [Act.put, List.setIfInBounds_toArray, List.set_cons_zero, List.set_cons_succ])
  refine wpAnyH_take (i := 15) (oi := _) (v := _) (by simp only [List.getElem?_toArray, List.getElem?_cons_succ, List.getElem?_cons_zero]; rfl) (by kernel_rfl) (by kernel_rfl) (by kernel_rfl) (by intro _ _ _ h; exact h) (yieldsIf_load_mid (by rfl) _ _ rfl _ 0 rfl (idc t) _ (fun W h => idR_range (idR_below Yn10.out h)) Try.underlying56 rfl rT) hHeld ?_
  (try simp only [Act.put, List.setIfInBounds_toArray, List.set_cons_zero, List.set_cons_succ])
  refine wpAnyH_ready (rs := [12]) (by kernel_rfl) (by simp) ?_
  refine AllReadyH.cons rfl (fun K hK => ?_) ?_
  rotate_left
  · exact AllReadyH.nil
  go_simp
  go_at_call 30
  refine (HH1.out _).mono ?_
  rintro e v1 ⟨rfl, hbk⟩
  go_wp2_with fail
  refine hK.out _ _ (hHeld.trans (hbk.mono hHeld.size)) (fun hHeld => ?_)
  clear hK K
  (try simp only [Act.put, List.setIfInBounds_toArray, List.set_cons_zero, List.set_cons_succ])
  refine wpAnyH_ready (rs := [16]) (by kernel_rfl) (by simp) ?_
  refine AllReadyH.cons rfl (fun K hK => ?_) ?_
  rotate_left
  · exact AllReadyH.nil
  go_simp
  go_at_call 37
  refine (HH2.out _).mono ?_
  rintro e v2 ⟨rfl, hbk⟩
  go_wp2_with fail
  refine hK.out _ _ (hHeld.trans (hbk.mono hHeld.size)) (fun hHeld => ?_)
  clear hK K
  (try simp only [Act.put, List.setIfInBounds_toArray, List.set_cons_zero, List.set_cons_succ])
  refine wpAnyH_take (i := 17) (oi := _) (v := ?_) (by simp only [List.getElem?_toArray, List.getElem?_cons_succ, List.getElem?_cons_zero]; rfl) (by kernel_rfl) (by kernel_rfl) (by kernel_rfl) (by intro _ _ _ h; exact h) (Or.inl ⟨by rfl, ?_⟩) hHeld ?_
  rotate_left
  focus (intro w hSw; go_simp; try with_reducible rfl)
  (try simp only [Act.put, List.setIfInBounds_toArray, List.set_cons_zero, List.set_cons_succ])
  refine wpAnyH_take (i := 18) (oi := _) (v := ?_) (by simp only [List.getElem?_toArray, List.getElem?_cons_succ, List.getElem?_cons_zero]; rfl) (by kernel_rfl) (by kernel_rfl) (by kernel_rfl) (by intro _ _ _ h; exact h) (Or.inl ⟨by rfl, ?_⟩) hHeld ?_
  rotate_left
  focus (intro w hSw; go_simp; try with_reducible rfl)
  (try simp only [Act.put, List.setIfInBounds_toArray, List.set_cons_zero, List.set_cons_succ])
  refine wpAnyH_take (i := 19) (oi := _) (v := ?_) (by simp only [List.getElem?_toArray, List.getElem?_cons_succ, List.getElem?_cons_zero]; rfl) (by kernel_rfl) (by kernel_rfl) (by kernel_rfl) (by intro _ _ _ h; exact h) (Or.inl ⟨by rfl, ?_⟩) hHeld ?_
  rotate_left
  focus (intro w hSw; go_simp; try with_reducible rfl)
  (try simp only [Act.put, List.setIfInBounds_toArray, List.set_cons_zero, List.set_cons_succ])
  refine wpAnyH_take (i := 20) (oi := _) (v := _) (by simp only [List.getElem?_toArray, List.getElem?_cons_succ, List.getElem?_cons_zero]; rfl) (by kernel_rfl) (by kernel_rfl) (by kernel_rfl) (by intro _ _ _ h; exact h) (yieldsIf_load_mid (by rfl) _ _ rfl _ 0 rfl (idc o) _ (fun W h => idAt_range (idAt_below XA.out h)) Try.underlying41 rfl nO) hHeld ?_
  (try simp only [Act.put, List.setIfInBounds_toArray, List.set_cons_zero, List.set_cons_succ])
  refine wpAnyH_take (i := 21) (oi := _) (v := _) (by simp only [List.getElem?_toArray, List.getElem?_cons_succ, List.getElem?_cons_zero]; rfl) (by kernel_rfl) (by kernel_rfl) (by kernel_rfl) (by intro _ _ _ h; exact h) (yieldsIf_load_mid (by rfl) _ _ rfl _ 0 rfl (idc t) _ (fun W h => idAt_range (idAt_below XB.out h)) Try.underlying41 rfl nT) hHeld ?_
  (try simp only [Act.put, List.setIfInBounds_toArray, List.set_cons_zero, List.set_cons_succ])
  refine wpAnyH_take (i := 23) (oi := _) (v := _) (by simp only [List.getElem?_toArray, List.getElem?_cons_succ, List.getElem?_cons_zero]; rfl) (by kernel_rfl) (by kernel_rfl) (by kernel_rfl) (by intro _ _ _ h; exact h) (yieldsIf_load_mid (by rfl) _ _ rfl _ 0 rfl (idc o) _ (fun W h => idR_range (idR_below Yn9.out h)) Try.underlying56 rfl rO) hHeld ?_
  (try simp only [Act.put, List.setIfInBounds_toArray, List.set_cons_zero, List.set_cons_succ])
  refine wpAnyH_take (i := 24) (oi := _) (v := _) (by simp only [List.getElem?_toArray, List.getElem?_cons_succ, List.getElem?_cons_zero]; rfl) (by kernel_rfl) (by kernel_rfl) (by kernel_rfl) (by intro _ _ _ h; exact h) (yieldsIf_load_mid (by rfl) _ _ rfl _ 0 rfl (idc t) _ (fun W h => idR_range (idR_below Yn10.out h)) Try.underlying56 rfl rT) hHeld ?_
  (try simp only [Act.put, List.setIfInBounds_toArray, List.set_cons_zero, List.set_cons_succ])
  refine wpAnyH_ready (rs := [22]) (by kernel_rfl) (by simp) ?_
  refine AllReadyH.cons rfl (fun K hK => ?_) ?_
  rotate_left
  · exact AllReadyH.nil
  go_simp
  go_at_call 25
  refine (HN1.out _).mono ?_
  rintro e v3 ⟨a1, c1, rfl, hr1, hbk⟩
  go_wp2_with fail
  have HR1 := Lib.hid hr1
  clear hr1
  refine hK.out _ _ (hHeld.trans (hbk.mono hHeld.size)) (fun hHeld => ?_)
  clear hK K
  (try simp only [Act.put, List.setIfInBounds_toArray, List.set_cons_zero, List.set_cons_succ])
  refine wpAnyH_ready (rs := [25]) (by kernel_rfl) (by simp) ?_
  refine AllReadyH.cons rfl (fun K hK => ?_) ?_
  rotate_left
  · exact AllReadyH.nil
  go_simp
  go_at_call 39
  refine (HN2.out _).mono ?_
  rintro e v4 ⟨a2, c2, rfl, hr2, hbk⟩
  go_wp2_with fail
  have HR2 := Lib.hid hr2
  replace HR1 := Lib.hid (rowI_below HR1.out hbk)
  clear hr2
  refine hK.out _ _ (hHeld.trans (hbk.mono hHeld.size)) (fun hHeld => ?_)
  clear hK K
  (try simp only [Act.put, List.setIfInBounds_toArray, List.set_cons_zero, List.set_cons_succ])
  refine wpAnyH_ready (rs := [26]) (by kernel_rfl) (by simp) ?_
  refine AllReadyH.cons rfl (fun K hK => ?_) ?_
  rotate_left
  · exact AllReadyH.nil
  go_simp
  go_at_call 38
  refine (fints a1 a2 c1 c2 xs _ HR1.out HR2.out (by have := HNL.out; omega)).mono ?_
  rintro e v5 ⟨rfl, hbk⟩
  go_wp2_with fail
  refine hK.out _ _ (hHeld.trans (hbk.mono hHeld.size)) (fun hHeld => ?_)
  clear hK K
  (try simp only [Act.put, List.setIfInBounds_toArray, List.set_cons_zero, List.set_cons_succ])
  refine wpAnyH_take (i := 27) (oi := _) (v := ?_) (by simp only [List.getElem?_toArray, List.getElem?_cons_succ, List.getElem?_cons_zero]; rfl) (by kernel_rfl) (by kernel_rfl) (by kernel_rfl) (by intro _ _ _ h; exact h) (Or.inl ⟨by rfl, ?_⟩) hHeld ?_
  rotate_left
  focus (intro w hSw; go_simp; try with_reducible rfl)
  (try simp only [Act.put, List.setIfInBounds_toArray, List.set_cons_zero, List.set_cons_succ])
  refine wpAnyH_take (i := 28) (oi := _) (v := ?_) (by simp only [List.getElem?_toArray, List.getElem?_cons_succ, List.getElem?_cons_zero]; rfl) (by kernel_rfl) (by kernel_rfl) (by kernel_rfl) (by intro _ _ _ h; exact h) (Or.inl ⟨by rfl, ?_⟩) hHeld ?_
  rotate_left
  focus (intro w hSw; go_simp; try with_reducible rfl)
  (try simp only [Act.put, List.setIfInBounds_toArray, List.set_cons_zero, List.set_cons_succ])
  refine wpAnyH_ready (rs := [29]) (by kernel_rfl) (by simp) ?_
  refine AllReadyH.cons rfl (fun K hK => ?_) ?_
  rotate_left
  · exact AllReadyH.nil
  go_simp
  go_at_call 24
  refine (rlives _).mono ?_
  rintro e v6 ⟨rfl, hbk⟩
  go_wp2_with fail
  refine hK.out _ _ (hHeld.trans (hbk.mono hHeld.size)) (fun hHeld => ?_)
  clear hK K
  (try simp only [Act.put, List.setIfInBounds_toArray, List.set_cons_zero, List.set_cons_succ])
  refine wpAnyH_take (i := 30) (oi := _) (v := ?_) (by simp only [List.getElem?_toArray, List.getElem?_cons_succ, List.getElem?_cons_zero]; rfl) (by kernel_rfl) (by kernel_rfl) (by kernel_rfl) (by intro _ _ _ h; exact h) (Or.inl ⟨by rfl, ?_⟩) hHeld ?_
  rotate_left
  focus (intro w hSw; go_simp; try with_reducible rfl)
  (try simp only [Act.put, List.setIfInBounds_toArray, List.set_cons_zero, List.set_cons_succ])
  refine wpAnyH_take (i := 31) (oi := _) (v := ?_) (by simp only [List.getElem?_toArray, List.getElem?_cons_succ, List.getElem?_cons_zero]; rfl) (by kernel_rfl) (by kernel_rfl) (by kernel_rfl) (by intro _ _ _ h; exact h) (Or.inl ⟨by rfl, ?_⟩) hHeld ?_
  rotate_left
  focus (intro w hSw; go_simp; try with_reducible rfl)
  (try simp only [Act.put, List.setIfInBounds_toArray, List.set_cons_zero, List.set_cons_succ])
  refine wpAnyH_done (by kernel_rfl) ?_ _
  go_wp2_with fail
  go_ret
  exact ⟨rfl, XW.out.trans (hHeld.mono XW.out.size)⟩
end Go.Proofs.Ytcgfednoolkhkaa
