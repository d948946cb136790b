/-
  span: ids are equal; the chapter's example.
-/
import Derived.Test.YtcgfednoolkhkaaSpR
import Derived.ChangeKeysEq
namespace Go.Proofs.Ytcgfednoolkhkaa
open Go.RowKit
set_option linter.unusedVariables false
set_option linter.unusedSimpArgs false
set_option maxRecDepth 20000
theorem plain5 : Try.prog.plainKey 5 = true := by kernel_rfl
theorem cells5 : Try.prog.cellsOf 5 = 1 := by kernel_rfl
theorem isInfo5 : ∃ i, Try.prog.info? 5 = some i := ⟨_, rfl⟩
theorem eq_items (a b : List Nat) (W : World) (d : Nat) : ∀ is : List Nat, (∀ i ∈ is, i < a.length ∧ i < b.length) →
    (Op.eqItems (d + 1) 5 (Try.prog.cellsOf 5) (idc a).toArray (idc b).toArray is).run Try.prog W = .ok (decide (∀ i ∈ is, a.getD i 0 = b.getD i 0)) W
  | [], _ => by simp [Op.eqItems]
  | i :: is, h => by
    obtain ⟨ha, hb⟩ := h i (List.mem_cons_self ..)
    have p1 : (Go.part 5 (idc a).toArray (i * Try.prog.cellsOf 5)).run Try.prog W = .ok (.int .u8 (a.getD i 0 : Nat)) W := run_part_plain W plain5 (by simp [cells5, idc, ha])
    have p2 : (Go.part 5 (idc b).toArray (i * Try.prog.cellsOf 5)).run Try.prog W = .ok (.int .u8 (b.getD i 0 : Nat)) W := run_part_plain W plain5 (by simp [cells5, idc, hb])
    have p3 : (Op.equalIn (d + 1) 5 (.int .u8 (a.getD i 0 : Nat)) (.int .u8 (b.getD i 0 : Nat))).run Try.prog W = .ok (((a.getD i 0 : Nat) : Int) == ((b.getD i 0 : Nat) : Int)) W := run_equalIn_int W d 5 .u8 .u8 _ _ Try.underlying5
    have ih := eq_items a b W d is (fun j hj => h j (List.mem_cons_of_mem _ hj))
    simp only [Op.eqItems, Sem.run_bind, p1, p2, p3, Result.andThen_ok]
    by_cases he : a.getD i 0 = b.getD i 0
    · simp only [he, beq_self_eq_true, Bool.not_true, Bool.false_eq_true, if_false, ih, List.forall_mem_cons, true_and]
    · have : (((a.getD i 0 : Nat) : Int) == ((b.getD i 0 : Nat) : Int)) = false := beq_eq_false_iff_ne.2 (fun h => he (by omega))
      simp only [this, Bool.not_false, if_true, Sem.run_pure, List.forall_mem_cons, he, false_and, decide_false]
theorem eq_id {a b : List Nat} (W : World) (ha : a.length = 20) (hb : b.length = 20) : (Op.equalIn 10000 41 (idv a) (idv b)).run Try.prog W = .ok (decide (a = b)) W := by
  obtain ⟨i, hi⟩ := isInfo5
  have := run_equalIn_array (P := Try.prog) (w := W) 9999 (t := 41) (e := 5) (n := 20) (idc a).toArray (idc b).toArray Try.underlying41 hi
  unfold idv
  rw [this, eq_items a b W 9998 (List.range 20) (fun j hj => by have := List.mem_range.1 hj; omega)]
  have : (∀ i ∈ List.range 20, a.getD i 0 = b.getD i 0) ↔ a = b := by
    constructor
    · intro h
      apply List.ext_getElem (by omega)
      intro j h1 h2
      have := h j (List.mem_range.2 (by omega))
      simpa [List.getD, h1, h2] using this
    · rintro rfl i _; rfl
  simp only [this]
theorem eq_ids {a b : List Nat} (W : World) (ha : a.length = 20) (hb : b.length = 20) : (binOp .eql 41 (idv a) (idv b)).run Try.prog W = .ok (.bool (decide (a = b))) W := by
  have h := run_eql_struct (P := Try.prog) (w := W) 41 (idc a).toArray (idc b).toArray
  have e := eq_id W ha hb
  unfold idv at e ⊢
  rw [h, e]
  rfl
section
variable {ops : Array Oper} {rest : List Oper} {op : Oper} {a : Act} {w : World} {Q : Exit → Act → World → Prop}
theorem wpList_wanted (hw : Region.wanted op (yielded ops a.tmps) = true) (h : ∀ K : Act → World → Prop, (∀ a w, wpList Try.prog ops Q rest a w → K a w) → op.wp Try.prog a w K Q) : wpList Try.prog ops Q (op :: rest) a w :=
  wpList_step fun K hK => by simp only [hw, if_true]; exact h K hK
theorem wl_load (hw : Region.wanted op (yielded ops a.tmps) = true) (x : Operand) (ho : op.op = .load 41 x)
    (b : Nat) (hx : a.eval x = .pointer (some ⟨b, 0, none⟩)) (l : List Nat) (hc : IdAt w b l) (hl : l.length = 20)
    (h : wpList Try.prog ops Q rest (a.put op.dst (idv l)) w) : wpList Try.prog ops Q (op :: rest) a w :=
  wpList_wanted hw fun K hK => wp_load_id x ho b hx l hc hl (hK _ _ h)
theorem wl_eq (hw : Region.wanted op (yielded ops a.tmps) = true) (x y : Operand) (ho : op.op = .binOp .eql 41 x y 41)
    (l l' : List Nat) (hx : a.eval x = idv l) (hy : a.eval y = idv l') (hl : l.length = 20) (hl' : l'.length = 20)
    (h : wpList Try.prog ops Q rest (a.put op.dst (.bool (decide (l = l')))) w) : wpList Try.prog ops Q (op :: rest) a w :=
  wpList_wanted hw fun K hK => by
    have hg : (eqGuard .eql 41 x y (idv l) (idv l')).run Try.prog w = .ok () w := run_eqGuard_agg (P := Try.prog) w .eql 41 x y _ _ (by kernel_rfl)
    unfold Oper.wp execOp
    have he := eq_ids w hl hl'
    simp only [ho, hx, hy, Sem.run_bind, Sem.run_pure, hg, he, Result.andThen_ok]
    exact hK _ _ h
theorem wl_same (hw : Region.wanted op (yielded ops a.tmps) = true) (x y : Operand) (ho : op.op = .binOp .eql 41 x y 41)
    (l l' : List Nat) (hx : a.eval x = idv l) (hy : a.eval y = idv l') (hl : l.length = 20) (he : l = l')
    (h : wpList Try.prog ops Q rest (a.put op.dst (.bool true)) w) : wpList Try.prog ops Q (op :: rest) a w :=
  wl_eq hw x y ho l l' hx hy hl (by rw [← he]; exact hl) (by rw [decide_eq_true he]; exact h)
end
theorem id_step {w4 w2 w5 : World} {b : Nat} {l : List Nat} (h : IdAt w4 b l) (hb2 : Below w4.heap.size w4 w2) (hg : (w2.alloc Z41).grownBy w5 (some w2.heap.size)) : IdAt w5 b l := by
  have h2 := idAt_below h hb2
  have := idAt_lt h2
  exact idAt_grown (idAt_below h2 ((Below.refl _ _).alloc (Nat.le_refl _) Z41)) hg (by omega)
theorem below_step {w w1 w4 : World} {B : Nat} (h : Below B w w1) (hB : B ≤ w1.heap.size) (hg : (w1.alloc Z41).grownBy w4 (some w1.heap.size)) : Below B w w4 :=
  (h.alloc hB Z41).grown hg (by simp; omega) (fun k e => by cases e; exact hB)
theorem low0 : laidL zero20 0 (fun _ => 0) = 128 :: List.replicate 19 0 := by decide +kernel
theorem high159 : laidL zero20 159 (fun _ => 1) = List.replicate 19 0 ++ [1] := by decide +kernel
theorem low159 : laidL zero20 159 (fun _ => 0) = List.replicate 19 0 ++ [1] := by decide +kernel
set_option maxHeartbeats 4000000 in
theorem rlives (w : World) : Calls Try.prog 24 #[] w fun e w' => e = .returned (.bool true) ∧ Below w.heap.size w w' := by
  have H1 : Hid (∀ W, Calls Try.prog 28 #[idv zero20, .int .i64 0] W fun e w' => e = .returned (.tuple #[idv (128 :: List.replicate 19 0), .bool true]) ∧ Below W.heap.size W w') := fun W => by
    have := rlow zero20 0 W id_zero; rwa [low0] at this
  have H2 : Hid (∀ W, Calls Try.prog 29 #[idv zero20, .int .i64 159] W fun e w' => e = .returned (.tuple #[idv (List.replicate 19 0 ++ [1]), .bool true]) ∧ Below W.heap.size W w') := fun W => by
    have := rhigh zero20 159 W id_zero; rwa [high159] at this
  have H3 : Hid (∀ W, Calls Try.prog 28 #[idv zero20, .int .i64 159] W fun e w' => e = .returned (.tuple #[idv (List.replicate 19 0 ++ [1]), .bool true]) ∧ Below W.heap.size W w') := fun W => by
    have := rlow zero20 159 W id_zero; rwa [low159] at this
  have hla : (128 :: List.replicate 19 0).length = 20 := rfl
  have hlb : (List.replicate 19 0 ++ [1]).length = 20 := rfl
  generalize hA : (128 :: List.replicate 19 0 : List Nat) = A at *
  generalize hB : (List.replicate 19 0 ++ [1] : List Nat) = B at *
  have XA := Lib.hid hA
  have XB := Lib.hid hB
  clear hA hB
  go_enter Try.func24, Try.ntmps24
  go_upto_region 4 with (first
    | (go_at_call 28; refine (H1.out _).mono ?_; rintro e w1 ⟨rfl, hb1⟩)
    | (go_at_call 29; refine (H2.out _).mono ?_; rintro e w2 ⟨rfl, hb2⟩)
    | (go_at_call 28; refine (H3.out _).mono ?_; rintro e w3 ⟨rfl, hb3⟩)
    | (refine wpList_store_id rfl (.tmp 1) (.tmp 10) rfl w1.heap.size rfl zero20 A rfl (idAt_zero w1) rfl hla ?_; intro w4 hA4 hg4)
    | (refine wpList_store_id rfl (.tmp 3) (.tmp 15) rfl w2.heap.size rfl zero20 B rfl (idAt_zero w2) rfl hlb ?_; intro w5 hB5 hg5)
    | (refine wpList_store_id rfl (.tmp 5) (.tmp 20) rfl w3.heap.size rfl zero20 B rfl (idAt_zero w3) rfl hlb ?_; intro w6 hC6 hg6))
  have b4 := below_step hb1 hb1.size hg4
  have b2 := b4.trans (hb2.mono b4.size)
  have b5 := below_step b2 b2.size hg5
  have b3 := b5.trans (hb3.mono b5.size)
  have b6 := below_step b3 b3.size hg6
  have KA := Lib.hid (id_step (id_step hA4 hb2 hg5) hb3 hg6)
  have KB := Lib.hid (id_step hB5 hb3 hg6)
  have KC := Lib.hid hC6
  have BB := Lib.hid b6
  clear hb1 hg4 hA4 hb2 hg5 hB5 hb3 hg6 hC6 b4 b2 b5 b3 b6 H1 H2 H3
  generalize w1.heap.size = s1 at *
  generalize w2.heap.size = s2 at *
  generalize w3.heap.size = s3 at *
  go_wp2_with (first
    | (refine wl_load rfl (.tmp 1) rfl s1 rfl A KA.out hla ?_)
    | (refine wl_load rfl (.tmp 3) rfl s2 rfl B KB.out hlb ?_)
    | (refine wl_load rfl (.tmp 5) rfl s3 rfl B KC.out hlb ?_)
    | (refine wl_same rfl (.tmp 22) (.tmp 23) rfl A (128 :: List.replicate 19 0) rfl rfl hla XA.out.symm ?_)
    | (refine wl_same rfl (.tmp 35) (.tmp 36) rfl B B rfl rfl hlb rfl ?_)
    | (refine wl_same rfl (.tmp 40) (.tmp 41) rfl B (List.replicate 19 0 ++ [1]) rfl rfl hlb XB.out.symm ?_))
  go_ret
  exact ⟨rfl, BB.out⟩
end Go.Proofs.Ytcgfednoolkhkaa
