/-
  span: lay out of bounds; the closures; Low, High, Draw.
-/
import Derived.Test.YtcgfednoolkhkaaSpL
namespace Go.Proofs.Ytcgfednoolkhkaa
open Go.RowKit
set_option linter.unusedVariables false
set_option linter.unusedSimpArgs false
set_option maxRecDepth 20000
theorem rlay_no1 (o : List Nat) (i : Int) (fv : Value) (w : World) (ho : Id o) (hi : i < 0) :
    Calls Try.prog 44 #[idv o, .int .i64 i, fv] w fun e w' => e = .returned (.tuple #[idv zero20, .bool false]) ∧ Below w.heap.size w w' := by
  have hA1 := idAt_new w o
  have hB2 : IdAt ((w.alloc (.cells (idc o).toArray 41)).alloc Z41) (w.heap.size + 1) zero20 := by simpa using idAt_zero (w.alloc (.cells (idc o).toArray 41))
  have hb2 : Below w.heap.size w ((w.alloc (.cells (idc o).toArray 41)).alloc Z41) := ((Below.refl _ w).alloc (Nat.le_refl _) _).alloc (by simp) _
  have XB := Lib.hid hB2
  have XW := Lib.hid hb2
  clear hA1 hB2 hb2 ho
  unfold idv
  generalize hCa : (idc o).toArray = Ca at *
  go_enter Try.func44, Try.ntmps44
  go_upto_region 1 with fail
  obtain ⟨W2, hW2⟩ : ∃ W2, W2 = (w.alloc (.cells Ca 41)).alloc Z41 := ⟨_, rfl⟩
  rw [← hW2] at XB XW ⊢
  clear hW2
  go_wp2_with (first
        | (refine wpList_store_id rfl (.tmp 6) (.tmp 16) rfl (w.heap.size + 1) rfl zero20 zero20 rfl XB.out rfl rfl ?_; intro w5 hA5 hg5))
  refine bodyPost_ret (v := .tuple #[idv zero20, .bool false]) ((results_id2 (u := 6) (v := 7) rfl _ w5 (w.heap.size + 1) _ rfl hA5 rfl).trans rfl) rfl ?_
  exact ⟨rfl, XW.out.grown hg5 XW.out.size (fun k e => by cases e; omega)⟩
theorem rlay_no2 (o : List Nat) (i : Int) (fv : Value) (w : World) (ho : Id o) (hi : 160 ≤ i) :
    Calls Try.prog 44 #[idv o, .int .i64 i, fv] w fun e w' => e = .returned (.tuple #[idv zero20, .bool false]) ∧ Below w.heap.size w w' := by
  have hA1 := idAt_new w o
  have hB2 : IdAt ((w.alloc (.cells (idc o).toArray 41)).alloc Z41) (w.heap.size + 1) zero20 := by simpa using idAt_zero (w.alloc (.cells (idc o).toArray 41))
  have hb2 : Below w.heap.size w ((w.alloc (.cells (idc o).toArray 41)).alloc Z41) := ((Below.refl _ w).alloc (Nat.le_refl _) _).alloc (by simp) _
  have h0 : 0 ≤ i := by omega
  have XB := Lib.hid hB2
  have XW := Lib.hid hb2
  clear hA1 hB2 hb2 ho
  unfold idv
  generalize hCa : (idc o).toArray = Ca at *
  go_enter Try.func44, Try.ntmps44
  go_upto_region 1 with fail
  obtain ⟨W2, hW2⟩ : ∃ W2, W2 = (w.alloc (.cells Ca 41)).alloc Z41 := ⟨_, rfl⟩
  rw [← hW2] at XB XW ⊢
  clear hW2
  go_wp2_with (first
        | (refine wpList_store_id rfl (.tmp 6) (.tmp 16) rfl (w.heap.size + 1) rfl zero20 zero20 rfl XB.out rfl rfl ?_; intro w5 hA5 hg5))
  refine bodyPost_ret (v := .tuple #[idv zero20, .bool false]) ((results_id2 (u := 6) (v := 7) rfl _ w5 (w.heap.size + 1) _ rfl hA5 rfl).trans rfl) rfl ?_
  exact ⟨rfl, XW.out.grown hg5 XW.out.size (fun k e => by cases e; omega)⟩
/-- What lay tells, of whatever number. -/
def laidL (o : List Nat) (i : Int) (f : Nat → Int) : List Nat := if 0 ≤ i ∧ i < 160 then layK o i.toNat f 160 else zero20
def laidB (i : Int) : Bool := decide (0 ≤ i ∧ i < 160)
theorem id_zero : Id zero20 := ⟨rfl, fun b h => by have := List.eq_of_mem_replicate h; omega⟩
theorem id_laid {o : List Nat} (h : Id o) (i : Int) (f : Nat → Int) : Id (laidL o i f) := by
  unfold laidL; split
  · exact id_lay h _ f 160
  · exact id_zero
theorem rlayA (o : List Nat) (i : Int) (n : Nat) (caps : Array Value) (f : Nat → Int) (w : World) (ho : Id o)
    (HE : Hid (∀ args W, Sem.run Try.prog (callFunc n args) W = .ok (.enter n args) W))
    (HF : Hid (∀ k, k < 160 → ∀ W, Below w.heap.size w W → Calls Try.prog n (#[.int .i64 (k : Int)] ++ caps) W fun e w' => e = .returned (.int .i64 (f k)) ∧ Below W.heap.size W w')) :
    Calls Try.prog 44 #[idv o, .int .i64 i, .func (.func n) #[] caps] w fun e w' => e = .returned (.tuple #[idv (laidL o i f), .bool (laidB i)]) ∧ Below w.heap.size w w' := by
  by_cases h0 : i < 0
  · have := rlay_no1 o i (.func (.func n) #[] caps) w ho h0
    rwa [show laidL o i f = zero20 from if_neg (by omega), show laidB i = false from decide_eq_false (by omega)]
  · by_cases h1 : 160 ≤ i
    · have := rlay_no2 o i (.func (.func n) #[] caps) w ho h1
      rwa [show laidL o i f = zero20 from if_neg (by omega), show laidB i = false from decide_eq_false (by omega)]
    · have := rlay o i.toNat n caps f w ho (by omega) HE HF
      rw [show ((i.toNat : Nat) : Int) = i by omega] at this
      rwa [show laidL o i f = layK o i.toNat f 160 from if_pos (by omega), show laidB i = true from decide_eq_true (by omega)]
theorem enter45 : Hid (∀ args W, Sem.run Try.prog (callFunc 45 args) W = .ok (.enter 45 args) W) := fun args W => by go_simp
theorem enter46 : Hid (∀ args W, Sem.run Try.prog (callFunc 46 args) W = .ok (.enter 46 args) W) := fun args W => by go_simp
theorem enter47 : Hid (∀ args W, Sem.run Try.prog (callFunc 47 args) W = .ok (.enter 47 args) W) := fun args W => by go_simp
theorem rzero1 (k : Nat) (w : World) : Calls Try.prog 46 #[.int .i64 (k : Int)] w fun e w' => e = .returned (.int .i64 0) ∧ Below w.heap.size w w' := by
  go_enter Try.func46, Try.ntmps46
  go_wp2
  go_ret
  exact ⟨rfl, Below.refl _ _⟩
theorem rone1 (k : Nat) (w : World) : Calls Try.prog 47 #[.int .i64 (k : Int)] w fun e w' => e = .returned (.int .i64 1) ∧ Below w.heap.size w w' := by
  go_enter Try.func47, Try.ntmps47
  go_wp2
  go_ret
  exact ⟨rfl, Below.refl _ _⟩
theorem rfrom1 (k b : Nat) (l : List Nat) (w : World) (hl : Id l) (hk : k < 160) (hA : IdAt w b l) :
    Calls Try.prog 45 #[.int .i64 (k : Int), .pointer (some ⟨b, 0, none⟩)] w fun e w' => e = .returned (.int .i64 (bit l k : Nat)) ∧ Below w.heap.size w w' := by
  have HC := Lib.hid (rbit_yes l k w hl hk)
  have HA := Lib.hid hA
  have hl20 := hl.1
  generalize bit l k = v at *
  clear hA hl hk
  go_enter Try.func45, Try.ntmps45
  go_wp2_with (first
    | (refine wpList_load_id rfl (.tmp 1) rfl b rfl l HA.out hl20 ?_)
    | (go_at_call 43; refine HC.out.mono ?_; rintro e w1 ⟨rfl, hb1⟩))
  go_ret
  exact ⟨rfl, hb1⟩
theorem rlow (o : List Nat) (i : Int) (w : World) (ho : Id o) :
    Calls Try.prog 28 #[idv o, .int .i64 i] w fun e w' => e = .returned (.tuple #[idv (laidL o i fun _ => 0), .bool (laidB i)]) ∧ Below w.heap.size w w' := by
  have hA1 := idAt_new w o
  have hA2 : IdAt ((w.alloc (.cells (idc o).toArray 41)).alloc Z41) w.heap.size o := idAt_below hA1 ((Below.refl _ _).alloc (Nat.le_refl _) _)
  have hB2 : IdAt ((w.alloc (.cells (idc o).toArray 41)).alloc Z41) (w.heap.size + 1) zero20 := by simpa using idAt_zero (w.alloc (.cells (idc o).toArray 41))
  have hb2 : Below w.heap.size w ((w.alloc (.cells (idc o).toArray 41)).alloc Z41) := ((Below.refl _ w).alloc (Nat.le_refl _) _).alloc (by simp) _
  have XA := Lib.hid hA2
  have XB := Lib.hid hB2
  have XW := Lib.hid hb2
  have HC := Lib.hid (rlayA o i 46 #[] (fun _ => 0) ((w.alloc (.cells (idc o).toArray 41)).alloc Z41) ho enter46 (fun k hk W hW => rzero1 k W))
  have ho20 := ho.1
  have hl20 := (id_laid ho i (fun _ => 0)).1
  generalize laidL o i (fun _ => 0) = L at *
  generalize laidB i = B at *
  clear hA1 hA2 hB2 hb2 ho
  unfold idv at *
  generalize hCa : (idc o).toArray = Ca at *
  go_enter Try.func28, Try.ntmps28
  go_upto_region 1 with fail
  obtain ⟨W2, hW2⟩ : ∃ W2, W2 = (w.alloc (.cells Ca 41)).alloc Z41 := ⟨_, rfl⟩
  rw [← hW2] at XA XB XW HC ⊢
  clear hW2
  go_wp2_with (first
    | (refine wpList_load_id rfl (.tmp 2) rfl w.heap.size rfl o XA.out ho20 ?_)
    | (go_at_call 44; unfold idv; rw [hCa]; refine HC.out.mono ?_; rintro e w1 ⟨rfl, hb1⟩)
    | (refine wpList_store_id rfl (.tmp 4) (.tmp 9) rfl (w.heap.size + 1) rfl zero20 L rfl (idAt_below XB.out hb1) rfl hl20 ?_; intro w5 hA5 hg5))
  refine bodyPost_ret (v := .tuple #[idv L, .bool B]) ((results_id2 (u := 4) (v := 5) rfl _ w5 (w.heap.size + 1) _ rfl hA5 hl20).trans rfl) rfl ?_
  have hw1 := XW.out.trans (hb1.mono XW.out.size)
  exact ⟨rfl, hw1.grown hg5 hw1.size (fun k e => by cases e; omega)⟩
end Go.Proofs.Ytcgfednoolkhkaa
