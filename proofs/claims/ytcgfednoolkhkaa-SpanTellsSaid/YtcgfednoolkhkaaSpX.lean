/-
  ident: Xor.
-/
import Derived.Test.YtcgfednoolkhkaaSpW
namespace Go.Proofs.Ytcgfednoolkhkaa
open Go.RowKit
set_option linter.unusedVariables false
set_option linter.unusedSimpArgs false
theorem rwith (l : List Nat) (i : Nat) (b : Int) (w : World) (h : Id l) (hi : i < 160) :
    Calls Try.prog 55 #[idv l, .int .i64 i, .int .i64 b] w fun e w' => e = .returned (idv (withL l i b)) ∧ Below w.heap.size w w' := by
  unfold withL withB
  by_cases hb : b = 0
  · subst hb
    rw [if_pos rfl]
    exact with_clr l i w h hi
  · rw [if_neg hb]
    exact with_set l i b hb w h hi
def xorL (a b : List Nat) : List Nat := List.zipWith (· ^^^ ·) a b
theorem xor_len {a b : List Nat} (ha : a.length = 20) (hb : b.length = 20) : (xorL a b).length = 20 := by simp [xorL, ha, hb]
theorem xor_getD {a b : List Nat} (ha : a.length = 20) (hb : b.length = 20) (k : Nat) (hk : k < 20) : (xorL a b).getD k 0 = a.getD k 0 ^^^ b.getD k 0 := by
  simp [xorL, List.getD, List.getElem?_zipWith, show k < a.length by omega, show k < b.length by omega]
theorem id_xor {a b : List Nat} (ha : Id a) (hb : Id b) : Id (xorL a b) := by
  refine ⟨xor_len ha.1 hb.1, fun x hx => ?_⟩
  obtain ⟨k, hk, rfl⟩ := List.mem_iff_getElem.1 hx
  have h20 := xor_len ha.1 hb.1
  have := xor_getD ha.1 hb.1 k (by omega)
  have e : (xorL a b).getD k 0 = (xorL a b)[k] := by simp [List.getD, hk]
  rw [← e, this]
  exact Nat.xor_lt_two_pow (n := 8) (id_lt ha k) (id_lt hb k)
def part (a b : List Nat) (k : Nat) : List Nat := (xorL a b).take k ++ a.drop k
theorem part_len {a b : List Nat} (ha : a.length = 20) (hb : b.length = 20) (k : Nat) (hk : k ≤ 20) : (part a b k).length = 20 := by
  simp [part, xor_len ha hb, ha]; omega
theorem part_at {a b : List Nat} (ha : a.length = 20) (hb : b.length = 20) (k : Nat) (hk : k < 20) : (part a b k).getD k 0 = a.getD k 0 := by
  have := xor_len ha hb
  simp [part, List.getD, List.getElem?_append_right, this, Nat.min_eq_left (Nat.le_of_lt hk), Nat.sub_self]
theorem part_set {a b : List Nat} (ha : a.length = 20) (hb : b.length = 20) (k : Nat) (hk : k < 20) : (part a b k).set k (a.getD k 0 ^^^ b.getD k 0) = part a b (k + 1) := by
  have hx := xor_len ha hb
  rw [← xor_getD ha hb k hk]
  have h1 : (xorL a b).take (k + 1) = (xorL a b).take k ++ [(xorL a b).getD k 0] := by
    rw [List.take_succ_eq_append_getElem (by omega)]; simp [List.getD, show k < (xorL a b).length by omega]
  have h2 : a.drop k = a.getD k 0 :: a.drop (k + 1) := by
    rw [List.drop_eq_getElem_cons (by omega)]; simp [List.getD, show k < a.length by omega]
  have hl : ((xorL a b).take k).length = k := by simp [hx]; omega
  rw [part, part, h1, h2, List.set_append_right _ _ (by omega), hl, Nat.sub_self]
  simp
theorem rxor (a b : List Nat) (w : World) (ha : Id a) (hb : Id b) :
    Calls Try.prog 42 #[idv a, idv b] w fun e w' => e = .returned (idv (xorL a b)) ∧ Below w.heap.size w w' := by
  have hA1 := idAt_new w a
  have hA2 : IdAt ((w.alloc (.cells (idc a).toArray 41)).alloc (.cells (idc b).toArray 41)) w.heap.size a := idAt_below hA1 ((Below.refl _ _).alloc (Nat.le_refl _) _)
  have hB2 : IdAt ((w.alloc (.cells (idc a).toArray 41)).alloc (.cells (idc b).toArray 41)) (w.heap.size + 1) b := by simpa using idAt_new (w.alloc (.cells (idc a).toArray 41)) b
  have hA3 : IdAt (((w.alloc (.cells (idc a).toArray 41)).alloc (.cells (idc b).toArray 41)).alloc Z41) w.heap.size a := idAt_below hA2 ((Below.refl _ _).alloc (Nat.le_refl _) _)
  have hB3 : IdAt (((w.alloc (.cells (idc a).toArray 41)).alloc (.cells (idc b).toArray 41)).alloc Z41) (w.heap.size + 1) b := idAt_below hB2 ((Below.refl _ _).alloc (Nat.le_refl _) _)
  have hZ3 : IdAt (((w.alloc (.cells (idc a).toArray 41)).alloc (.cells (idc b).toArray 41)).alloc Z41) (w.heap.size + 1 + 1) zero20 := by simpa using idAt_zero ((w.alloc (.cells (idc a).toArray 41)).alloc (.cells (idc b).toArray 41))
  have hb3 : Below w.heap.size w (((w.alloc (.cells (idc a).toArray 41)).alloc (.cells (idc b).toArray 41)).alloc Z41) := (((Below.refl _ w).alloc (Nat.le_refl _) _).alloc (by simp) _).alloc (by simp; omega) _
  have XA := Lib.hid hA3
  have XB := Lib.hid hB3
  have XZ := Lib.hid hZ3
  have XW := Lib.hid hb3
  have N : Hid (w.heap.size + 1 ≠ w.heap.size ∧ w.heap.size + 1 + 1 ≠ w.heap.size ∧ w.heap.size ≤ w.heap.size + 1 + 1) := ⟨by omega, by omega, by omega⟩
  have ha20 := ha.1
  have hb20 := hb.1
  unfold idv
  generalize hCa : (idc a).toArray = Ca at *
  generalize hCb : (idc b).toArray = Cb at *
  clear hA1 hA2 hB2 hA3 hB3 hZ3 hb3
  go_enter Try.func42, Try.ntmps42
  go_wp2
  generalize World.alloc _ _ = W0 at *
  generalize w.heap.size + 1 + 1 = s2 at *
  generalize w.heap.size + 1 = s1 at *
  have HA := Lib.hid ha
  have HB := Lib.hid hb
  clear ha hb
  go_loopw [6] (fun x wr => ∃ k : Nat, k ≤ 20 ∧ x = .int .i64 k ∧ IdAt wr w.heap.size (part a b k) ∧ IdAt wr s1 b ∧ IdAt wr s2 zero20 ∧ Below w.heap.size w wr) (fun x _ => 20 - (intOf x).toNat)
  case atStart => exact ⟨0, by omega, rfl, by simpa [part] using XA.out, XB.out, XZ.out, XW.out⟩
  case round =>
    obtain ⟨k, hk, rfl, hA, hB, hZ, hW⟩ := hrel
    have YA := Lib.hid hA
    have YB := Lib.hid hB
    have YZ := Lib.hid hZ
    have YW := Lib.hid hW
    by_cases hlt : k < 20
    · obtain ⟨c1, f1⟩ := idAt_cell hA k (by rw [part_len ha20 hb20 k hk]; exact hlt)
      obtain ⟨c2, -⟩ := idAt_cell hB k (by omega)
      rw [part_at ha20 hb20 k hlt] at c1
      have PS := Lib.hid (part_set ha20 hb20 k hlt)
      have hx := u8_xor_nat (a.getD k 0) (b.getD k 0) (id_lt HA.out k) (id_lt HB.out k)
      generalize a.getD k 0 = x at *
      generalize b.getD k 0 = y at *
      have hwk : IntKind.i64.wrap (k : Int) = (k : Int) := by rw [IntKind.wrap_i64]; omega
      clear hA hB hZ hW
      go_wp2
      go_region
      have hA' : IdAt ((wr.setCell ⟨w.heap.size, k, none⟩ (.int .u8 ((x ^^^ y : Nat) : Int))).drew) w.heap.size (part a b (k + 1)) := by rw [← PS.out]; exact idAt_set YA.out
      have hB' : IdAt ((wr.setCell ⟨w.heap.size, k, none⟩ (.int .u8 ((x ^^^ y : Nat) : Int))).drew) s1 b := (Below.heap_setCell _ _ _ _ N.out.1).trans YB.out
      have hZ' : IdAt ((wr.setCell ⟨w.heap.size, k, none⟩ (.int .u8 ((x ^^^ y : Nat) : Int))).drew) s2 zero20 := (Below.heap_setCell _ _ _ _ N.out.2.1).trans YZ.out
      have hW' : Below w.heap.size w ((wr.setCell ⟨w.heap.size, k, none⟩ (.int .u8 ((x ^^^ y : Nat) : Int))).drew) := (YW.out.setCell (p := ⟨w.heap.size, k, none⟩) (Nat.le_refl _) _).drew
      generalize World.drew _ = w4 at *
      go_wp2
      go_roundw
      case rel => exact ⟨k + 1, by omega, by go_num, hA', hB', hZ', hW'⟩
      case measure => simp [intOf]; omega
    · obtain rfl : k = 20 := by omega
      have hx20 := xor_len ha20 hb20
      have hp : part a b 20 = xorL a b := by rw [part, List.take_of_length_le (by omega), List.drop_eq_nil_of_le (by omega), List.append_nil]
      rw [hp] at YA
      clear hA hB hZ hW
      go_wp2_with (first
        | (refine wpList_load_id rfl (.tmp 2) rfl w.heap.size rfl (xorL a b) YA.out hx20 ?_)
        | (refine wpList_store_id rfl (.tmp 4) (.tmp 18) rfl s2 rfl zero20 (xorL a b) rfl YZ.out rfl hx20 ?_; intro w5 hA5 hg5))
      refine bodyPost_ret (v := idv (xorL a b)) (results_id (u := 4) rfl _ w5 s2 _ rfl hA5 hx20) rfl ?_
      exact ⟨rfl, YW.out.grown hg5 YW.out.size (fun k e => by cases e; exact N.out.2.2)⟩
end Go.Proofs.Ytcgfednoolkhkaa
