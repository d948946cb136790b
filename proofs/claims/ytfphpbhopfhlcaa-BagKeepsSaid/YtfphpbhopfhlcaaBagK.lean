/-
  bag: 'long', and how often a datagram is there.
-/
import Derived.Test.YtfphpbhopfhlcaaOpsB
import Derived.Deep.CutRange
import Derived.Deep.CutBlock
namespace Go.Proofs.Ytfphpbhopfhlcaa.D
open Go.RowKit
set_option linter.unusedVariables false
set_option linter.unusedSimpArgs false
def LongRes (n : Nat) (w : World) (e : Ending) (w' : World) : Prop := ∃ b, e = .returned (.bool b) ∧ (b = false → n ≤ 60) ∧ Below w.heap.size w w'
theorem rlong (A : Option Addr) (n cap : Nat) (F : Nat → OpB) (w : World) (HO : ReadsOp w A n F) (hn : n ≤ maxLen) :
    Calls Try.prog 17 #[.slice A n cap] w (LongRes n w) := by
  have HH := Lib.hid HO
  clear HO
  have hmx : n ≤ 9223372036854775807 := hn
  go_enter Try.func17, Try.ntmps17
  go_wp2
  go_loopw [7] (fun x wr => ∃ k : Nat, k ≤ n ∧ x = .int .i64 k ∧ Below w.heap.size w wr) (fun x _ => n - (intOf x).toNat)
  case atStart => exact ⟨0, by omega, rfl, Below.refl _ _⟩
  case round =>
    obtain ⟨k, hk, rfl, hbr⟩ := hrel
    by_cases hlt : k < n
    · obtain ⟨b, off, rfl, hc⟩ := HH.out (by omega)
      obtain ⟨h0, h1, h2, h3, h4, h5, h6, h7⟩ := opAt_below (hc k hlt) hbr
      have hsz : (F k).d.s.size ≤ 9223372036854775807 := h7
      clear hc h7
      generalize F k = x at *
      have hbl := hbr.trans (((Below.refl wr.heap.size wr).alloc (Nat.le_refl _) (.cells #[Value.int .i64 x.k, Value.int .i64 x.i, Value.int .u32 x.d.h1, Value.int .u16 x.d.p1, Value.int .u32 x.d.h2, Value.int .u16 x.d.p2, Value.string x.d.s] 54)).mono hbr.size)
      by_cases hs : (10000 : Int) < (x.d.s.size : Int)
      · go_wp2
        go_ret
        exact ⟨true, rfl, fun h => (by cases h), hbl⟩
      · go_wp2
        go_roundw
        case rel => exact ⟨k + 1, by omega, by go_num, hbl⟩
        case measure => simp [intOf]; omega
    · obtain rfl : k = n := by omega
      by_cases h60 : (60 : Int) < (k : Int)
      · go_wp2
        go_ret
        exact ⟨true, rfl, fun h => (by cases h), hbr⟩
      · go_wp2
        go_ret
        exact ⟨false, rfl, fun h => by omega, hbr⟩
def eqB (a s : Dg) : Bool := a.h1 == s.h1 && (a.p1 == s.p1 && (a.h2 == s.h2 && (a.p2 == s.p2 && decide (a.s.toList = s.s.toList))))
/-- How often s is there. -/
def cnt (s : Dg) (L : List Dg) : Nat := (L.map fun x => if eqB x s = true then 1 else 0).sum
theorem cnt_snoc (s : Dg) (L : List Dg) (d : Dg) : cnt s (L ++ [d]) = cnt s L + if eqB d s = true then 1 else 0 := by simp [cnt]
theorem cnt_app (s : Dg) (A B : List Dg) : cnt s (A ++ B) = cnt s A + cnt s B := by simp [cnt]
theorem cnt_le (s : Dg) (L : List Dg) : cnt s L ≤ L.length := by
  induction L with
  | nil => simp [cnt]
  | cons x t ih => simp only [cnt, List.map_cons, List.sum_cons, List.length_cons] at *; split <;> omega
theorem cnt_take (s : Dg) (L : List Dg) (k : Nat) (h : k < L.length) : cnt s (L.take (k + 1)) = cnt s (L.take k) + if eqB (L.getD k d0) s = true then 1 else 0 := by
  rw [List.take_succ_eq_append_getElem h, cnt_snoc]
  simp [List.getD, h]
theorem cnt_erase (s : Dg) (L : List Dg) (k : Nat) (h : k < L.length) : cnt s (L.eraseIdx k) + (if eqB (L.getD k d0) s = true then 1 else 0) = cnt s L := by
  have h1 : L.eraseIdx k = L.take k ++ L.drop (k + 1) := List.eraseIdx_eq_take_drop_succ L k
  have h2 : L = L.take k ++ (L.getD k d0 :: L.drop (k + 1)) := by
    conv => lhs; rw [← List.take_append_drop k L, List.drop_eq_getElem_cons h]
    simp [List.getD, h]
  have h3 : cnt s L = cnt s (L.take k) + ((if eqB (L.getD k d0) s = true then 1 else 0) + cnt s (L.drop (k + 1))) := by
    conv => lhs; rw [h2]
    rw [cnt_app]
    simp [cnt]
  rw [h1, cnt_app, h3]
  omega
theorem bag_widen {X Y : Nat → Prop} {w w' : World} {g most : Nat} {L : List Dg} {lost : Int} (h : BagS X w g most L lost) (hb : Below w.heap.size w w') (hY : ∀ k, Y k → X k ∨ w.heap.size ≤ k) : BagS Y w' g most L lost := by
  have hg := bag_lt h
  obtain ⟨hx, h1, f1, r, h0, hr⟩ := h
  refine ⟨fun hy => ?_, cell_below hb h1, (hb.frozen (p := ⟨g, 1, none⟩) hg).trans f1, r, cell_below hb h0, ring_widen hr hb (fun k hk => ?_)⟩
  · rcases hY g hy with h | h
    · exact hx h
    · omega
  · rcases hk with h | h
    · rcases hY k h with h | h
      · exact .inl (.inl h)
      · exact .inr h
    · exact .inl (.inr h)
theorem bag_narrow {X Y : Nat → Prop} {w : World} {g most : Nat} {L : List Dg} {lost : Int} (h : BagS Y w g most L lost) (hX : ∀ k, X k → Y k) : BagS X w g most L lost := by
  obtain ⟨hx, h1, f1, r, h0, hr⟩ := h
  exact ⟨fun hy => hx (hX _ hy), h1, f1, r, h0, ring_narrow hr (fun k hk => hk.elim (fun h => .inl (hX _ h)) .inr)⟩
theorem bag_len {X : Nat → Prop} {w : World} {g most : Nat} {L : List Dg} {lost : Int} (h : BagS X w g most L lost) : L.length ≤ most := by
  obtain ⟨hx, h1, f1, r, h0, hr⟩ := h
  exact (ring_len hr).1
theorem opAt_kept {X : Nat → Prop} {w w' : World} {b o : Nat} {x : OpB} (h : OpAt w b o x) (hk : Kept X w w') (hx : X b) : OpAt w' b o x := by
  obtain ⟨h0, h1, h2, h3, h4, h5, h6, h7⟩ := h
  exact ⟨kept_cell' hk hx h0, kept_cell' hk hx h1, kept_cell' hk hx h2, kept_cell' hk hx h3, kept_cell' hk hx h4, kept_cell' hk hx h5, kept_cell' hk hx h6, h7⟩
theorem ret_int2 {k : IntKind} {a b : Int} (h : a = b) : Value.int k a = .int k b := by rw [h]
theorem putL_ok {most : Nat} {L : List Dg} {d : Dg} (h : putE most L d = 0) : putL most L d = L ++ [d] := by
  unfold putE at h
  split at h
  · cases h
  · rename_i h1
    unfold pushE at h
    split at h
    · rename_i h2; rw [putL, if_neg h1, pushL, if_pos h2]
    · cases h
theorem putN_ok {most : Nat} {L : List Dg} {d : Dg} {n : Int} (h : putE most L d = 0) : putN most L d n = n := by
  unfold putE at h
  split at h
  · cases h
  · rename_i h1
    unfold pushE at h
    split at h
    · rename_i h2; rw [putN, if_neg h1, if_pos h2]
    · cases h
theorem putL_no {most : Nat} {L : List Dg} {d : Dg} (h : putE most L d ≠ 0) : putL most L d = L := by
  unfold putE at h
  unfold putL
  split
  · rfl
  · rename_i h1
    rw [if_neg h1] at h
    unfold pushE at h
    unfold pushL
    split
    · rename_i h2; rw [if_pos h2] at h; exact absurd rfl h
    · rfl
theorem putN_le (most : Nat) (L : List Dg) (d : Dg) (n : Int) : n ≤ putN most L d n ∧ putN most L d n ≤ n + 1 := by
  unfold putN; split
  · omega
  · split <;> omega
end Go.Proofs.Ytfphpbhopfhlcaa.D
