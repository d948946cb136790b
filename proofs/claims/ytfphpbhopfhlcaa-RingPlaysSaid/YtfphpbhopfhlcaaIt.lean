/-
  ring: All, and what it hands back: an iterator over the elements.
-/
import Derived.Test.YtfphpbhopfhlcaaRingO
import Derived.RangeFuncNested
import Derived.RangeFuncBound
import Derived.RangeFuncCalls
import Derived.RangeFuncLeaves
import Derived.RangeFuncFrom
import Derived.Shelf.Abstract
import Derived.OwnWalkIn
import Derived.TacticsInMore
import Derived.LoopNIn
import Derived.LoopIn
namespace Go.Proofs.Ytfphpbhopfhlcaa
open Go.RowKit Go.Shelf
attribute [local go_sem] Oper.semAt_some
set_option linter.unusedVariables false
set_option linter.unusedSimpArgs false
/-- What has come when k rounds are over. -/
def upto (L : List Int) (k : Nat) : List (Nat × Int) := (List.range k).map fun j => (j, L.getD j 0)
theorem upto_succ (L : List Int) (k : Nat) : upto L (k + 1) = upto L k ++ [(k, L.getD k 0)] := by simp [upto, List.range_succ]
theorem upto_len (L : List Int) (k : Nat) : (upto L k).length = k := by simp [upto]
abbrev encP (x : Nat × Int) : Array Value := #[.int .i64 (x.1 : Int), .int .i64 x.2]
/-- All's value: the ring's pointer is boxed. -/
theorem rall (g : Nat) (w : World) : Calls Try.prog 31 #[.pointer (some ⟨g, 0, none⟩)] w fun e w' => e = .returned (.func (.func 45) #[] #[.pointer (some ⟨w.heap.size, 0, none⟩)]) ∧ w' = w.alloc (.cells #[.pointer (some ⟨g, 0, none⟩)] 24) := by
  go_enter Try.func31, Try.ntmps31
  go_wp2
  go_ret
  exact ⟨rfl, rfl⟩
/-- What a round keeps: what lay below n₀, and the iterator's own box. -/
def KpA (n₀ Bs : Nat) : World → World → Prop := Kept fun k => k < n₀ ∨ k = Bs
theorem below_none {A B : World} (h : Below A.heap.size A B) : A.grownBy B none := ⟨h.os, h.tape, h.output, h.size, fun k hk _ => h.block k hk⟩
set_option maxRecDepth 100000 in
set_option maxHeartbeats 2000000 in
theorem all1_in (n : Nat) (hn : 1 ≤ n) (l Bs g most : Nat) (X : Nat → Prop) (L : List Int) (w0 : World) (hR0 : Ring X w0 g most L) (J Jx : List (Nat × Int) → World → Prop) (W : World) (hJa : AbidesFrom W.heap.size J)
    (hY : ∀ pre x W1, J pre W1 → pre.length < L.length → YieldAt Fence.wide (n - 1) Try.prog l (encP x) W1 fun e W' =>
      (e = .returned (.bool true) ∧ J (pre ++ [x]) W' ∧ KpA w0.heap.size Bs W1 W') ∨ (e = .returned (.bool false) ∧ Jx (pre ++ [x]) W'))
    (hb0 : Below w0.heap.size w0 W) (hBs : W.cell? ⟨Bs, 0, none⟩ = some (.pointer (some ⟨g, 0, none⟩))) (h0 : J [] W) :
    CallsIn Fence.wide n Try.prog 45 #[.func (.yield l) #[] #[], .pointer (some ⟨Bs, 0, none⟩)] W fun e W' => (∃ v, e = .returned v) ∧
      ((∃ ys, ys = upto L L.length ∧ J ys W') ∨ (∃ pre, (∃ k, k ≤ L.length ∧ pre = upto L k) ∧ Jx pre W')) := by
  refine callsIn_of_wp Try.func45 rfl trivial ?_ rfl
  simp only [Try.ntmps45, List.size_toArray, List.length_cons, List.length_nil, Nat.reduceAdd, Nat.reduceSub, Array.replicate_succ, Array.replicate_zero, List.push_toArray, List.append_toArray, List.nil_append, List.cons_append]
  have HR := Lib.hid (ring_below hR0 hb0)
  gi_wp2_with (refine ⟨trivial, ?_⟩; gi_at_call 11; refine (callsIn_wide.2 (rlen _ _ _ _ _ HR.out)).mono ?_; rintro e w1 ⟨rfl, rfl⟩)
  have hlen := ring_len hR0
  gi_loopw [3, 4, 5, 8] (fun _ _ _ i wr => ∃ k : Nat, k ≤ L.length ∧ i = .int .i64 k ∧ J (upto L k) wr ∧ KpA w0.heap.size Bs W wr)
    (fun _ _ _ i _ => L.length - (intOf i).toNat)
  case atStart => exact ⟨0, Nat.zero_le _, rfl, h0, Kept.refl _ _⟩
  case round =>
    obtain ⟨k, hk, rfl, hJs, hkp⟩ := hrel
    have hbr : Below w0.heap.size w0 wr := hb0.trans (hkp.below (fun j hj => .inl hj) hb0.size)
    have HRR := Lib.hid (ring_below hR0 hbr)
    have hcB := kept_cell hkp (p := ⟨Bs, 0, none⟩) (.inr rfl) hBs
    have HJ := Lib.hid hJs
    have HKP := Lib.hid hkp
    clear hJs hkp hbr
    by_cases hlt : k < L.length
    · have ha := rat_any X g most L (k : Int) wr HRR.out
      have e1 : atOk L (k : Int) = true := decide_eq_true ⟨by omega, by omega⟩
      have e2 : atV L (k : Int) = L.getD k 0 := by rw [atV, if_pos e1, Int.toNat_natCast]
      rw [e1, e2] at ha
      have HA := Lib.hid ha
      have HUP := Lib.hid (upto_succ L k)
      have HUL := Lib.hid (upto_len L k)
      clear ha e1 e2
      generalize L.getD k 0 = x at *
      gi_wp2_with (refine ⟨trivial, ?_⟩; gi_at_call 32; refine (callsIn_wide.2 HA.out).mono ?_; rintro e w2 ⟨rfl, hb2⟩; have HJ2 := Lib.hid (hJa _ _ _ _ HJ.out (below_none hb2) (fun r e => by cases e)); obtain ⟨fn, tmps, assign, body, hy, hR⟩ := hY _ (k, x) w2 HJ2.out (by rw [HUL.out]; exact hlt); dsimp only [encP] at hy)
      refine hR.mono ?_
      rintro e W3 (⟨rfl, hJ3, hk3⟩ | ⟨rfl, hJx3⟩)
      · gi_wp2
        go_roundw
        case rel => exact ⟨k + 1, by omega, by simp, by rw [HUP.out]; exact hJ3, (HKP.out.trans (Kept.of_below hb2)).trans hk3⟩
        case measure => simp [intOf]; omega
      · gi_wp2
        refine bodyPost_ret (results_none rfl _ _ _) rfl ?_
        exact ⟨⟨_, rfl⟩, .inr ⟨_, ⟨k + 1, by omega, HUP.out.symm⟩, hJx3⟩⟩
    · obtain rfl : k = L.length := by omega
      gi_wp2
      go_end0
      exact ⟨⟨_, rfl⟩, .inl ⟨_, rfl, HJ.out⟩⟩
theorem all_stops (n : Nat) (hn : 1 ≤ n) (Bs g most : Nat) (X : Nat → Prop) (L : List Int) (w0 w : World) (hR0 : Ring X w0 g most L) (hb0 : Below w0.heap.size w0 w) (hBs : w.cell? ⟨Bs, 0, none⟩ = some (.pointer (some ⟨g, 0, none⟩))) :
    SeqStopsK Fence.wide n Try.prog 45 #[.pointer (some ⟨Bs, 0, none⟩)] encP (KpA w0.heap.size Bs) (fun ys => ys = upto L L.length) (fun pre => ∃ k, k ≤ L.length ∧ pre = upto L k) L.length w := fun l J Jx W hW hJ hJx hY h0 =>
  all1_in n hn l Bs g most X L w0 hR0 J Jx W hJ hY (hb0.trans (hW.mono hb0.size)) (cell_below hW hBs) h0
theorem kpA_t {n₀ Bs : Nat} : ∀ {A B C : World}, KpA n₀ Bs A B → KpA n₀ Bs B C → KpA n₀ Bs A C := fun h k => Kept.trans h k
theorem kpA_b {n₀ Bs B : Nat} (h : n₀ ≤ B) (hBs : Bs < B) : ∀ (W : World) (l : Nat) (o o' : Obj), B ≤ l → W.heap[l]? = some o → o.isCells = false → o.isWalk = false → KpA n₀ Bs W (W.putObj l o') := fun W l o o' hl ho hc hw => by
  have hg := grownBy_putObj' W l o'
  refine ⟨hg.os, hg.tape, hg.output, hg.size, fun i hi hil => hg.block i hil (fun e => ?_)⟩
  cases e
  rcases hi with h1 | h1 <;> omega
end Go.Proofs.Ytfphpbhopfhlcaa
