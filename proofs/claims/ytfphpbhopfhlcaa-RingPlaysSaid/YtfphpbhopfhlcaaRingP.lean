/-
  ring of ints: 'Push'.
-/
import Derived.Test.YtfphpbhopfhlcaaRingG
namespace Go.Proofs.Ytfphpbhopfhlcaa
open Go.RowKit
set_option linter.unusedVariables false
set_option linter.unusedSimpArgs false
theorem heap_lt {w : World} {b : Nat} {o : Obj} (h : w.heap[b]? = some o) : b < w.heap.size := by
  rcases Nat.lt_or_ge b w.heap.size with h2 | h2
  · exact h2
  · rw [Array.getElem?_eq_none h2] at h; cases h
theorem getD_app_l (l m : List Int) (i : Nat) (h : i < l.length) : (l ++ m).getD i 0 = l.getD i 0 := by simp [List.getD, List.getElem?_append_left h]
theorem getD_app_r (l m : List Int) (i : Nat) (h : l.length ≤ i) : (l ++ m).getD i 0 = m.getD (i - l.length) 0 := by simp [List.getD, List.getElem?_append_right h]
theorem rgrow_any (X : Nat → Prop) (g most : Nat) (L : List Int) (w : World) (h : Ring X w g most L) (hl : L.length < most) (hX : ∀ k, X k → k < w.heap.size) :
    Calls Try.prog 29 #[.pointer (some ⟨g, 0, none⟩)] w fun e w' => (∃ r, e = .returned r) ∧ RingRoom X w' g most L ∧ Kept X w w' := by
  obtain ⟨m1, m2, hx, f, v, Z, hc, hr, l1, l2, l3, l4, l5⟩ := h
  rcases hr with ⟨rfl, rfl⟩ | ⟨b, rfl, hb, hne, hz, hh⟩
  · obtain rfl : f = 0 := l3 rfl
    obtain rfl : L = [] := List.eq_nil_of_length_eq_zero (by simpa using l1)
    refine (rgrow_none X g most w hc m1 m2 hx).mono ?_
    rintro e w' ⟨hr, hc', hh', hk⟩
    refine ⟨hr, ⟨m1, m2, hx, 0, w.heap.size, [0], hc', fun hxx => ?_, ?_, hh', ⟨by simp, by simpa using m1, by simp, by simp, by simp⟩, by simp⟩, hk⟩
    · have := hX _ hxx; omega
    · have := ringC_lt hc; omega
  · by_cases hlt : L.length < Z.length
    · refine (rgrow_not X g most f L.length Z.length _ w hc hlt).mono ?_
      rintro e w' ⟨hr, hbl⟩
      exact ⟨hr, ⟨m1, m2, hx, f, b, Z, ringC_block hc (hbl.block g (ringC_lt hc)), hb, hne, (hbl.block b (heap_lt hh)).trans hh, ⟨l1, l2, l3, l4, l5⟩, hlt⟩, Kept.of_below hbl⟩
    · have hZ : Z.length = L.length := by omega
      have hf := l4 hz
      obtain ⟨M, hM⟩ : ∃ M : Nat, M = if 2 * Z.length + 1 < most then 2 * Z.length + 1 else most := ⟨_, rfl⟩
      have hM2 : Z.length < M ∧ M ≤ most := by split at hM <;> omega
      obtain ⟨a, ha⟩ : ∃ a, Z.length = f + a := ⟨Z.length - f, by omega⟩
      have hdt : Z.take f ++ Z.drop f = Z := List.take_append_drop f Z
      have e1 : L.length = f + a := by omega
      rw [e1, ha] at hc
      refine (rgrow_full X g most f a (M - Z.length) M b (by omega) (Z.take f) (Z.drop f) w hc m1 m2 hx (by omega) (by omega) (by simp; omega) (by simp; omega) (by rw [hM]; split <;> split <;> omega) hne (by rw [hdt]; exact hh)).mono ?_
      rintro e w' ⟨hr, hc', hh', hk⟩
      have hln : (Z.drop f ++ Z.take f ++ List.replicate (M - Z.length) 0).length = M := by simp; omega
      refine ⟨hr, ⟨m1, m2, hx, 0, w.heap.size, _, by rw [hln, ← hZ, ha]; exact hc', fun hxx => ?_, ?_, hh', ⟨by omega, by omega, by simp, fun _ => by omega, fun i hi => ?_⟩, by omega⟩, hk⟩
      · have := hX _ hxx; omega
      · have := ringC_lt hc; omega
      · rw [hln, ← l5 i hi, Nat.zero_add, Nat.mod_eq_of_lt (by omega), List.append_assoc]
        by_cases hi2 : i < a
        · rw [getD_app_l _ _ _ (by simp; omega), Nat.mod_eq_of_lt (by omega)]
          simp [List.getD]
        · rw [getD_app_r _ _ _ (by simp; omega), getD_app_l _ _ _ (by simp; omega)]
          have : (f + i) % Z.length = i - a := by
            rw [ha, show f + i = (i - a) + (f + a) by omega, Nat.add_mod_right, Nat.mod_eq_of_lt (by omega)]
          rw [this]
          simp [List.getD, List.getElem?_take, show Z.length - f = a by omega, show i - a < f by omega]
theorem getD_set (l : List Int) (j i : Nat) (x : Int) : (l.set j x).getD i 0 = if i = j ∧ j < l.length then x else l.getD i 0 := by
  simp only [List.getD, List.getElem?_set]
  by_cases h1 : i = j
  · subst h1
    by_cases h2 : i < l.length <;> simp [h2]
  · simp [h1, Ne.symm h1]
theorem ring_same {f i j N : Nat} (hf : f < N) (hi : i < N) (hj : j < N) (h : (f + i) % N = (f + j) % N) : i = j := by
  have h1 : ∀ k, k < N → (f + k) % N = if f + k < N then f + k else f + k - N := by
    intro k hk
    split
    · rw [Nat.mod_eq_of_lt (by omega)]
    · rw [Nat.mod_eq_sub_mod (by omega), Nat.mod_eq_of_lt (by omega)]
  rw [h1 i hi, h1 j hj] at h
  split at h <;> split at h <;> omega
theorem row_set {W : World} {b j : Nat} {Z : List Int} {x : Int} (h : W.heap[b]? = some (.cells (Z.map (Value.int .i64)).toArray 3 (0, 0))) :
    (W.setCell ⟨b, j, none⟩ (.int .i64 x)).heap[b]? = some (.cells ((Z.set j x).map (Value.int .i64)).toArray 3 (0, 0)) := by
  rw [setCell_eq_setRow W b j _ 3 (0, 0) _ h, setRow_heap W b _ _ 3 _ h]
  simp [List.map_set]
/-- What a store into the row leaves. -/
theorem ring_set {X : Nat → Prop} {W : World} {g most f b many : Nat} {Z : List Int} (hc : RingC W g most f many (.slice (some ⟨b, 0, none⟩) Z.length Z.length)) (hne : b ≠ g) (hh : W.heap[b]? = some (.cells (Z.map (Value.int .i64)).toArray 3 (0, 0))) (j : Nat) (x : Int) :
    RingC (W.setCell ⟨b, j, none⟩ (.int .i64 x)) g most f many (.slice (some ⟨b, 0, none⟩) (Z.set j x).length (Z.set j x).length) := by
  rw [List.length_set]
  exact ringC_block hc (Below.heap_setCell _ _ _ _ (fun e => hne e.symm))
theorem ringC_many {W : World} {g most f many : Nat} {v : Value} (h : RingC W g most f many v) (n : Nat) : RingC (W.setCell ⟨g, 2, none⟩ (.int .i64 n)) g most f n v := by
  obtain ⟨h0, h1, h2, h3, f1, f2, f3⟩ := h
  exact ⟨set_other h0 (by simp), set_other h1 (by simp), set_same h2, set_other h3 (by simp), by simp [f1], by simp [f2], by simp [f3]⟩
theorem room_cell {X : Nat → Prop} {w : World} {g most : Nat} {L : List Int} (h : RingRoom X w g most L) :
    ∃ b r z, b ≠ g ∧ ¬ X b ∧ ¬ X g ∧ w.cell? ⟨b, r, none⟩ = some (.int .i64 z) ∧ w.frozen? ⟨b, r, none⟩ = false ∧ w.cell? ⟨g, 2, none⟩ = some (.int .i64 L.length) ∧ w.frozen? ⟨g, 2, none⟩ = false ∧ L.length < most ∧ most ≤ 65536 ∧
      (Calls Try.prog 30 #[.pointer (some ⟨g, 0, none⟩), .int .i64 L.length] w fun e w' => e = .returned (.pointer (some ⟨b, r, none⟩)) ∧ Below w.heap.size w w') ∧
      ∀ (W : World) (x : Int), Below w.heap.size w W → Ring X ((W.setCell ⟨b, r, none⟩ (.int .i64 x)).setCell ⟨g, 2, none⟩ (.int .i64 ((L.length + 1 : Nat) : Int))) g most (L ++ [x]) := by
  obtain ⟨m1, m2, hx, f, b, Z, hc, hb, hne, hh, ⟨l1, l2, l3, l4, l5⟩, hlt⟩ := h
  have hz : Z ≠ [] := fun e => by simp [e] at hlt
  have hf := l4 hz
  have hr : (f + L.length) % Z.length < Z.length := Nat.mod_lt _ (by omega)
  have hrc := row_cell (X := X) (g := g) hh _ hr
  have hcc := hc
  obtain ⟨h0, h1, h2, h3, f1, f2, f3⟩ := hcc
  refine ⟨b, (f + L.length) % Z.length, _, hne, hb, hx, hrc.1, hrc.2, h2, f2, by omega, m2, rcell g most f L.length b Z.length L.length w hc hf hlt (by omega), fun W x hbl => ?_⟩
  have hcW := ringC_block hc (hbl.block g (ringC_lt hc))
  have hhW := (hbl.block b (heap_lt hh)).trans hh
  have hc1 := ring_set (X := X) hcW hne hhW ((f + L.length) % Z.length) x
  have hl1 : (L ++ [x]).length = L.length + 1 := by simp
  refine ⟨m1, m2, hx, f, _, Z.set ((f + L.length) % Z.length) x, by rw [hl1]; exact ringC_many hc1 _, .inr ⟨b, rfl, hb, hne, ?_, heap_set_other (row_set hhW) hne⟩, ?_, ?_, ?_, ?_, ?_⟩
  · intro e; have := congrArg List.length e; simp at this; exact hz this
  · simp; omega
  · simp; omega
  · intro e; have := congrArg List.length e; simp at this; exact absurd this hz
  · intro _; simpa using hf
  · intro i hi
    rw [hl1] at hi
    rw [List.length_set, getD_set]
    by_cases hi2 : i < L.length
    · rw [if_neg (fun h => by have := ring_same hf (by omega) hlt h.1; omega), l5 i hi2, getD_app_l _ _ _ hi2]
    · obtain rfl : i = L.length := by omega
      rw [if_pos ⟨rfl, hr⟩, getD_app_r _ _ _ (Nat.le_refl _)]
      simp
def pushE (most : Nat) (L : List Int) : Int := if L.length < most then 0 else 31
def pushL (most : Nat) (L : List Int) (x : Int) : List Int := if L.length < most then L ++ [x] else L
theorem rpush_no (X : Nat → Prop) (g most : Nat) (L : List Int) (x : Int) (w : World) (h : Ring X w g most L) (hl : ¬ L.length < most) :
    Calls Try.prog 9 #[.pointer (some ⟨g, 0, none⟩), .int .i64 x] w fun e w' => e = .returned (.int .i64 31) ∧ Below w.heap.size w w' := by
  have hle := (ring_len h).1
  obtain ⟨m1, m2, hx, f, v, Z, ⟨h0, h1, h2, h3, f1, f2, f3⟩, hr, hl'⟩ := h
  have H := Lib.hid (rnone_no g most w h0 m1)
  obtain rfl : most = L.length := by omega
  have hg := Below.refl w.heap.size w
  clear hr hl' h1 h3 f1 f2 f3 hl hle
  generalize L.length = n at *
  go_enter Try.func9, Try.ntmps9
  go_wp2_with (go_at_call 28; refine H.out.mono ?_; rintro e w1 ⟨rfl, rfl⟩)
  go_quiet (fail)
  go_wp2
  go_ret
  exact ⟨rfl, below_drewN (by go_grown) _⟩
theorem rpush_yes (X : Nat → Prop) (g most : Nat) (L : List Int) (x : Int) (w : World) (h : Ring X w g most L) (hl : L.length < most) (hX : ∀ k, X k → k < w.heap.size) :
    Calls Try.prog 9 #[.pointer (some ⟨g, 0, none⟩), .int .i64 x] w fun e w' => e = .returned (.int .i64 0) ∧ Ring X w' g most (L ++ [x]) ∧ Kept X w w' := by
  have HG := Lib.hid (fun W (hb : Below w.heap.size w W) => rgrow_any X g most L W (ring_below h hb) hl (fun k hk => Nat.lt_of_lt_of_le (hX k hk) hb.size))
  obtain ⟨m1, m2, hx, f, v, Z, ⟨h0, h1, h2, h3, f1, f2, f3⟩, hr, hl'⟩ := h
  have H := Lib.hid (rnone_no g most w h0 m1)
  have hg := Below.refl w.heap.size w
  have hl2 : ¬ ((L.length : Int) = (most : Int)) := by omega
  have hl3 : ((L.length : Int) == (most : Int)) = false := by simp; omega
  clear hr hl' h1 h3 f1 f2 f3 hX
  go_enter Try.func9, Try.ntmps9
  go_wp2_with (go_at_call 28; refine H.out.mono ?_; rintro e w1 ⟨rfl, rfl⟩)
  go_quiet (fail)
  go_wp2_with fail
  refine (HG.out _ (below_drewN hg _)).mono ?_
  rintro e w1 ⟨⟨rr, rfl⟩, hroom, hk1⟩
  obtain ⟨b, r, z, hne, hxb, hxg, hcl, hfz, hc2, hf2, _, _, hcall, hset⟩ := room_cell hroom
  have HCALL := Lib.hid hcall
  have HSET := Lib.hid hset
  have HK1 := Lib.hid hk1
  clear hroom hcall hset hk1
  go_wp2_with fail
  refine HCALL.out.mono ?_
  rintro e w2 ⟨rfl, hg2⟩
  have e1 := cell_below hg2 hcl
  have e2 := (hg2.frozen (p := ⟨b, r, none⟩) (World.block_lt_of_cell? _ _ hcl)).trans hfz
  have e3 := cell_below hg2 hc2
  have e4 := (hg2.frozen (p := ⟨g, 2, none⟩) (World.block_lt_of_cell? _ _ hc2)).trans hf2
  have n1 : (⟨b, r, none⟩ : Addr) ≠ ⟨g, 2, none⟩ := by simp [hne]
  have HB2 := Lib.hid hg2
  clear hg2
  go_wp2
  go_ret
  exact ⟨rfl, HSET.out w2 x HB2.out, (((((Kept.refl X w).drewN _).trans HK1.out).trans (Kept.of_below HB2.out)).set _ _ _ hxb).set _ _ _ hxg⟩
theorem rpush_any (X : Nat → Prop) (g most : Nat) (L : List Int) (x : Int) (w : World) (h : Ring X w g most L) (hX : ∀ k, X k → k < w.heap.size) :
    Calls Try.prog 9 #[.pointer (some ⟨g, 0, none⟩), .int .i64 x] w fun e w' => e = .returned (.int .i64 (pushE most L)) ∧ Ring X w' g most (pushL most L x) ∧ Kept X w w' := by
  by_cases hl : L.length < most
  · have e1 : pushE most L = 0 := if_pos hl
    have e2 : pushL most L x = L ++ [x] := if_pos hl
    rw [e1, e2]
    exact rpush_yes X g most L x w h hl hX
  · have e1 : pushE most L = 31 := if_neg hl
    have e2 : pushL most L x = L := if_neg hl
    rw [e1, e2]
    refine (rpush_no X g most L x w h hl).mono ?_
    rintro e w' ⟨he, hb⟩
    exact ⟨he, ring_below h hb, Kept.of_below hb⟩
end Go.Proofs.Ytfphpbhopfhlcaa
