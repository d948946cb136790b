/-
  ring of datagrams: its state, and the functions that only look.
-/
import Derived.Test.YtfphpbhopfhlcaaDg
namespace Go.Proofs.Ytfphpbhopfhlcaa.D
open Go.RowKit
set_option linter.unusedVariables false
set_option linter.unusedSimpArgs false
theorem rnone_nil (w : World) : Calls Try.prog 46 #[.pointer none] w fun e w' => e = .returned (.bool true) ∧ w = w' := by
  go_enter Try.func46, Try.ntmps46
  go_wp2
  go_ret
  exact ⟨rfl, rfl⟩
theorem rnone_no (g most : Nat) (w : World) (hc : w.cell? ⟨g, 0, none⟩ = some (.int .i64 most)) (hm : 1 ≤ most) : Calls Try.prog 46 #[.pointer (some ⟨g, 0, none⟩)] w fun e w' => e = .returned (.bool false) ∧ w = w' := by
  have hm' : ((most : Int) == 0) = false := by simp; omega
  go_enter Try.func46, Try.ntmps46
  go_wp2
  go_ret
  exact ⟨ret_val (by simp [hm']), rfl⟩
theorem rcell (g most f many b N i : Nat) (w : World) (h : RingC w g most f many (.slice (some ⟨b, 0, none⟩) N N)) (hf : f < N) (hi : i < N) (hN : N ≤ 65536) :
    Calls Try.prog 48 #[.pointer (some ⟨g, 0, none⟩), .int .i64 i] w fun e w' => e = .returned (.pointer (some ⟨b, (f + i) % N * 5, none⟩)) ∧ Below w.heap.size w w' := by
  obtain ⟨h0, h1, h2, h3, f1, f2, f3⟩ := h
  have hm : (f + i) % N < N := Nat.mod_lt _ (by omega)
  have ht : Int.tmod ((f : Int) + (i : Int)) (N : Int) = (((f + i) % N : Nat) : Int) := by rw [Int.tmod_eq_emod_of_nonneg (by omega)]; simp
  have hN0 : ¬ ((N : Int) = 0) := by omega
  generalize (f + i) % N = r at *
  have hg := Below.refl w.heap.size w
  go_enter Try.func48, Try.ntmps48
  go_wp2
  go_quiet (fail)
  go_wp2
  go_ret
  exact ⟨rfl, below_drewN (by go_grown) _⟩
def RowI (X : Nat → Prop) (W : World) (g : Nat) (v : Value) (Z : List Dg) : Prop :=
  (v = .slice none 0 0 ∧ Z = []) ∨ ∃ b, v = .slice (some ⟨b, 0, none⟩) Z.length Z.length ∧ ¬ X b ∧ b ≠ g ∧ Z ≠ [] ∧ W.heap[b]? = some (.cells (dcs Z).toArray 49 (0, 0))
def Lay (most f : Nat) (Z L : List Dg) : Prop :=
  L.length ≤ Z.length ∧ Z.length ≤ most ∧ (Z = [] → f = 0) ∧ (Z ≠ [] → f < Z.length) ∧ ∀ i, i < L.length → Z.getD ((f + i) % Z.length) d0 = L.getD i d0
def Ring (X : Nat → Prop) (W : World) (g most : Nat) (L : List Dg) : Prop :=
  1 ≤ most ∧ most ≤ 65536 ∧ ¬ X g ∧ ∃ f v Z, RingC W g most f L.length v ∧ RowI X W g v Z ∧ Lay most f Z L
theorem ring_kept {X : Nat → Prop} {w w' : World} {g most : Nat} {L : List Dg} (h : Ring X w g most L) (hk : ∀ k, k < w.heap.size → ¬ X k → w'.heap[k]? = w.heap[k]?) : Ring X w' g most L := by
  obtain ⟨m1, m2, hx, f, v, Z, hc, hr, hl⟩ := h
  refine ⟨m1, m2, hx, f, v, Z, ringC_block hc (hk g (ringC_lt hc) hx), ?_, hl⟩
  rcases hr with h | ⟨b, hv, hb, hne, hz, hh⟩
  · exact .inl h
  · exact .inr ⟨b, hv, hb, hne, hz, (hk b (heap_lt hh) hb).trans hh⟩
theorem ring_below {X : Nat → Prop} {w w' : World} {g most : Nat} {L : List Dg} (h : Ring X w g most L) (hb : Below w.heap.size w w') : Ring X w' g most L :=
  ring_kept h (fun k hk _ => hb.block k hk)
theorem ring_lt {X : Nat → Prop} {w : World} {g most : Nat} {L : List Dg} (h : Ring X w g most L) : g < w.heap.size := by
  obtain ⟨m1, m2, hx, f, v, Z, hc, hr, hl⟩ := h
  exact ringC_lt hc
theorem ring_len {X : Nat → Prop} {w : World} {g most : Nat} {L : List Dg} (h : Ring X w g most L) : L.length ≤ most ∧ most ≤ 65536 := by
  obtain ⟨m1, m2, hx, f, v, Z, hc, hr, hl⟩ := h
  exact ⟨Nat.le_trans hl.1 hl.2.1, m2⟩
theorem ring_widen {X Y : Nat → Prop} {w w' : World} {g most : Nat} {L : List Dg} (h : Ring X w g most L) (hb : Below w.heap.size w w') (hY : ∀ k, Y k → X k ∨ w.heap.size ≤ k) : Ring Y w' g most L := by
  obtain ⟨m1, m2, hx, f, v, Z, hc, hr, hl⟩ := h
  have hg := ringC_lt hc
  refine ⟨m1, m2, fun hy => ?_, f, v, Z, ringC_block hc (hb.block g hg), ?_, hl⟩
  · rcases hY g hy with h | h
    · exact hx h
    · omega
  · rcases hr with h | ⟨b, hv, hb2, hne, hz, hh⟩
    · exact .inl h
    · have hlt := heap_lt hh
      refine .inr ⟨b, hv, fun hy => ?_, hne, hz, (hb.block b hlt).trans hh⟩
      rcases hY b hy with h | h
      · exact hb2 h
      · omega
theorem ring_narrow {X Y : Nat → Prop} {w : World} {g most : Nat} {L : List Dg} (h : Ring Y w g most L) (hX : ∀ k, X k → Y k) : Ring X w g most L := by
  obtain ⟨m1, m2, hx, f, v, Z, hc, hr, hl⟩ := h
  refine ⟨m1, m2, fun hy => hx (hX _ hy), f, v, Z, hc, ?_, hl⟩
  rcases hr with h | ⟨b, hv, hb2, hne, hz, hh⟩
  · exact .inl h
  · exact .inr ⟨b, hv, fun hy => hb2 (hX _ hy), hne, hz, hh⟩
theorem lay_set' {most f i : Nat} {Z L : List Dg} (h : Lay most f Z L) (hi : i < L.length) (d : Dg) : Lay most f (Z.set ((f + i) % Z.length) d) (L.set i d) := by
  obtain ⟨l1, l2, l3, l4, l5⟩ := h
  have hz : Z ≠ [] := fun e => by subst e; simp at l1; simp [l1] at hi
  have hf := l4 hz
  have hlt : (f + i) % Z.length < Z.length := Nat.mod_lt _ (by omega)
  refine ⟨by simpa using l1, by simpa using l2, ?_, fun _ => by simpa using hf, ?_⟩
  · intro e; have := congrArg List.length e; simp at this; exact absurd this hz
  · intro k hk
    rw [List.length_set] at hk
    rw [List.length_set, getD_setD, getD_setD]
    by_cases hki : k = i
    · subst hki; rw [if_pos ⟨rfl, hlt⟩, if_pos ⟨rfl, hk⟩]
    · rw [if_neg (fun h => hki (ring_same hf (by omega) (by omega) h.1)), if_neg (fun h => hki h.1), l5 k hk]
/-- The cells of a place that is there. -/
theorem ring_at2 {X : Nat → Prop} {w : World} {g most i : Nat} {L : List Dg} (h : Ring X w g most L) (hi : i < L.length) :
    ∃ b r, ¬ X b ∧ b ≠ g ∧ At5 w b r (L.getD i d0) ∧
      (∀ W, Below w.heap.size w W → Calls Try.prog 48 #[.pointer (some ⟨g, 0, none⟩), .int .i64 i] W fun e w' => e = .returned (.pointer (some ⟨b, r, none⟩)) ∧ Below W.heap.size W w') ∧
      ∀ (W : World) (d : Dg), Below w.heap.size w W → Ring X (put5 W b r d) g most (L.set i d) := by
  obtain ⟨m1, m2, hx, f, v, Z, hc, hr, hl⟩ := h
  obtain ⟨l1, l2, l3, l4, l5⟩ := hl
  rcases hr with ⟨rfl, rfl⟩ | ⟨b, rfl, hb, hne, hz, hh⟩
  · simp at l1; simp [l1] at hi
  · have hf := l4 hz
    have hlt : (f + i) % Z.length < Z.length := Nat.mod_lt _ (by omega)
    refine ⟨b, (f + i) % Z.length * 5, hb, hne, ?_, fun W hbl => rcell g most f L.length b Z.length i W (ringC_block hc (hbl.block g (ringC_lt hc))) hf (by omega) (by omega), fun W d hbl => ?_⟩
    · rw [← l5 i hi]; exact row_at5 hh hlt
    · have hcW := ringC_block hc (hbl.block g (ringC_lt hc))
      have hhW := (hbl.block b (heap_lt hh)).trans hh
      have hc1 : RingC (put5 W b ((f + i) % Z.length * 5) d) g most f (L.set i d).length (.slice (some ⟨b, 0, none⟩) (Z.set ((f + i) % Z.length) d).length (Z.set ((f + i) % Z.length) d).length) := by
        rw [List.length_set, List.length_set]
        refine ringC_block hcW ?_
        obtain ⟨o, ho⟩ : ∃ o, W.heap[g]? = some o := ⟨_, Array.getElem?_eq_getElem (ringC_lt hcW)⟩
        rw [ho]; exact heap_put_other ho (Ne.symm hne)
      refine ⟨m1, m2, hx, f, _, Z.set ((f + i) % Z.length) d, hc1, .inr ⟨b, rfl, hb, hne, ?_, row_set5 hlt hhW⟩, lay_set' ⟨l1, l2, l3, l4, l5⟩ hi d⟩
      intro e; have := congrArg List.length e; simp at this; exact hz this
theorem rlen (X : Nat → Prop) (g most : Nat) (L : List Dg) (w : World) (h : Ring X w g most L) : Calls Try.prog 41 #[.pointer (some ⟨g, 0, none⟩)] w fun e w' => e = .returned (.int .i64 L.length) ∧ w = w' := by
  obtain ⟨m1, m2, hx, f, v, Z, ⟨h0, h1, h2, h3, f1, f2, f3⟩, hr, hl⟩ := h
  have H := Lib.hid (rnone_no g most w h0 m1)
  clear hr hl h0 h1 h3 f1 f2 f3
  generalize L.length = n at *
  go_enter Try.func41, Try.ntmps41
  go_wp2_with (go_at_call 46; refine H.out.mono ?_; rintro e w1 ⟨rfl, rfl⟩)
  go_ret
  exact ⟨rfl, rfl⟩
def atOk (L : List Dg) (i : Int) : Bool := decide (0 ≤ i ∧ i < L.length)
def atV (L : List Dg) (i : Int) : Dg := if atOk L i = true then L.getD i.toNat d0 else d0
abbrev Z49 : Obj := .cells #[Value.int .u32 0, Value.int .u16 0, Value.int .u32 0, Value.int .u16 0, Value.string ⟨#[]⟩] 49
theorem rat_no (X : Nat → Prop) (g most : Nat) (L : List Dg) (i : Int) (w : World) (h : Ring X w g most L) (hok : atOk L i = false) :
    Calls Try.prog 40 #[.pointer (some ⟨g, 0, none⟩), .int .i64 i] w fun e w' => e = .returned (.tuple #[dv d0, .bool false]) ∧ Below w.heap.size w w' := by
  have hno := of_decide_eq_false hok
  obtain ⟨m1, m2, hx, f, v, Z, ⟨h0, h1, h2, h3, f1, f2, f3⟩, hr, hl⟩ := h
  have hbl := (Below.refl w.heap.size w).alloc (Nat.le_refl _) Z49
  have H := Lib.hid (rnone_no g most (w.alloc Z49) (cell_below hbl h0) m1)
  have k2 := cell_below hbl h2
  have hg := Below.refl w.heap.size w
  by_cases hi : 0 ≤ i
  · have hn : (L.length : Int) ≤ i := by omega
    clear hr hl h0 h1 h2 h3 f1 f2 f3 hno hok hbl
    generalize L.length = n at *
    go_enter Try.func40, Try.ntmps40
    go_wp2_with (first | (go_at_call 46; refine H.out.mono ?_; rintro e w1 ⟨rfl, rfl⟩))
    go_returns
    exact ⟨rfl, by go_grown⟩
  · have hn : i < 0 := by omega
    clear hr hl h0 h1 h2 h3 f1 f2 f3 hno hok hbl
    generalize L.length = n at *
    go_enter Try.func40, Try.ntmps40
    go_wp2_with (first | (go_at_call 46; refine H.out.mono ?_; rintro e w1 ⟨rfl, rfl⟩))
    go_returns
    exact ⟨rfl, by go_grown⟩
theorem rat_yes (X : Nat → Prop) (g most : Nat) (L : List Dg) (k : Nat) (w : World) (h : Ring X w g most L) (hk : k < L.length) :
    Calls Try.prog 40 #[.pointer (some ⟨g, 0, none⟩), .int .i64 k] w fun e w' => e = .returned (.tuple #[dv (L.getD k d0), .bool true]) ∧ Below w.heap.size w w' := by
  have hbl := (Below.refl w.heap.size w).alloc (Nat.le_refl _) Z49
  have h' := ring_below h hbl
  obtain ⟨b, r, hxb, hne, hat, hcall, -⟩ := ring_at2 h' hk
  have HC := Lib.hid (hcall _ (Below.refl _ _))
  have hn : (k : Int) < (L.length : Int) := by omega
  have hlb : b < w.heap.size ∨ b = w.heap.size := by have := at5_lt hat; simp at this; omega
  have hnew := new_at5 w d0 49
  obtain ⟨m1, m2, hx, f, v, Z, ⟨h0, h1, h2, h3, f1, f2, f3⟩, hr, hl⟩ := h'
  have H := Lib.hid (rnone_no g most (w.alloc Z49) h0 m1)
  have HAT := Lib.hid hat
  have HNEW := Lib.hid hnew
  clear hr hl h0 h1 h3 f1 f2 f3 hbl h hcall hat hnew
  generalize L.getD k d0 = d at *
  generalize L.length = n at *
  have hg := Below.refl w.heap.size w
  go_enter Try.func40, Try.ntmps40
  go_wp2_with (first | (go_at_call 46; refine H.out.mono ?_; rintro e w1 ⟨rfl, rfl⟩) | (go_at_call 48; refine HC.out.mono ?_; rintro e w2 ⟨rfl, hg2⟩; obtain ⟨⟨q0, q1, q2, q3, q4⟩, -⟩ := at5_below HAT.out hg2; have hnw := at5_below HNEW.out hg2; obtain ⟨⟨s0, s1, s2, s3, s4⟩, t0, t1, t2, t3, t4⟩ := hnw))
  have hp := put5_at (at5_below HNEW.out hg2) d
  have hbb : Below w.heap.size w (put5 w2 w.heap.size 0 d) := put5_below (Below.trans ((Below.refl w.heap.size w).alloc (Nat.le_refl _) Z49) (hg2.mono (by simp))) _ _ _ (Nat.le_refl _)
  change bodyPost _ _ _ _ _ (put5 w2 w.heap.size 0 d)
  generalize put5 w2 w.heap.size 0 d = w5 at *
  obtain ⟨⟨c0, c1, c2, c3, c4⟩, -⟩ := hp
  refine bodyPost_ret (v := .tuple #[dv d, .bool true]) (by simp [results, Try.results40, go_sem, c0, c1, c2, c3, c4, dv, cs5]) rfl ?_
  exact ⟨rfl, hbb⟩
theorem rat_any (X : Nat → Prop) (g most : Nat) (L : List Dg) (i : Int) (w : World) (h : Ring X w g most L) :
    Calls Try.prog 40 #[.pointer (some ⟨g, 0, none⟩), .int .i64 i] w fun e w' => e = .returned (.tuple #[dv (atV L i), .bool (atOk L i)]) ∧ Below w.heap.size w w' := by
  cases hok : atOk L i with
  | true =>
    obtain ⟨h0, h1⟩ := of_decide_eq_true hok
    obtain ⟨k, rfl⟩ := Int.eq_ofNat_of_zero_le h0
    refine (rat_yes X g most L k w h (by omega)).mono ?_
    rintro e w' ⟨rfl, hb⟩
    exact ⟨by simp [atV, hok], hb⟩
  | false =>
    refine (rat_no X g most L i w h hok).mono ?_
    rintro e w' ⟨rfl, hb⟩
    exact ⟨by simp [atV, hok], hb⟩
end Go.Proofs.Ytfphpbhopfhlcaa.D
