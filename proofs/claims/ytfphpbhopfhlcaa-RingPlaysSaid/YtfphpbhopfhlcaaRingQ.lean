/-
  ring of ints: 'Cut' and 'Pop'.
-/
import Derived.Test.YtfphpbhopfhlcaaRingP
namespace Go.Proofs.Ytfphpbhopfhlcaa
open Go.RowKit
set_option linter.unusedVariables false
set_option linter.unusedSimpArgs false
theorem ring_at2 {X : Nat → Prop} {w : World} {g most i : Nat} {L : List Int} (h : Ring X w g most L) (hi : i < L.length) :
    ∃ b r, ¬ X b ∧ b ≠ g ∧ w.cell? ⟨b, r, none⟩ = some (.int .i64 (L.getD i 0)) ∧ w.frozen? ⟨b, r, none⟩ = false ∧
      (∀ W, Below w.heap.size w W → Calls Try.prog 30 #[.pointer (some ⟨g, 0, none⟩), .int .i64 i] W fun e w' => e = .returned (.pointer (some ⟨b, r, none⟩)) ∧ Below W.heap.size W w') ∧
      ∀ (W : World) (y : Int), Below w.heap.size w W → Ring X (W.setCell ⟨b, r, none⟩ (.int .i64 y)) g most (L.set i y) := by
  obtain ⟨m1, m2, hx, f, v, Z, hc, hr, l1, l2, l3, l4, l5⟩ := h
  rcases hr with ⟨rfl, rfl⟩ | ⟨b, rfl, hb, hne, hz, hh⟩
  · simp at l1; simp [l1] at hi
  · have hf := l4 hz
    have hlt : (f + i) % Z.length < Z.length := Nat.mod_lt _ (by omega)
    have hrc := row_cell (X := X) (g := g) hh _ hlt
    refine ⟨b, (f + i) % Z.length, hb, hne, ?_, hrc.2, fun W hbl => rcell g most f L.length b Z.length i W (ringC_block hc (hbl.block g (ringC_lt hc))) hf (by omega) (by omega), fun W y hbl => ?_⟩
    · rw [hrc.1, l5 i hi]
    · have hcW := ringC_block hc (hbl.block g (ringC_lt hc))
      have hhW := (hbl.block b (heap_lt hh)).trans hh
      have hc1 := ring_set (X := X) hcW hne hhW ((f + i) % Z.length) y
      refine ⟨m1, m2, hx, f, _, Z.set ((f + i) % Z.length) y, by rw [List.length_set]; exact hc1, .inr ⟨b, rfl, hb, hne, ?_, row_set hhW⟩, ?_, ?_, ?_, ?_, ?_⟩
      · intro e; have := congrArg List.length e; simp at this; exact hz this
      · simpa using l1
      · simpa using l2
      · intro e; have := congrArg List.length e; simp at this; exact absurd this hz
      · intro _; simpa using hf
      · intro k hk
        rw [List.length_set] at hk
        rw [List.length_set, getD_set, getD_set]
        by_cases hki : k = i
        · subst hki; rw [if_pos ⟨rfl, hlt⟩, if_pos ⟨rfl, hk⟩]
        · rw [if_neg (fun h => hki (ring_same hf (by omega) (by omega) h.1)), if_neg (fun h => hki h.1), l5 k hk]
theorem ring_open {X : Nat → Prop} {w : World} {g most : Nat} {L : List Int} (h : Ring X w g most L) (hl : 0 < L.length) :
    ∃ f b N, RingC w g most f L.length (.slice (some ⟨b, 0, none⟩) N N) ∧ f < N ∧ N ≤ 65536 ∧ ¬ X g ∧
      ∀ (W : World), Below w.heap.size w W → Ring X ((W.setCell ⟨g, 1, none⟩ (.int .i64 (((f + 1) % N : Nat) : Int))).setCell ⟨g, 2, none⟩ (.int .i64 ((L.length - 1 : Nat) : Int))) g most L.tail := by
  obtain ⟨m1, m2, hx, f, v, Z, hc, hr, l1, l2, l3, l4, l5⟩ := h
  rcases hr with ⟨rfl, rfl⟩ | ⟨b, rfl, hb, hne, hz, hh⟩
  · simp at l1; simp [l1] at hl
  · have hf := l4 hz
    refine ⟨f, b, Z.length, hc, hf, by omega, hx, fun W hbl => ?_⟩
    have hlt : (f + 1) % Z.length < Z.length := Nat.mod_lt _ (by omega)
    have hcW := ringC_block hc (hbl.block g (ringC_lt hc))
    have hhW := (hbl.block b (heap_lt hh)).trans hh
    obtain ⟨h0, h1, h2, h3, f1, f2, f3⟩ := hcW
    have hlen : L.tail.length = L.length - 1 := List.length_tail
    refine ⟨m1, m2, hx, (f + 1) % Z.length, _, Z, by rw [hlen]; exact ⟨set_other (set_other h0 (by simp)) (by simp), set_other (set_same h1) (by simp), set_same (set_other h2 (by simp)), set_other (set_other h3 (by simp)) (by simp), by simp [f1], by simp [f2], by simp [f3]⟩, .inr ⟨b, rfl, hb, hne, hz, heap_set_other (heap_set_other hhW hne) hne⟩, by omega, l2, fun e => absurd e hz, fun _ => hlt, fun i hi => ?_⟩
    rw [hlen] at hi
    have e : ((f + 1) % Z.length + i) % Z.length = (f + (i + 1)) % Z.length := by rw [Nat.mod_add_mod]; congr 1; omega
    rw [e, l5 (i + 1) (by omega)]
    simp [List.getD, List.getElem?_tail]
/-- The list while the one at k is cut, the hole at j. -/
def mid (L : List Int) (k j : Nat) : List Int := (List.range L.length).map fun t => if t ≤ j then L.getD t 0 else if t ≤ k then L.getD (t - 1) 0 else L.getD t 0
theorem mid_len (L : List Int) (k j : Nat) : (mid L k j).length = L.length := by simp [mid]
theorem mid_getD (L : List Int) (k j t : Nat) (h : t < L.length) : (mid L k j).getD t 0 = if t ≤ j then L.getD t 0 else if t ≤ k then L.getD (t - 1) 0 else L.getD t 0 := by
  simp [mid, List.getD, h]
theorem ext_getD {A B : List Int} (h : A.length = B.length) (H : ∀ t, t < A.length → A.getD t 0 = B.getD t 0) : A = B := by
  refine List.ext_getElem h fun t h1 h2 => ?_
  have := H t h1
  simpa [List.getD, h1, h2] using this
theorem mid_start (L : List Int) (k : Nat) : mid L k k = L := by
  refine ext_getD (mid_len _ _ _) fun t ht => ?_
  rw [mid_len] at ht
  rw [mid_getD _ _ _ _ ht]
  split
  · rfl
  · rfl
theorem mid_step (L : List Int) (k j : Nat) (hj : j + 1 ≤ k) (hk : k < L.length) : (mid L k (j + 1)).set (j + 1) ((mid L k (j + 1)).getD j 0) = mid L k j := by
  refine ext_getD (by simp [mid_len]) fun t ht => ?_
  rw [List.length_set, mid_len] at ht
  rw [getD_set, mid_len, mid_getD _ _ _ _ ht, mid_getD _ _ _ _ ht, mid_getD _ _ _ _ (by omega)]
  by_cases h1 : t = j + 1
  · subst h1
    rw [if_pos ⟨rfl, ht⟩, if_pos (by omega), if_neg (by omega), if_pos hj]; simp
  · rw [if_neg (fun h => h1 h.1)]
    by_cases h2 : t ≤ j
    · rw [if_pos (by omega), if_pos h2]
    · rw [if_neg (by omega), if_neg h2]
theorem mid_end (L : List Int) (k : Nat) (hk : k < L.length) : ((mid L k 0).set 0 0).tail = L.eraseIdx k := by
  refine ext_getD (by simp [mid_len, List.length_eraseIdx, hk]) fun t ht => ?_
  rw [List.length_tail, List.length_set, mid_len] at ht
  have e1 : ((mid L k 0).set 0 0).tail.getD t 0 = ((mid L k 0).set 0 0).getD (t + 1) 0 := by simp [List.getD, List.getElem?_tail]
  have e2 : (L.eraseIdx k).getD t 0 = if t < k then L.getD t 0 else L.getD (t + 1) 0 := by
    simp only [List.getD, List.getElem?_eraseIdx]
    split <;> rfl
  rw [e1, getD_set, if_neg (by omega), mid_getD _ _ _ _ (by omega), if_neg (by omega), e2]
  by_cases h : t < k
  · rw [if_pos (by omega), if_pos h, Nat.add_sub_cancel]
  · rw [if_neg (by omega), if_neg h]
def cutL (L : List Int) (i : Int) : List Int := if atOk L i = true then L.eraseIdx i.toNat else L
theorem rcut_no (X : Nat → Prop) (g most : Nat) (L : List Int) (i : Int) (w : World) (h : Ring X w g most L) (hok : atOk L i = false) :
    Calls Try.prog 14 #[.pointer (some ⟨g, 0, none⟩), .int .i64 i] w fun e w' => e = .returned (.tuple #[.int .i64 0, .bool false]) ∧ Below w.heap.size w w' := by
  have HA := rat_any X g most L i w h
  have hv : atV L i = 0 := by simp [atV, hok]
  rw [hok, hv] at HA
  have H := Lib.hid HA
  clear h HA hv hok
  go_enter Try.func14, Try.ntmps14
  go_wp2_with (go_at_call 32; refine H.out.mono ?_; rintro e w1 ⟨rfl, hg1⟩)
  go_ret2
  exact ⟨rfl, hg1⟩
theorem rcut_yes (X : Nat → Prop) (g most : Nat) (L : List Int) (k : Nat) (w : World) (h : Ring X w g most L) (hk : k < L.length) :
    Calls Try.prog 14 #[.pointer (some ⟨g, 0, none⟩), .int .i64 k] w fun e w' => e = .returned (.tuple #[.int .i64 (L.getD k 0), .bool true]) ∧ Ring X w' g most (L.eraseIdx k) ∧ Kept X w w' := by
  have HA := rat_any X g most L k w h
  have hok : atOk L (k : Int) = true := decide_eq_true ⟨by omega, by omega⟩
  have hv : atV L (k : Int) = L.getD k 0 := by simp [atV, hok]
  rw [hok, hv] at HA
  have H := Lib.hid HA
  have HR := Lib.hid h
  have hlen := Lib.hid (ring_len h)
  clear h HA hv hok
  have HK := Lib.hid hk
  have hk65 : k < 65536 := by have := hlen.out; omega
  generalize hx : L.getD k 0 = x at *
  clear hx hk
  go_enter Try.func14, Try.ntmps14
  go_wp2_with (go_at_call 32; refine H.out.mono ?_; rintro e w1 ⟨rfl, hg1⟩)
  go_loopw [6] (fun i wr => ∃ j : Nat, j ≤ k ∧ i = .int .i64 j ∧ Ring X wr g most (mid L k j) ∧ Kept X w wr) (fun i _ => (intOf i).toNat)
  case atStart => exact ⟨k, Nat.le_refl _, rfl, by rw [mid_start]; exact ring_below HR.out hg1, Kept.of_below hg1⟩
  case round =>
    obtain ⟨j, hj, rfl, hrr, hkr⟩ := hrel
    by_cases hj0 : 0 < j
    · obtain ⟨j, rfl⟩ : ∃ j', j = j' + 1 := ⟨j - 1, by omega⟩
      have hml := mid_len L k (j + 1)
      have hkl := HK.out
      obtain ⟨b, r, hxb, hne, hcl, hfz, hcall, hset⟩ := ring_at2 hrr (i := j + 1) (by omega)
      obtain ⟨b2, r2, hxb2, hne2, hcl2, hfz2, hcall2, hset2⟩ := ring_at2 hrr (i := j) (by omega)
      have HSET : Hid (∀ W, Below wr.heap.size wr W → Ring X (W.setCell ⟨b, r, none⟩ (.int .i64 ((mid L k (j + 1)).getD j 0))) g most (mid L k j)) :=
        fun W hb => by rw [← mid_step L k j hj hkl]; exact hset W _ hb
      have HC1 := Lib.hid (hcall wr (Below.refl _ _))
      have HC2 := Lib.hid hcall2
      have HKR := Lib.hid hkr
      generalize (mid L k (j + 1)).getD j 0 = y at *
      generalize (mid L k (j + 1)).getD (j + 1) 0 = y1 at *
      clear hset hset2 hcall hcall2 hkr hrr hml hkl hj0 hfz2
      go_wp2_with fail
      refine HC1.out.mono ?_
      rintro e w2 ⟨rfl, hg2⟩
      go_wp2_with fail
      refine (HC2.out w2 hg2).mono ?_
      rintro e w3 ⟨rfl, hg3⟩
      have hg4 := Below.trans hg2 (hg3.mono hg2.size)
      have e1 := cell_below hg4 hcl
      have e2 := (hg4.frozen (p := ⟨b, r, none⟩) (World.block_lt_of_cell? _ _ hcl)).trans hfz
      have e3 := cell_below hg4 hcl2
      have HB := Lib.hid hg4
      clear hg4 hg3 hg2 hcl hcl2 hfz
      go_wp2
      go_roundw
      case rel => exact ⟨j, by omega, by go_num, HSET.out _ HB.out, ((HKR.out.trans (Kept.of_below HB.out)).set _ _ _ hxb)⟩
      case measure => simp [intOf]
    · obtain rfl : j = 0 := by omega
      have hml := mid_len L k 0
      have hkl := HK.out
      obtain ⟨b, r, hxb, hne, hcl, hfz, hcall, hset⟩ := ring_at2 hrr (i := 0) (by omega)
      have HSET := Lib.hid hset
      have HC1 := Lib.hid (hcall wr (Below.refl _ _))
      have HKR := Lib.hid hkr
      have HME := Lib.hid (mid_end L k hkl)
      have HML := Lib.hid hml
      generalize (mid L k 0).getD 0 0 = y1 at *
      clear hset hcall hkr hrr hml hkl hj0
      go_wp2_with fail
      refine HC1.out.mono ?_
      rintro e w2 ⟨rfl, hg2⟩
      have e1 := cell_below hg2 hcl
      have e2 := (hg2.frozen (p := ⟨b, r, none⟩) (World.block_lt_of_cell? _ _ hcl)).trans hfz
      have HB := Lib.hid hg2
      clear hg2 hcl hfz
      go_wp2
      have hr4 := HSET.out w2 0 HB.out
      have hk4 := Lib.hid ((HKR.out.trans (Kept.of_below HB.out)).set b r (.int .i64 0) hxb)
      generalize hw4 : w2.setCell _ _ = w4 at *
      obtain ⟨f, b5, N, hc5, hf5, hN5, hxg, hopen⟩ := ring_open hr4 (by rw [List.length_set, HML.out]; have := HK.out; omega)
      rw [List.length_set, HML.out] at hc5 hopen
      rw [HME.out] at hopen
      have HO := Lib.hid hopen
      obtain ⟨h0, h1, h2, h3, f1, f2, f3⟩ := hc5
      have ht : Int.tmod ((f : Int) + 1) (N : Int) = (((f + 1) % N : Nat) : Int) := by rw [Int.tmod_eq_emod_of_nonneg (by omega)]; simp
      have hN0 : ¬ ((N : Int) = 0) := by omega
      have hm : ((L.length : Int) - 1) = ((L.length - 1 : Nat) : Int) := by have := HK.out; omega
      have hL := hlen.out
      have hL1 : 1 ≤ L.length := by have := HK.out; omega
      generalize (f + 1) % N = rr at *
      generalize L.length = ln at *
      clear hr4 hopen e1 e2 hw4
      go_region
      go_wp2
      go_ret2
      exact ⟨rfl, ring_below (HO.out w4 (Below.refl _ _)) (Below.refl _ _).drew, ((hk4.out.set _ _ _ hxg).set _ _ _ hxg).trans (Kept.of_below (Below.refl _ _).drew)⟩
def CutRes (X : Nat → Prop) (g most : Nat) (L : List Int) (i : Int) (w : World) (e : Ending) (w' : World) : Prop :=
  e = .returned (.tuple #[.int .i64 (atV L i), .bool (atOk L i)]) ∧ Ring X w' g most (cutL L i) ∧ Kept X w w'
theorem rcut_any (X : Nat → Prop) (g most : Nat) (L : List Int) (i : Int) (w : World) (h : Ring X w g most L) :
    Calls Try.prog 14 #[.pointer (some ⟨g, 0, none⟩), .int .i64 i] w (CutRes X g most L i w) := by
  cases hok : atOk L i with
  | true =>
    obtain ⟨h0, h1⟩ := of_decide_eq_true hok
    obtain ⟨k, rfl⟩ := Int.eq_ofNat_of_zero_le h0
    refine (rcut_yes X g most L k w h (by omega)).mono ?_
    rintro e w' ⟨rfl, hr, hk⟩
    exact ⟨by simp [atV, hok], by simpa [cutL, hok] using hr, hk⟩
  | false =>
    refine (rcut_no X g most L i w h hok).mono ?_
    rintro e w' ⟨rfl, hb⟩
    exact ⟨by simp [atV, hok], by simpa [cutL, hok] using ring_below h hb, Kept.of_below hb⟩
theorem rpop_any (X : Nat → Prop) (g most : Nat) (L : List Int) (w : World) (h : Ring X w g most L) :
    Calls Try.prog 10 #[.pointer (some ⟨g, 0, none⟩)] w (CutRes X g most L 0 w) := by
  have H := Lib.hid (rcut_any X g most L 0 w h)
  unfold CutRes at *
  clear h
  generalize atV L 0 = x at *
  generalize atOk L 0 = o at *
  generalize cutL L 0 = l at *
  go_enter Try.func10, Try.ntmps10
  go_wp2_with (go_at_call 14; refine H.out.mono ?_; rintro e w1 ⟨rfl, hr, hk⟩)
  go_ret2
  exact ⟨rfl, hr, hk⟩
end Go.Proofs.Ytfphpbhopfhlcaa
