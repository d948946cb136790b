/-
  ring of datagrams: 'Cut'.
-/
import Derived.Test.YtfphpbhopfhlcaaRingDP
import Derived.Test.YtfphpbhopfhlcaaRingQ
import Derived.Deep.CutRange
namespace Go.Proofs.Ytfphpbhopfhlcaa.D
open Go.RowKit
set_option linter.unusedVariables false
set_option linter.unusedSimpArgs false
theorem ring_open {X : Nat → Prop} {w : World} {g most : Nat} {L : List Dg} (h : Ring X w g most L) (hl : 0 < L.length) :
    ∃ f b N, RingC w g most f L.length (.slice (some ⟨b, 0, none⟩) N N) ∧ f < N ∧ N ≤ 65536 ∧ ¬ X g ∧
      ∀ (W : World), Below w.heap.size w W → Ring X ((W.setCell ⟨g, 1, none⟩ (.int .i64 (((f + 1) % N : Nat) : Int))).setCell ⟨g, 2, none⟩ (.int .i64 ((L.length - 1 : Nat) : Int))) g most L.tail := by
  obtain ⟨m1, m2, hx, f, v, Z, hc, hr, l1, l2, l3, l4, l5⟩ := h
  rcases hr with ⟨rfl, rfl⟩ | ⟨b, rfl, hb, hne, hz, hh⟩
  · simp at l1; simp [l1] at hl
  · have hf := l4 hz
    refine ⟨f, b, Z.length, hc, hf, by omega, hx, fun W hbl => ?_⟩
    have hlt : (f + 1) % Z.length < Z.length := Nat.mod_lt _ (by omega)
    have hcW := ringC_block hc (hbl.block g (ringC_lt hc))
    have hhW := (hbl.block b (heap_lt hh)).trans hh
    obtain ⟨h0, h1, h2, h3, f1, f2, f3⟩ := hcW
    have hlen : L.tail.length = L.length - 1 := List.length_tail
    refine ⟨m1, m2, hx, (f + 1) % Z.length, _, Z, by rw [hlen]; exact ⟨set_other (set_other h0 (by simp)) (by simp), set_other (set_same h1) (by simp), set_same (set_other h2 (by simp)), set_other (set_other h3 (by simp)) (by simp), by simp [f1], by simp [f2], by simp [f3]⟩, .inr ⟨b, rfl, hb, hne, hz, heap_set_other (heap_set_other hhW hne) hne⟩, by omega, l2, fun e => absurd e hz, fun _ => hlt, fun i hi => ?_⟩
    rw [hlen] at hi
    have e : ((f + 1) % Z.length + i) % Z.length = (f + (i + 1)) % Z.length := by rw [Nat.mod_add_mod]; congr 1; omega
    rw [e, l5 (i + 1) (by omega)]
    simp [List.getD, List.getElem?_tail]
/-- The list while the one at k is cut, the hole at j. -/
def mid (L : List Dg) (k j : Nat) : List Dg := (List.range L.length).map fun t => if t ≤ j then L.getD t d0 else if t ≤ k then L.getD (t - 1) d0 else L.getD t d0
theorem mid_len (L : List Dg) (k j : Nat) : (mid L k j).length = L.length := by simp [mid]
theorem mid_getD (L : List Dg) (k j t : Nat) (h : t < L.length) : (mid L k j).getD t d0 = if t ≤ j then L.getD t d0 else if t ≤ k then L.getD (t - 1) d0 else L.getD t d0 := by
  simp [mid, List.getD, h]
theorem ext_getD {A B : List Dg} (h : A.length = B.length) (H : ∀ t, t < A.length → A.getD t d0 = B.getD t d0) : A = B := by
  refine List.ext_getElem h fun t h1 h2 => ?_
  have := H t h1
  simpa [List.getD, h1, h2] using this
theorem mid_start (L : List Dg) (k : Nat) : mid L k k = L := by
  refine ext_getD (mid_len _ _ _) fun t ht => ?_
  rw [mid_len] at ht
  rw [mid_getD _ _ _ _ ht]
  split
  · rfl
  · rfl
theorem mid_step (L : List Dg) (k j : Nat) (hj : j + 1 ≤ k) (hk : k < L.length) : (mid L k (j + 1)).set (j + 1) ((mid L k (j + 1)).getD j d0) = mid L k j := by
  refine ext_getD (by simp [mid_len]) fun t ht => ?_
  rw [List.length_set, mid_len] at ht
  rw [getD_setD, mid_len, mid_getD _ _ _ _ ht, mid_getD _ _ _ _ ht, mid_getD _ _ _ _ (by omega)]
  by_cases h1 : t = j + 1
  · subst h1
    rw [if_pos ⟨rfl, ht⟩, if_pos (by omega), if_neg (by omega), if_pos hj]; simp
  · rw [if_neg (fun h => h1 h.1)]
    by_cases h2 : t ≤ j
    · rw [if_pos (by omega), if_pos h2]
    · rw [if_neg (by omega), if_neg h2]
theorem mid_end (L : List Dg) (k : Nat) (hk : k < L.length) : ((mid L k 0).set 0 d0).tail = L.eraseIdx k := by
  refine ext_getD (by simp [mid_len, List.length_eraseIdx, hk]) fun t ht => ?_
  rw [List.length_tail, List.length_set, mid_len] at ht
  have e1 : ((mid L k 0).set 0 d0).tail.getD t d0 = ((mid L k 0).set 0 d0).getD (t + 1) d0 := by simp [List.getD, List.getElem?_tail]
  have e2 : (L.eraseIdx k).getD t d0 = if t < k then L.getD t d0 else L.getD (t + 1) d0 := by
    simp only [List.getD, List.getElem?_eraseIdx]
    split <;> rfl
  rw [e1, getD_setD, if_neg (by omega), mid_getD _ _ _ _ (by omega), if_neg (by omega), e2]
  by_cases h : t < k
  · rw [if_pos (by omega), if_pos h, Nat.add_sub_cancel]
  · rw [if_neg (by omega), if_neg h]
def cutL (L : List Dg) (i : Int) : List Dg := if atOk L i = true then L.eraseIdx i.toNat else L
theorem rcut_no (X : Nat → Prop) (g most : Nat) (L : List Dg) (i : Int) (w : World) (h : Ring X w g most L) (hok : atOk L i = false) :
    Calls Try.prog 39 #[.pointer (some ⟨g, 0, none⟩), .int .i64 i] w fun e w' => e = .returned (.tuple #[dv d0, .bool false]) ∧ Below w.heap.size w w' := by
  have hbl := (Below.refl w.heap.size w).alloc (Nat.le_refl _) Z49
  have HA := rat_no X g most L i _ (ring_below h hbl) hok
  have HNEW : Hid (At5 (w.alloc Z49) w.heap.size 0 d0) := new_at5 w d0 49
  unfold dv cs5 at HA
  have H := Lib.hid HA
  clear h HA hok hbl
  go_enter Try.func39, Try.ntmps39
  go_upto_region 3 with (go_at_call 40; refine H.out.mono ?_; rintro e w1 ⟨rfl, hg1⟩; obtain ⟨⟨s0, s1, s2, s3, s4⟩, t0, t1, t2, t3, t4⟩ := at5_below HNEW.out hg1)
  have hp := put5_at (at5_below HNEW.out hg1) d0
  have hbb : Below w.heap.size w (put5 w1 w.heap.size 0 d0) := put5_below (Below.trans ((Below.refl w.heap.size w).alloc (Nat.le_refl _) Z49) (hg1.mono (by simp))) _ _ _ (Nat.le_refl _)
  change Code.wp _ _ _ _ (put5 w1 w.heap.size 0 d0)
  generalize put5 w1 w.heap.size 0 d0 = w2 at *
  have hp2 := put5_at hp d0
  have hbb2 : Below w.heap.size w (put5 w2 w.heap.size 0 d0) := put5_below hbb _ _ _ (Nat.le_refl _)
  clear s0 s1 s2 s3 s4 t0 t1 t2 t3 t4
  obtain ⟨⟨s0, s1, s2, s3, s4⟩, t0, t1, t2, t3, t4⟩ := hp
  have HP2 := Lib.hid hp2
  have HB2 := Lib.hid hbb2
  clear hp2 hbb2 hbb hg1
  go_wp2
  have hp2 := HP2.out
  have hbb2 := HB2.out
  change bodyPost _ _ _ _ _ (put5 w2 w.heap.size 0 d0)
  generalize put5 w2 w.heap.size 0 d0 = w5 at *
  obtain ⟨⟨c0, c1, c2, c3, c4⟩, -⟩ := hp2
  refine bodyPost_ret (v := .tuple #[dv d0, .bool false]) (by simp [results, Try.results39, go_sem, c0, c1, c2, c3, c4, dv, cs5]) rfl ?_
  exact ⟨rfl, hbb2⟩
theorem kept_at5 {X : Nat → Prop} {w w' : World} {b o : Nat} {d : Dg} (h : At5 w b o d) (hk : Kept X w w') (hx : X b) : At5 w' b o d := at5_block h (hk.block b hx (at5_lt h))
set_option maxHeartbeats 1000000 in
theorem rcut_yes (X : Nat → Prop) (g most : Nat) (L : List Dg) (k : Nat) (w : World) (h : Ring X w g most L) (hk : k < L.length) (hX : ∀ k, X k → k < w.heap.size) :
    Calls Try.prog 39 #[.pointer (some ⟨g, 0, none⟩), .int .i64 k] w fun e w' => e = .returned (.tuple #[dv (L.getD k d0), .bool true]) ∧ Ring X w' g most (L.eraseIdx k) ∧ Kept X w w' := by
  have hbl := (Below.refl w.heap.size w).alloc (Nat.le_refl _) Z49
  have hwid : Ring (fun k => X k ∨ k = w.heap.size) (w.alloc Z49) g most L := ring_widen h hbl (fun k hk => hk.elim .inl (fun e => .inr (by omega)))
  have HA := rat_yes X g most L k _ (ring_below h hbl) hk
  have HNEW : Hid (At5 (w.alloc Z49) w.heap.size 0 d0) := new_at5 w d0 49
  have HKX : Hid (Kept X w (w.alloc Z49)) := Kept.of_below hbl
  have hlen := Lib.hid (ring_len h)
  have hglt : g < w.heap.size := ring_lt h
  have HR := Lib.hid hwid
  have HK := Lib.hid hk
  have hk65 : k < 65536 := by have := hlen.out; omega
  generalize hx : L.getD k d0 = x at *
  have XX : Hid (L.getD k d0 = x) := hx
  unfold dv cs5 at HA
  have H := Lib.hid HA
  clear hx hk h HA hwid hbl
  have hgs : g ≠ w.heap.size := by omega
  go_enter Try.func39, Try.ntmps39
  go_wp2_with (go_at_call 40; refine H.out.mono ?_; rintro e w1 ⟨rfl, hg1⟩; obtain ⟨⟨s0, s1, s2, s3, s4⟩, t0, t1, t2, t3, t4⟩ := at5_below HNEW.out hg1)
  have hp := put5_at (at5_below HNEW.out hg1) x
  have hring2 : Ring (fun k => X k ∨ k = w.heap.size) (put5 w1 w.heap.size 0 x) g most L := by
    refine ring_kept (ring_below HR.out hg1) (fun k hk hnx => ?_)
    obtain ⟨ob, ho⟩ : ∃ ob, w1.heap[k]? = some ob := ⟨_, Array.getElem?_eq_getElem hk⟩
    rw [ho]; exact heap_put_other ho (fun e => hnx (.inr e))
  have hkp : Kept X w (put5 w1 w.heap.size 0 x) := Kept.put5 (HKX.out.trans (Kept.of_below hg1)) _ _ _ (fun hxx => by have := hX _ hxx; omega)
  have hs2 : w.heap.size < (put5 w1 w.heap.size 0 x).heap.size := at5_lt hp
  change Code.wp _ _ _ _ (put5 w1 w.heap.size 0 x)
  generalize put5 w1 w.heap.size 0 x = w2 at *
  have HNX : Hid (¬ X w.heap.size) := fun hxx => by have := hX _ hxx; omega
  generalize hs4' : w.heap.size = s4' at *
  have HP := Lib.hid hp
  have HR2 := Lib.hid hring2
  have HKP := Lib.hid hkp
  clear s0 s1 s2 s3 s4 t0 t1 t2 t3 t4 hp hring2 hkp
  go_loopw [6] (fun i wr => ∃ j : Nat, j ≤ k ∧ i = .int .i64 j ∧ Ring (fun k => X k ∨ k = s4') wr g most (mid L k j) ∧ Kept (fun k => X k ∨ k = s4') w2 wr) (fun i _ => (intOf i).toNat)
  case atStart => exact ⟨k, Nat.le_refl _, rfl, by rw [mid_start]; exact HR2.out, Kept.refl _ _⟩
  case round =>
    obtain ⟨j, hj, rfl, hrr, hkr⟩ := hrel
    by_cases hj0 : 0 < j
    · obtain ⟨j, rfl⟩ : ∃ j', j = j' + 1 := ⟨j - 1, by omega⟩
      have hml := mid_len L k (j + 1)
      have hkl := HK.out
      obtain ⟨b, r, hxb, hne, hat, hcall, hset⟩ := ring_at2 hrr (i := j + 1) (by omega)
      obtain ⟨b2, r2, hxb2, hne2, hat2, hcall2, hset2⟩ := ring_at2 hrr (i := j) (by omega)
      have HSET : Hid (∀ W, Below wr.heap.size wr W → Ring (fun k => X k ∨ k = s4') (put5 W b r ((mid L k (j + 1)).getD j d0)) g most (mid L k j)) :=
        fun W hb => by rw [← mid_step L k j hj hkl]; exact hset W _ hb
      have HC1 := Lib.hid (hcall wr (Below.refl _ _))
      have HC2 := Lib.hid hcall2
      have HKR := Lib.hid hkr
      have HAT := Lib.hid hat
      have HAT2 := Lib.hid hat2
      generalize (mid L k (j + 1)).getD j d0 = y at *
      generalize (mid L k (j + 1)).getD (j + 1) d0 = y1 at *
      clear hset hset2 hcall hcall2 hkr hrr hml hkl hj0 hat hat2
      go_wp2_with fail
      refine HC1.out.mono ?_
      rintro e w3 ⟨rfl, hg3⟩
      go_wp2_with fail
      refine (HC2.out w3 hg3).mono ?_
      rintro e w4 ⟨rfl, hg4⟩
      have HB : Hid (Below wr.heap.size wr w4) := Below.trans hg3 (hg4.mono hg3.size)
      obtain ⟨⟨-, -, -, -, -⟩, z0, z1, z2, z3, z4⟩ := at5_below HAT.out HB.out
      obtain ⟨⟨e0, e1, e2, e3, e4⟩, -⟩ := at5_below HAT.out HB.out
      obtain ⟨⟨q0, q1, q2, q3, q4⟩, -⟩ := at5_below HAT2.out HB.out
      clear hg4 hg3
      go_wp2
      have hs5 := HSET.out _ HB.out
      have hk5 : Kept (fun k => X k ∨ k = s4') w2 (put5 w4 b r y) := Kept.put5 (HKR.out.trans (Kept.of_below HB.out)) _ _ _ hxb
      go_roundw
      case rel => exact ⟨j, by omega, by go_num, hs5, hk5⟩
      case measure => simp [intOf]
    · obtain rfl : j = 0 := by omega
      have hml := mid_len L k 0
      have hkl := HK.out
      have hba := (Below.refl wr.heap.size wr).alloc (Nat.le_refl _) Z49
      have hT7 : At5 (wr.alloc Z49) wr.heap.size 0 d0 := new_at5 wr d0 49
      obtain ⟨b, r, hxb, hne, hat, hcall, hset⟩ := ring_at2 (ring_below hrr hba) (i := 0) (by omega)
      have hkr2 := hkr.trans (Kept.of_below hba)
      have HSET := Lib.hid hset
      have HC1 := Lib.hid hcall
      have HKR := Lib.hid hkr2
      have HME := Lib.hid (mid_end L k hkl)
      have HML := Lib.hid hml
      have HAT := Lib.hid hat
      have HT7 := Lib.hid hT7
      generalize (mid L k 0).getD 0 d0 = y1 at *
      clear hset hcall hkr hkr2 hrr hml hkl hj0 hat hT7 hba
      go_wp2
      generalize hwa : wr.alloc _ = wa at *
      generalize hs7 : wr.heap.size = s7 at *
      clear hwa hs7
      obtain ⟨⟨x0, x1, x2, x3, x4⟩, -⟩ := HT7.out
      refine wp_region_any (by kernel_rfl) ?_
      (try (change wpAny _ _ _ _ _ _ _ (World.drew _)))
      refine wpAny_take (i := 0) (oi := _) (v := ?_) (by simp only [List.getElem?_toArray, List.getElem?_cons_succ, List.getElem?_cons_zero]; rfl) (by kernel_rfl) (by kernel_rfl) (by kernel_rfl) (by intro _ _ _ h; exact h) (Or.inl ⟨by rfl, ?_⟩) ?_
      rotate_left
      focus (intro w; go_simp; try with_reducible rfl)
      (try simp only [Act.put, List.setIfInBounds_toArray, List.set_cons_zero, List.set_cons_succ])
      refine wpAny_ready (rs := [1, 2]) (by kernel_rfl) (by simp) ?_
      refine AllReady.cons rfl (fun K hK => ?_) ?_
      · go_simp
        go_wp2_with (first
            | (go_at_call 48; refine (HC1.out _ (Below.refl _ _).drew).mono ?_; rintro e w6 ⟨rfl, hg2⟩; have hg3 := Below.trans (Below.refl _ _).drew hg2; obtain ⟨⟨y0, y1, y2, y3, y4⟩, z0, z1, z2, z3, z4⟩ := at5_below HAT.out hg3; obtain ⟨⟨x0, x1, x2, x3, x4⟩, -⟩ := at5_below HT7.out hg3))
        (try simp only [Act.put, List.setIfInBounds_toArray, List.set_cons_zero, List.set_cons_succ])
        refine wpAny_ready (rs := [2]) (by kernel_rfl) (by simp) ?_
        refine AllReady.cons rfl (fun K hK => ?_) ?_
        · go_simp
          (refine hK _ _ ?_; clear hK K)
          (try simp only [Act.put, List.setIfInBounds_toArray, List.set_cons_zero, List.set_cons_succ])
          refine wpAny_take (i := 3) (oi := _) (v := ?_) (by simp only [List.getElem?_toArray, List.getElem?_cons_succ, List.getElem?_cons_zero]; rfl) (by kernel_rfl) (by kernel_rfl) (by kernel_rfl) (by intro _ _ _ h; exact h) (Or.inl ⟨by rfl, ?_⟩) ?_
          rotate_left
          focus (intro w; go_simp; try with_reducible rfl)
          (try simp only [Act.put, List.setIfInBounds_toArray, List.set_cons_zero, List.set_cons_succ])
          refine wpAny_ready (rs := [4]) (by kernel_rfl) (by simp) ?_
          refine AllReady.cons rfl (fun K hK => ?_) ?_
          · go_simp
            (refine hK _ _ ?_; clear hK K)
            (try simp only [Act.put, List.setIfInBounds_toArray, List.set_cons_zero, List.set_cons_succ])
            refine wpAny_done (by kernel_rfl) ?_ _
            have hs6 := HSET.out w6 d0 hg3
            have hk6 : Kept (fun k => X k ∨ k = s4') w2 (put5 w6 b r d0) := Kept.put5 (HKR.out.trans (Kept.of_below hg3)) b r d0 hxb
            change Exit.then _ _ _ _ (put5 w6 b r d0)
            generalize put5 w6 b r d0 = w7 at *
            clear y0 y1 y2 y3 y4 z0 z1 z2 z3 z4 x0 x1 x2 x3 x4 hg2 hg3
            obtain ⟨f, b5, N, hc5, hf5, hN5, hxg, hopen⟩ := ring_open hs6 (by rw [List.length_set, HML.out]; have := HK.out; omega)
            rw [List.length_set, HML.out] at hc5 hopen
            rw [HME.out] at hopen
            have HO := Lib.hid hopen
            have HK6 := Lib.hid hk6
            obtain ⟨h0, h1, h2, h3, f1, f2, f3⟩ := hc5
            have ht : Int.tmod ((f : Int) + 1) (N : Int) = (((f + 1) % N : Nat) : Int) := by rw [Int.tmod_eq_emod_of_nonneg (by omega)]; simp
            have hN0 : ¬ ((N : Int) = 0) := by omega
            have hm : ((L.length : Int) - 1) = ((L.length - 1 : Nat) : Int) := by have := HK.out; omega
            have hL := hlen.out
            have hL1 : 1 ≤ L.length := by have := HK.out; omega
            generalize (f + 1) % N = rr at *
            generalize L.length = ln at *
            clear hs6 hopen hk6
            go_wp2
            go_region
            have hs8 := ring_below (HO.out w7 (Below.refl _ _)) (Below.refl _ _).drew
            have hk8 := (((HK6.out.set g 1 (.int .i64 rr) hxg).set g 2 (.int .i64 ((ln - 1 : Nat) : Int)) hxg)).trans (Kept.of_below (Below.refl _ _).drew)
            generalize World.drew _ = w8 at *
            have hp8 := kept_at5 HP.out hk8 (.inr rfl)
            have HS8 := Lib.hid hs8
            have HK8 := Lib.hid hk8
            have HP9 := Lib.hid (put5_at hp8 x)
            obtain ⟨⟨s0, s1, s2, s3, s4⟩, t0, t1, t2, t3, t4⟩ := hp8
            clear hs8 hk8 h0 h1 h2 h3 f1 f2 f3 ht hN0 hm
            go_wp2
            have hp9 := HP9.out
            have hk9 : Kept X w (put5 w8 s4' 0 x) := Kept.put5 (HKP.out.trans (HK8.out.mono (fun k h => .inl h))) _ _ _ HNX.out
            have hs9 : Ring X (put5 w8 s4' 0 x) g most (L.eraseIdx k) := by
              refine ring_narrow (Y := fun k => X k ∨ k = s4') (ring_kept HS8.out (fun k hk hnx => ?_)) (fun k h => .inl h)
              obtain ⟨ob, ho⟩ : ∃ ob, w8.heap[k]? = some ob := ⟨_, Array.getElem?_eq_getElem hk⟩
              rw [ho]; exact heap_put_other ho (fun e => hnx (.inr e))
            change bodyPost _ _ _ _ _ (put5 w8 s4' 0 x)
            generalize put5 w8 s4' 0 x = w9 at *
            obtain ⟨⟨c0, c1, c2, c3, c4⟩, -⟩ := hp9
            refine bodyPost_ret (v := .tuple #[dv x, .bool true]) (by simp [results, Try.results39, go_sem, c0, c1, c2, c3, c4, dv, cs5]) rfl ?_
            exact ⟨rfl, hs9, hk9⟩
          exact AllReady.nil
        exact AllReady.nil
      refine AllReady.cons rfl (fun K hK => ?_) ?_
      · go_simp
        (refine hK _ _ ?_; clear hK K)
        (try simp only [Act.put, List.setIfInBounds_toArray, List.set_cons_zero, List.set_cons_succ])
        refine wpAny_ready (rs := [1]) (by kernel_rfl) (by simp) ?_
        refine AllReady.cons rfl (fun K hK => ?_) ?_
        · go_simp
          go_wp2_with (first
              | (go_at_call 48; refine (HC1.out _ (Below.refl _ _).drew).mono ?_; rintro e w6 ⟨rfl, hg2⟩; have hg3 := Below.trans (Below.refl _ _).drew hg2; obtain ⟨⟨y0, y1, y2, y3, y4⟩, z0, z1, z2, z3, z4⟩ := at5_below HAT.out hg3; obtain ⟨⟨x0, x1, x2, x3, x4⟩, -⟩ := at5_below HT7.out hg3))
          (try simp only [Act.put, List.setIfInBounds_toArray, List.set_cons_zero, List.set_cons_succ])
          refine wpAny_take (i := 3) (oi := _) (v := ?_) (by simp only [List.getElem?_toArray, List.getElem?_cons_succ, List.getElem?_cons_zero]; rfl) (by kernel_rfl) (by kernel_rfl) (by kernel_rfl) (by intro _ _ _ h; exact h) (Or.inl ⟨by rfl, ?_⟩) ?_
          rotate_left
          focus (intro w; go_simp; try with_reducible rfl)
          (try simp only [Act.put, List.setIfInBounds_toArray, List.set_cons_zero, List.set_cons_succ])
          refine wpAny_ready (rs := [4]) (by kernel_rfl) (by simp) ?_
          refine AllReady.cons rfl (fun K hK => ?_) ?_
          · go_simp
            (refine hK _ _ ?_; clear hK K)
            (try simp only [Act.put, List.setIfInBounds_toArray, List.set_cons_zero, List.set_cons_succ])
            refine wpAny_done (by kernel_rfl) ?_ _
            have hs6 := HSET.out w6 d0 hg3
            have hk6 : Kept (fun k => X k ∨ k = s4') w2 (put5 w6 b r d0) := Kept.put5 (HKR.out.trans (Kept.of_below hg3)) b r d0 hxb
            change Exit.then _ _ _ _ (put5 w6 b r d0)
            generalize put5 w6 b r d0 = w7 at *
            clear y0 y1 y2 y3 y4 z0 z1 z2 z3 z4 x0 x1 x2 x3 x4 hg2 hg3
            obtain ⟨f, b5, N, hc5, hf5, hN5, hxg, hopen⟩ := ring_open hs6 (by rw [List.length_set, HML.out]; have := HK.out; omega)
            rw [List.length_set, HML.out] at hc5 hopen
            rw [HME.out] at hopen
            have HO := Lib.hid hopen
            have HK6 := Lib.hid hk6
            obtain ⟨h0, h1, h2, h3, f1, f2, f3⟩ := hc5
            have ht : Int.tmod ((f : Int) + 1) (N : Int) = (((f + 1) % N : Nat) : Int) := by rw [Int.tmod_eq_emod_of_nonneg (by omega)]; simp
            have hN0 : ¬ ((N : Int) = 0) := by omega
            have hm : ((L.length : Int) - 1) = ((L.length - 1 : Nat) : Int) := by have := HK.out; omega
            have hL := hlen.out
            have hL1 : 1 ≤ L.length := by have := HK.out; omega
            generalize (f + 1) % N = rr at *
            generalize L.length = ln at *
            clear hs6 hopen hk6
            go_wp2
            go_region
            have hs8 := ring_below (HO.out w7 (Below.refl _ _)) (Below.refl _ _).drew
            have hk8 := (((HK6.out.set g 1 (.int .i64 rr) hxg).set g 2 (.int .i64 ((ln - 1 : Nat) : Int)) hxg)).trans (Kept.of_below (Below.refl _ _).drew)
            generalize World.drew _ = w8 at *
            have hp8 := kept_at5 HP.out hk8 (.inr rfl)
            have HS8 := Lib.hid hs8
            have HK8 := Lib.hid hk8
            have HP9 := Lib.hid (put5_at hp8 x)
            obtain ⟨⟨s0, s1, s2, s3, s4⟩, t0, t1, t2, t3, t4⟩ := hp8
            clear hs8 hk8 h0 h1 h2 h3 f1 f2 f3 ht hN0 hm
            go_wp2
            have hp9 := HP9.out
            have hk9 : Kept X w (put5 w8 s4' 0 x) := Kept.put5 (HKP.out.trans (HK8.out.mono (fun k h => .inl h))) _ _ _ HNX.out
            have hs9 : Ring X (put5 w8 s4' 0 x) g most (L.eraseIdx k) := by
              refine ring_narrow (Y := fun k => X k ∨ k = s4') (ring_kept HS8.out (fun k hk hnx => ?_)) (fun k h => .inl h)
              obtain ⟨ob, ho⟩ : ∃ ob, w8.heap[k]? = some ob := ⟨_, Array.getElem?_eq_getElem hk⟩
              rw [ho]; exact heap_put_other ho (fun e => hnx (.inr e))
            change bodyPost _ _ _ _ _ (put5 w8 s4' 0 x)
            generalize put5 w8 s4' 0 x = w9 at *
            obtain ⟨⟨c0, c1, c2, c3, c4⟩, -⟩ := hp9
            refine bodyPost_ret (v := .tuple #[dv x, .bool true]) (by simp [results, Try.results39, go_sem, c0, c1, c2, c3, c4, dv, cs5]) rfl ?_
            exact ⟨rfl, hs9, hk9⟩
          exact AllReady.nil
        exact AllReady.nil
      exact AllReady.nil
def CutRes (X : Nat → Prop) (g most : Nat) (L : List Dg) (i : Int) (w : World) (e : Ending) (w' : World) : Prop :=
  e = .returned (.tuple #[dv (atV L i), .bool (atOk L i)]) ∧ Ring X w' g most (cutL L i) ∧ Kept X w w'
theorem rcut_any (X : Nat → Prop) (g most : Nat) (L : List Dg) (i : Int) (w : World) (h : Ring X w g most L) (hX : ∀ k, X k → k < w.heap.size) :
    Calls Try.prog 39 #[.pointer (some ⟨g, 0, none⟩), .int .i64 i] w (CutRes X g most L i w) := by
  cases hok : atOk L i with
  | true =>
    obtain ⟨h0, h1⟩ := of_decide_eq_true hok
    obtain ⟨k, rfl⟩ := Int.eq_ofNat_of_zero_le h0
    refine (rcut_yes X g most L k w h (by omega) hX).mono ?_
    rintro e w' ⟨rfl, hr, hk⟩
    exact ⟨by simp [atV, hok], by simpa [cutL, hok] using hr, hk⟩
  | false =>
    refine (rcut_no X g most L i w h hok).mono ?_
    rintro e w' ⟨rfl, hb⟩
    exact ⟨by simp [atV, hok], by simpa [cutL, hok] using ring_below h hb, Kept.of_below hb⟩
theorem rnew_yes (X : Nat → Prop) (most : Nat) (w : World) (h1 : 1 ≤ most) (h2 : most ≤ 65536) (hX : ∀ k, X k → k < w.heap.size) :
    Calls Try.prog 36 #[.int .i64 most] w fun e w' => e = .returned (.pointer (some ⟨w.heap.size, 0, none⟩)) ∧ Ring X w' w.heap.size most [] ∧ Below w.heap.size w w' ∧ w'.heap.size = w.heap.size + 1 := by
  have hm1 : ¬ ((most : Int) < 1) := by omega
  have hm2 : ¬ (65536 < (most : Int)) := by omega
  go_enter Try.func36, Try.ntmps36
  go_wp2
  go_ret
  refine ⟨rfl, ⟨h1, h2, fun hx => by have := hX _ hx; omega, 0, _, [], ⟨?_, ?_, ?_, ?_, ?_, ?_, ?_⟩, .inl ⟨rfl, rfl⟩, ⟨by simp, by simp, by simp, by simp, by simp⟩⟩, (Below.refl _ _).alloc (Nat.le_refl _) _, by simp⟩ <;> simp
end Go.Proofs.Ytfphpbhopfhlcaa.D
