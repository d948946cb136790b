/-
  ring of datagrams: 'Push'.
-/
import Derived.Test.YtfphpbhopfhlcaaRingDG
import Derived.Deep.RegionHeld3
namespace Go.Proofs.Ytfphpbhopfhlcaa.D
open Go.RowKit
set_option linter.unusedVariables false
set_option linter.unusedSimpArgs false
theorem getD_app_l (l m : List Dg) (i : Nat) (h : i < l.length) : (l ++ m).getD i d0 = l.getD i d0 := by simp [List.getD, List.getElem?_append_left h]
theorem getD_app_r (l m : List Dg) (i : Nat) (h : l.length ≤ i) : (l ++ m).getD i d0 = m.getD (i - l.length) d0 := by simp [List.getD, List.getElem?_append_right h]
theorem rgrow_any (X : Nat → Prop) (g most : Nat) (L : List Dg) (w : World) (h : Ring X w g most L) (hl : L.length < most) (hX : ∀ k, X k → k < w.heap.size) :
    Calls Try.prog 47 #[.pointer (some ⟨g, 0, none⟩)] w fun e w' => (∃ r, e = .returned r) ∧ RingRoom X w' g most L ∧ Kept X w w' := by
  obtain ⟨m1, m2, hx, f, v, Z, hc, hr, l1, l2, l3, l4, l5⟩ := h
  rcases hr with ⟨rfl, rfl⟩ | ⟨b, rfl, hb, hne, hz, hh⟩
  · obtain rfl : f = 0 := l3 rfl
    obtain rfl : L = [] := List.eq_nil_of_length_eq_zero (by simpa using l1)
    refine (rgrow_none X g most w hc m1 m2 hx).mono ?_
    rintro e w' ⟨hr, hc', hh', hk⟩
    refine ⟨hr, ⟨m1, m2, hx, 0, w.heap.size, [d0], hc', fun hxx => ?_, ?_, hh', ⟨by simp, by simpa using m1, by simp, by simp, by simp⟩, by simp⟩, hk⟩
    · have := hX _ hxx; omega
    · have := ringC_lt hc; omega
  · by_cases hlt : L.length < Z.length
    · refine (rgrow_not X g most f L.length Z.length _ w hc hlt).mono ?_
      rintro e w' ⟨hr, hbl⟩
      exact ⟨hr, ⟨m1, m2, hx, f, b, Z, ringC_block hc (hbl.block g (ringC_lt hc)), hb, hne, (hbl.block b (heap_lt hh)).trans hh, ⟨l1, l2, l3, l4, l5⟩, hlt⟩, Kept.of_below hbl⟩
    · have hZ : Z.length = L.length := by omega
      have hf := l4 hz
      obtain ⟨M, hM⟩ : ∃ M : Nat, M = if 2 * Z.length + 1 < most then 2 * Z.length + 1 else most := ⟨_, rfl⟩
      have hM2 : Z.length < M ∧ M ≤ most := by split at hM <;> omega
      obtain ⟨a, ha⟩ : ∃ a, Z.length = f + a := ⟨Z.length - f, by omega⟩
      have hdt : Z.take f ++ Z.drop f = Z := List.take_append_drop f Z
      have e1 : L.length = f + a := by omega
      rw [e1, ha] at hc
      refine (rgrow_full X g most f a (M - Z.length) M b (by omega) (Z.take f) (Z.drop f) w hc m1 m2 hx (by omega) (by omega) (by simp; omega) (by simp; omega) (by rw [hM]; split <;> split <;> omega) hne (by rw [hdt]; exact hh)).mono ?_
      rintro e w' ⟨hr, hc', hh', hk⟩
      have hln : (Z.drop f ++ Z.take f ++ List.replicate (M - Z.length) d0).length = M := by simp; omega
      refine ⟨hr, ⟨m1, m2, hx, 0, w.heap.size, _, by rw [hln, ← hZ, ha]; exact hc', fun hxx => ?_, ?_, hh', ⟨by omega, by omega, by simp, fun _ => by omega, fun i hi => ?_⟩, by omega⟩, hk⟩
      · have := hX _ hxx; omega
      · have := ringC_lt hc; omega
      · rw [hln, ← l5 i hi, Nat.zero_add, Nat.mod_eq_of_lt (by omega), List.append_assoc]
        by_cases hi2 : i < a
        · rw [getD_app_l _ _ _ (by simp; omega), Nat.mod_eq_of_lt (by omega)]
          simp [List.getD]
        · rw [getD_app_r _ _ _ (by simp; omega), getD_app_l _ _ _ (by simp; omega)]
          have : (f + i) % Z.length = i - a := by
            rw [ha, show f + i = (i - a) + (f + a) by omega, Nat.add_mod_right, Nat.mod_eq_of_lt (by omega)]
          rw [this]
          simp [List.getD, List.getElem?_take, show Z.length - f = a by omega, show i - a < f by omega]
theorem lay_push {most f : Nat} {Z L : List Dg} (h : Lay most f Z L) (hlt : L.length < Z.length) (d : Dg) : Lay most f (Z.set ((f + L.length) % Z.length) d) (L ++ [d]) := by
  obtain ⟨l1, l2, l3, l4, l5⟩ := h
  have hz : Z ≠ [] := fun e => by simp [e] at hlt
  have hf := l4 hz
  have hr : (f + L.length) % Z.length < Z.length := Nat.mod_lt _ (by omega)
  have hl1 : (L ++ [d]).length = L.length + 1 := by simp
  refine ⟨by simp; omega, by simp; omega, ?_, fun _ => by simpa using hf, ?_⟩
  · intro e; have := congrArg List.length e; simp at this; exact absurd this hz
  · intro i hi
    rw [hl1] at hi
    rw [List.length_set, getD_setD]
    by_cases hi2 : i < L.length
    · rw [if_neg (fun h => by have := ring_same hf (by omega) hlt h.1; omega), l5 i hi2, getD_app_l _ _ _ hi2]
    · obtain rfl : i = L.length := by omega
      rw [if_pos ⟨rfl, hr⟩, getD_app_r _ _ _ (Nat.le_refl _)]
      simp
theorem put_ringC {W : World} {g most f many b o : Nat} {v : Value} (h : RingC W g most f many v) (d : Dg) (hne : b ≠ g) : RingC (put5 W b o d) g most f many v := by
  refine ringC_block h ?_
  obtain ⟨ob, ho⟩ : ∃ ob, W.heap[g]? = some ob := ⟨_, Array.getElem?_eq_getElem (ringC_lt h)⟩
  rw [ho]; exact heap_put_other ho (Ne.symm hne)
theorem put_cell_other {W : World} {b o g j : Nat} {d : Dg} {v : Value} (h : W.cell? ⟨g, j, none⟩ = some v) (hne : b ≠ g) : (put5 W b o d).cell? ⟨g, j, none⟩ = some v := by
  refine (World.cell?_of_block (a := ⟨g, j, none⟩) ?_).trans h
  obtain ⟨ob, ho⟩ : ∃ ob, W.heap[g]? = some ob := ⟨_, Array.getElem?_eq_getElem (World.block_lt_of_cell? _ _ h)⟩
  show (put5 W b o d).heap[g]? = W.heap[g]?
  rw [ho]; exact heap_put_other ho (Ne.symm hne)
theorem put_frozen_other {W : World} {b o g j : Nat} {d : Dg} {v : Value} (h : W.cell? ⟨g, j, none⟩ = some v) (hf : W.frozen? ⟨g, j, none⟩ = false) (hne : b ≠ g) : (put5 W b o d).frozen? ⟨g, j, none⟩ = false := by
  refine (World.frozen?_of_block (a := ⟨g, j, none⟩) ?_).trans hf
  obtain ⟨ob, ho⟩ : ∃ ob, W.heap[g]? = some ob := ⟨_, Array.getElem?_eq_getElem (World.block_lt_of_cell? _ _ h)⟩
  show (put5 W b o d).heap[g]? = W.heap[g]?
  rw [ho]; exact heap_put_other ho (Ne.symm hne)
theorem chain5 {W : World} {b o0 o1 o2 o3 o4 g j : Nat} {v0 v1 v2 v3 v4 v : Value} (h : W.cell? ⟨g, j, none⟩ = some v) (hne : b ≠ g) :
    (((((W.setCell ⟨b, o0, none⟩ v0).setCell ⟨b, o1, none⟩ v1).setCell ⟨b, o2, none⟩ v2).setCell ⟨b, o3, none⟩ v3).setCell ⟨b, o4, none⟩ v4).cell? ⟨g, j, none⟩ = some v := by
  have n : ∀ o, (⟨b, o, none⟩ : Addr) ≠ ⟨g, j, none⟩ := fun o e => hne (by injection e)
  exact set_other (set_other (set_other (set_other (set_other h (n _)) (n _)) (n _)) (n _)) (n _)
theorem room_cell {X : Nat → Prop} {w : World} {g most : Nat} {L : List Dg} (h : RingRoom X w g most L) :
    ∃ b r z, b ≠ g ∧ ¬ X b ∧ ¬ X g ∧ At5 w b r z ∧ w.cell? ⟨g, 2, none⟩ = some (.int .i64 L.length) ∧ w.frozen? ⟨g, 2, none⟩ = false ∧ L.length < most ∧ most ≤ 65536 ∧ b < w.heap.size ∧
      (∀ W, Below w.heap.size w W → Calls Try.prog 48 #[.pointer (some ⟨g, 0, none⟩), .int .i64 L.length] W fun e w' => e = .returned (.pointer (some ⟨b, r, none⟩)) ∧ Below W.heap.size W w') ∧
      ∀ (W : World) (d : Dg), Below w.heap.size w W → Ring X ((put5 W b r d).setCell ⟨g, 2, none⟩ (.int .i64 ((L.length + 1 : Nat) : Int))) g most (L ++ [d]) := by
  obtain ⟨m1, m2, hx, f, b, Z, hc, hb, hne, hh, hl, hlt⟩ := h
  have hl' := hl
  obtain ⟨l1, l2, l3, l4, l5⟩ := hl
  have hz : Z ≠ [] := fun e => by simp [e] at hlt
  have hf := l4 hz
  have hr : (f + L.length) % Z.length < Z.length := Nat.mod_lt _ (by omega)
  have hcc := hc
  obtain ⟨h0, h1, h2, h3, f1, f2, f3⟩ := hcc
  refine ⟨b, (f + L.length) % Z.length * 5, _, hne, hb, hx, row_at5 hh hr, h2, f2, by omega, m2, heap_lt hh, fun W hbl => rcell g most f L.length b Z.length L.length W (ringC_block hc (hbl.block g (ringC_lt hc))) hf hlt (by omega), fun W d hbl => ?_⟩
  have hcW := ringC_block hc (hbl.block g (ringC_lt hc))
  have hhW := (hbl.block b (heap_lt hh)).trans hh
  have hc1 := put_ringC (o := (f + L.length) % Z.length * 5) hcW d hne
  have hl1 : (L ++ [d]).length = L.length + 1 := by simp
  have hZl : (Z.set ((f + L.length) % Z.length) d).length = Z.length := by simp
  refine ⟨m1, m2, hx, f, _, Z.set ((f + L.length) % Z.length) d, by rw [hl1]; exact ringC_many hc1 _, .inr ⟨b, by rw [hZl], hb, hne, ?_, heap_set_other (row_set5 hr hhW) hne⟩, lay_push hl' hlt d⟩
  intro e; have := congrArg List.length e; simp at this; exact hz this
def pushE (most : Nat) (L : List Dg) : Int := if L.length < most then 0 else 31
def pushL (most : Nat) (L : List Dg) (d : Dg) : List Dg := if L.length < most then L ++ [d] else L
abbrev B49 (d : Dg) : Obj := .cells #[Value.int .u32 d.h1, Value.int .u16 d.p1, Value.int .u32 d.h2, Value.int .u16 d.p2, Value.string d.s] 49
theorem rpush_no (X : Nat → Prop) (g most : Nat) (L : List Dg) (d : Dg) (w : World) (h : Ring X w g most L) (hl : ¬ L.length < most) :
    Calls Try.prog 38 #[.pointer (some ⟨g, 0, none⟩), dv d] w fun e w' => e = .returned (.int .i64 31) ∧ Below w.heap.size w w' := by
  have hle := (ring_len h).1
  have hbl := (Below.refl w.heap.size w).alloc (Nat.le_refl _) (B49 d)
  obtain ⟨m1, m2, hx, f, v, Z, ⟨h0, h1, h2, h3, f1, f2, f3⟩, hr, hl'⟩ := ring_below h hbl
  have H := Lib.hid (rnone_no g most (w.alloc (B49 d)) h0 m1)
  obtain rfl : most = L.length := by omega
  have hg := Below.refl w.heap.size w
  clear hr hl' h1 h3 f1 f2 f3 hl hle hbl h
  generalize L.length = n at *
  unfold dv cs5
  go_enter Try.func38, Try.ntmps38
  go_wp2_with (go_at_call 46; refine H.out.mono ?_; rintro e w1 ⟨rfl, rfl⟩)
  go_quiet (fail)
  go_wp2
  go_ret
  exact ⟨rfl, below_drewN (by go_grown) _⟩
set_option maxHeartbeats 800000 in
theorem rpush_yes (X : Nat → Prop) (g most : Nat) (L : List Dg) (d : Dg) (w : World) (h : Ring X w g most L) (hl : L.length < most) (hX : ∀ k, X k → k < w.heap.size) :
    Calls Try.prog 38 #[.pointer (some ⟨g, 0, none⟩), dv d] w fun e w' => e = .returned (.int .i64 0) ∧ Ring X w' g most (L ++ [d]) ∧ Kept X w w' := by
  have hbl := (Below.refl w.heap.size w).alloc (Nat.le_refl _) (B49 d)
  have hwid : Ring (fun k => X k ∨ k = w.heap.size) (w.alloc (B49 d)) g most L := ring_widen h hbl (fun k hk => hk.elim .inl (fun e => .inr (by omega)))
  have hXs : ∀ k, (X k ∨ k = w.heap.size) → k < (w.alloc (B49 d)).heap.size := fun k hk => by simp; exact hk.elim (fun h => by have := hX k h; omega) (fun h => by omega)
  have HG := Lib.hid (fun W (hb : Below (w.alloc (B49 d)).heap.size (w.alloc (B49 d)) W) => rgrow_any _ g most L W (ring_below hwid hb) hl (fun k hk => Nat.lt_of_lt_of_le (hXs k hk) hb.size))
  have hnew : At5 (w.alloc (B49 d)) w.heap.size 0 d := new_at5 w d 49
  have HN := Lib.hid hnew
  obtain ⟨m1, m2, hx, f, v, Z, ⟨h0, h1, h2, h3, f1, f2, f3⟩, hr, hl'⟩ := hwid
  have H := Lib.hid (rnone_no g most (w.alloc (B49 d)) h0 m1)
  have hl2 : ¬ ((L.length : Int) = (most : Int)) := by omega
  have hl3 : ((L.length : Int) == (most : Int)) = false := by simp; omega
  have HBL : Hid (Kept X w (w.alloc (B49 d))) := Kept.of_below hbl
  clear hr hl' h1 h3 f1 f2 f3 hX hXs hnew hbl h
  unfold dv cs5
  go_enter Try.func38, Try.ntmps38
  go_wp2_with (go_at_call 46; refine H.out.mono ?_; rintro e w1 ⟨rfl, rfl⟩)
  have hg := Below.refl (w.alloc (B49 d)).heap.size (w.alloc (B49 d))
  go_quiet (fail)
  go_wp2_with fail
  refine (HG.out _ (below_drewN hg _)).mono ?_
  rintro e w1 ⟨⟨rr, rfl⟩, hroom, hk1⟩
  have hbox : At5 w1 w.heap.size 0 d := at5_block HN.out (hk1.block w.heap.size (.inr rfl) (by simp [World.drewN]))
  obtain ⟨b, r, z, hne, hxb, hxg, hat, hc2, hf2, _, _, hlb, hcall, hset⟩ := room_cell hroom
  have hnb : b ≠ w.heap.size := fun e => hxb (.inr e)
  have HCALL := Lib.hid hcall
  have HSET := Lib.hid hset
  have HK1 := Lib.hid hk1
  have HAT := Lib.hid hat
  have HBOX := Lib.hid hbox
  have HF2 := Lib.hid hf2
  obtain ⟨⟨x0, x1, x2, x3, x4⟩, -⟩ := hbox
  clear hroom hcall hset hk1 hat hf2
  go_wp2
  refine wp_region_any (by kernel_rfl) ?_
  (try (change wpAny _ _ _ _ _ _ _ (World.drew _)))
  refine wpAny_take (i := 0) (oi := _) (v := ?_) (by simp only [List.getElem?_toArray, List.getElem?_cons_succ, List.getElem?_cons_zero]; rfl) (by kernel_rfl) (by kernel_rfl) (by kernel_rfl) (by intro _ _ _ h; exact h) (Or.inl ⟨by rfl, ?_⟩) ?_
  rotate_left
  focus (intro w; go_simp; try with_reducible rfl)
  (try simp only [Act.put, List.setIfInBounds_toArray, List.set_cons_zero, List.set_cons_succ])
  refine wpAny_take (i := 1) (oi := _) (v := ?_) (by simp only [List.getElem?_toArray, List.getElem?_cons_succ, List.getElem?_cons_zero]; rfl) (by kernel_rfl) (by kernel_rfl) (by kernel_rfl) (by intro _ _ _ h; exact h) (Or.inl ⟨by rfl, ?_⟩) ?_
  rotate_left
  focus (intro w; go_simp; try with_reducible rfl)
  (try simp only [Act.put, List.setIfInBounds_toArray, List.set_cons_zero, List.set_cons_succ])
  refine wpAny_take (i := 2) (oi := _) (v := ?_) (by simp only [List.getElem?_toArray, List.getElem?_cons_succ, List.getElem?_cons_zero]; rfl) (by kernel_rfl) (by kernel_rfl) (by kernel_rfl) (by intro _ _ _ h; exact h) (Or.inl ⟨by rfl, ?_⟩) ?_
  rotate_left
  focus (intro w; go_simp; try with_reducible rfl)
  (try simp only [Act.put, List.setIfInBounds_toArray, List.set_cons_zero, List.set_cons_succ])
  refine wpAny_take (i := 3) (oi := _) (v := ?_) (by simp only [List.getElem?_toArray, List.getElem?_cons_succ, List.getElem?_cons_zero]; rfl) (by kernel_rfl) (by kernel_rfl) (by kernel_rfl) (by intro _ _ _ h; exact h) (Or.inl ⟨by rfl, ?_⟩) ?_
  rotate_left
  focus (intro w; go_simp; try with_reducible rfl)
  (try simp only [Act.put, List.setIfInBounds_toArray, List.set_cons_zero, List.set_cons_succ])
  refine wpAny_ready (rs := [4, 6]) (by kernel_rfl) (by simp) ?_
  refine AllReady.cons rfl (fun K hK => ?_) ?_
  · go_simp
    (refine hK _ _ ?_; clear hK K)
    (try simp only [Act.put, List.setIfInBounds_toArray, List.set_cons_zero, List.set_cons_succ])
    refine wpAny_ready (rs := [5, 6]) (by kernel_rfl) (by simp) ?_
    refine AllReady.cons rfl (fun K hK => ?_) ?_
    · go_simp
      go_wp2_with (first
          | (go_at_call 48; refine (HCALL.out _ (Below.refl _ _).drew).mono ?_; rintro e w2 ⟨rfl, hg2⟩; have hg3 := Below.trans (Below.refl _ _).drew hg2; obtain ⟨⟨y0, y1, y2, y3, y4⟩, z0, z1, z2, z3, z4⟩ := at5_below HAT.out hg3; obtain ⟨⟨x0, x1, x2, x3, x4⟩, -⟩ := at5_below HBOX.out hg3))
      (try simp only [Act.put, List.setIfInBounds_toArray, List.set_cons_zero, List.set_cons_succ])
      refine wpAny_ready (rs := [6]) (by kernel_rfl) (by simp) ?_
      refine AllReady.cons rfl (fun K hK => ?_) ?_
      · go_simp
        (refine hK _ _ ?_; clear hK K)
        (try simp only [Act.put, List.setIfInBounds_toArray, List.set_cons_zero, List.set_cons_succ])
        refine wpAny_take (i := 7) (oi := _) (v := ?_) (by simp only [List.getElem?_toArray, List.getElem?_cons_succ, List.getElem?_cons_zero]; rfl) (by kernel_rfl) (by kernel_rfl) (by kernel_rfl) (by intro _ _ _ h; exact h) (Or.inl ⟨by rfl, ?_⟩) ?_
        rotate_left
        focus (intro w; go_simp; try with_reducible rfl)
        (try simp only [Act.put, List.setIfInBounds_toArray, List.set_cons_zero, List.set_cons_succ])
        refine wpAny_ready (rs := [8]) (by kernel_rfl) (by simp) ?_
        refine AllReady.cons rfl (fun K hK => ?_) ?_
        · go_simp
          (refine hK _ _ ?_; clear hK K)
          (try simp only [Act.put, List.setIfInBounds_toArray, List.set_cons_zero, List.set_cons_succ])
          refine wpAny_done (by kernel_rfl) ?_ _
          have q2 := put_cell_other (o := r) (d := d) (cell_below hg3 hc2) hne
          have q2f := put_frozen_other (o := r) (d := d) (cell_below hg3 hc2) ((hg3.frozen (p := ⟨g, 2, none⟩) (World.block_lt_of_cell? _ _ hc2)).trans HF2.out) hne
          have hs := HSET.out w2 d hg3
          have hk5 : Kept X w (put5 w2 b r d) := Kept.put5 (((HBL.out.drewN _).trans (HK1.out.mono (fun k h => .inl h))).trans (Kept.of_below hg3)) b r d (fun h => hxb (.inl h))
          change Exit.then _ _ _ _ (put5 w2 b r d)
          generalize put5 w2 b r d = w5 at *
          clear y0 y1 y2 y3 y4 z0 z1 z2 z3 z4 x0 x1 x2 x3 x4
          have HS := Lib.hid hs
          have HK5 := Lib.hid hk5
          clear hs hk5 hg2 hg3
          go_wp2
          go_ret
          exact ⟨rfl, ring_narrow HS.out (fun k h => .inl h), HK5.out.set _ _ _ (fun h => hxg (.inl h))⟩
        exact AllReady.nil
      exact AllReady.nil
    refine AllReady.cons rfl (fun K hK => ?_) ?_
    · go_simp
      (refine hK _ _ ?_; clear hK K)
      (try simp only [Act.put, List.setIfInBounds_toArray, List.set_cons_zero, List.set_cons_succ])
      refine wpAny_ready (rs := [5]) (by kernel_rfl) (by simp) ?_
      refine AllReady.cons rfl (fun K hK => ?_) ?_
      · go_simp
        go_wp2_with (first
            | (go_at_call 48; refine (HCALL.out _ (Below.refl _ _).drew).mono ?_; rintro e w2 ⟨rfl, hg2⟩; have hg3 := Below.trans (Below.refl _ _).drew hg2; obtain ⟨⟨y0, y1, y2, y3, y4⟩, z0, z1, z2, z3, z4⟩ := at5_below HAT.out hg3; obtain ⟨⟨x0, x1, x2, x3, x4⟩, -⟩ := at5_below HBOX.out hg3))
        (try simp only [Act.put, List.setIfInBounds_toArray, List.set_cons_zero, List.set_cons_succ])
        refine wpAny_take (i := 7) (oi := _) (v := ?_) (by simp only [List.getElem?_toArray, List.getElem?_cons_succ, List.getElem?_cons_zero]; rfl) (by kernel_rfl) (by kernel_rfl) (by kernel_rfl) (by intro _ _ _ h; exact h) (Or.inl ⟨by rfl, ?_⟩) ?_
        rotate_left
        focus (intro w; go_simp; try with_reducible rfl)
        (try simp only [Act.put, List.setIfInBounds_toArray, List.set_cons_zero, List.set_cons_succ])
        refine wpAny_ready (rs := [8]) (by kernel_rfl) (by simp) ?_
        refine AllReady.cons rfl (fun K hK => ?_) ?_
        · go_simp
          (refine hK _ _ ?_; clear hK K)
          (try simp only [Act.put, List.setIfInBounds_toArray, List.set_cons_zero, List.set_cons_succ])
          refine wpAny_done (by kernel_rfl) ?_ _
          have q2 := put_cell_other (o := r) (d := d) (cell_below hg3 hc2) hne
          have q2f := put_frozen_other (o := r) (d := d) (cell_below hg3 hc2) ((hg3.frozen (p := ⟨g, 2, none⟩) (World.block_lt_of_cell? _ _ hc2)).trans HF2.out) hne
          have hs := HSET.out w2 d hg3
          have hk5 : Kept X w (put5 w2 b r d) := Kept.put5 (((HBL.out.drewN _).trans (HK1.out.mono (fun k h => .inl h))).trans (Kept.of_below hg3)) b r d (fun h => hxb (.inl h))
          change Exit.then _ _ _ _ (put5 w2 b r d)
          generalize put5 w2 b r d = w5 at *
          clear y0 y1 y2 y3 y4 z0 z1 z2 z3 z4 x0 x1 x2 x3 x4
          have HS := Lib.hid hs
          have HK5 := Lib.hid hk5
          clear hs hk5 hg2 hg3
          go_wp2
          go_ret
          exact ⟨rfl, ring_narrow HS.out (fun k h => .inl h), HK5.out.set _ _ _ (fun h => hxg (.inl h))⟩
        exact AllReady.nil
      exact AllReady.nil
    exact AllReady.nil
  refine AllReady.cons rfl (fun K hK => ?_) ?_
  · go_simp
    (refine hK _ _ ?_; clear hK K)
    (try simp only [Act.put, List.setIfInBounds_toArray, List.set_cons_zero, List.set_cons_succ])
    refine wpAny_ready (rs := [4]) (by kernel_rfl) (by simp) ?_
    refine AllReady.cons rfl (fun K hK => ?_) ?_
    · go_simp
      (refine hK _ _ ?_; clear hK K)
      (try simp only [Act.put, List.setIfInBounds_toArray, List.set_cons_zero, List.set_cons_succ])
      refine wpAny_ready (rs := [5]) (by kernel_rfl) (by simp) ?_
      refine AllReady.cons rfl (fun K hK => ?_) ?_
      · go_simp
        go_wp2_with (first
            | (go_at_call 48; refine (HCALL.out _ (Below.refl _ _).drew).mono ?_; rintro e w2 ⟨rfl, hg2⟩; have hg3 := Below.trans (Below.refl _ _).drew hg2; obtain ⟨⟨y0, y1, y2, y3, y4⟩, z0, z1, z2, z3, z4⟩ := at5_below HAT.out hg3; obtain ⟨⟨x0, x1, x2, x3, x4⟩, -⟩ := at5_below HBOX.out hg3))
        (try simp only [Act.put, List.setIfInBounds_toArray, List.set_cons_zero, List.set_cons_succ])
        refine wpAny_take (i := 7) (oi := _) (v := ?_) (by simp only [List.getElem?_toArray, List.getElem?_cons_succ, List.getElem?_cons_zero]; rfl) (by kernel_rfl) (by kernel_rfl) (by kernel_rfl) (by intro _ _ _ h; exact h) (Or.inl ⟨by rfl, ?_⟩) ?_
        rotate_left
        focus (intro w; go_simp; try with_reducible rfl)
        (try simp only [Act.put, List.setIfInBounds_toArray, List.set_cons_zero, List.set_cons_succ])
        refine wpAny_ready (rs := [8]) (by kernel_rfl) (by simp) ?_
        refine AllReady.cons rfl (fun K hK => ?_) ?_
        · go_simp
          (refine hK _ _ ?_; clear hK K)
          (try simp only [Act.put, List.setIfInBounds_toArray, List.set_cons_zero, List.set_cons_succ])
          refine wpAny_done (by kernel_rfl) ?_ _
          have q2 := put_cell_other (o := r) (d := d) (cell_below hg3 hc2) hne
          have q2f := put_frozen_other (o := r) (d := d) (cell_below hg3 hc2) ((hg3.frozen (p := ⟨g, 2, none⟩) (World.block_lt_of_cell? _ _ hc2)).trans HF2.out) hne
          have hs := HSET.out w2 d hg3
          have hk5 : Kept X w (put5 w2 b r d) := Kept.put5 (((HBL.out.drewN _).trans (HK1.out.mono (fun k h => .inl h))).trans (Kept.of_below hg3)) b r d (fun h => hxb (.inl h))
          change Exit.then _ _ _ _ (put5 w2 b r d)
          generalize put5 w2 b r d = w5 at *
          clear y0 y1 y2 y3 y4 z0 z1 z2 z3 z4 x0 x1 x2 x3 x4
          have HS := Lib.hid hs
          have HK5 := Lib.hid hk5
          clear hs hk5 hg2 hg3
          go_wp2
          go_ret
          exact ⟨rfl, ring_narrow HS.out (fun k h => .inl h), HK5.out.set _ _ _ (fun h => hxg (.inl h))⟩
        exact AllReady.nil
      exact AllReady.nil
    exact AllReady.nil
  exact AllReady.nil

theorem rpush_any (X : Nat → Prop) (g most : Nat) (L : List Dg) (d : Dg) (w : World) (h : Ring X w g most L) (hX : ∀ k, X k → k < w.heap.size) :
    Calls Try.prog 38 #[.pointer (some ⟨g, 0, none⟩), dv d] w fun e w' => e = .returned (.int .i64 (pushE most L)) ∧ Ring X w' g most (pushL most L d) ∧ Kept X w w' := by
  by_cases hl : L.length < most
  · have e1 : pushE most L = 0 := if_pos hl
    have e2 : pushL most L d = L ++ [d] := if_pos hl
    rw [e1, e2]
    exact rpush_yes X g most L d w h hl hX
  · have e1 : pushE most L = 31 := if_neg hl
    have e2 : pushL most L d = L := if_neg hl
    rw [e1, e2]
    refine (rpush_no X g most L d w h hl).mono ?_
    rintro e w' ⟨he, hb⟩
    exact ⟨he, ring_below h hb, Kept.of_below hb⟩
end Go.Proofs.Ytfphpbhopfhlcaa.D
