/-
  addr.Cmp; the chapter's example.
-/
import Derived.Test.YtnkbbmfhdabbkaaDoorC
namespace Go.Proofs.YtnkbbmfhdabbkaaDoor
open Go.RowKit Go.Proofs.YtnkbbmfhdabbkaaDoorW.PrintWords
set_option linter.unusedVariables false
set_option linter.unusedSimpArgs false
set_option maxRecDepth 100000
theorem compare_ints : ∀ (l m : List Int), l.length = m.length → (∀ x ∈ l, 0 ≤ x ∧ x < 256) → (∀ x ∈ m, 0 ≤ x ∧ x < 256) → Lib.compareBytes (Lib.bytesOf l) (Lib.bytesOf m) = cmpL l m
  | [], [], _, _, _ => rfl
  | [], _ :: _, h, _, _ => by simp at h
  | _ :: _, [], h, _, _ => by simp at h
  | x :: l, y :: m, h, hl, hm => by
    have hx := hl x (by simp)
    have hy := hm y (by simp)
    have ih := compare_ints l m (by simpa using h) (fun z hz => hl z (by simp [hz])) (fun z hz => hm z (by simp [hz]))
    have e1 : ∀ a b : Int, 0 ≤ a → a < 256 → 0 ≤ b → b < 256 → ((UInt8.ofNat a.toNat < UInt8.ofNat b.toNat) ↔ a < b) := fun a b h1 h2 h3 h4 => by
      rw [UInt8.lt_iff_toNat_lt, UInt8.toNat_ofNat', UInt8.toNat_ofNat']
      omega
    show (if UInt8.ofNat x.toNat < UInt8.ofNat y.toNat then (-1 : Int) else if UInt8.ofNat y.toNat < UInt8.ofNat x.toNat then 1 else Lib.compareBytes (Lib.bytesOf l) (Lib.bytesOf m)) = if x < y then -1 else if x > y then 1 else cmpL l m
    simp only [e1 x y hx.1 hx.2 hy.1 hy.2, e1 y x hy.1 hy.2 hx.1 hx.2, ih, gt_iff_lt]
theorem bL_byte (h p : Nat) : ∀ x ∈ bL h p, 0 ≤ x ∧ x < 256 := by
  have h0 := hb_lt h 0
  have h1 := hb_lt h 1
  have h2 := hb_lt h 2
  have h3 := hb_lt h 3
  intro x hx
  simp only [bL, List.mem_cons, List.not_mem_nil, or_false] at hx
  omega
theorem run_bytes6 {w : World} {A : Option Addr} {c base h p : Nat} (ho : w.ownsRow base 5 1 (.slice A 6 c) 6 (nums .u8 (bL h p))) : (Extern.Bytes.bytesOf (.slice A 6 c)).run Tryd.prog w = .ok ⟨(Lib.bytesOf (bL h p)).toArray⟩ w := by
  obtain ⟨A', c', he, hl, hm, hr⟩ := own_reads ho
  injection he with e1 e2 e3
  subst e1
  obtain ⟨ad, rfl, hc⟩ := hr (by decide)
  have := Lib.run_loadBytesX (P := Tryd.prog) (w := w) (bL h p) ad .empty (by
    intro j x hj
    have hj6 : j < 6 := by
      rcases Nat.lt_or_ge j 6 with h1 | h1
      · exact h1
      · rw [List.getElem?_eq_none (by rw [hl]; exact h1)] at hj; cases hj
    rw [hc j hj6]
    simp [List.getD_eq_getElem?_getD, hj])
  simp [bL] at this
  simpa [Extern.Bytes.bytesOf, bL] using this
theorem acompare {w : World} {A1 A2 : Option Addr} {c1 c2 b1 b2 h p h2 p2 : Nat} (h1 : w.ownsRow b1 5 1 (.slice A1 6 c1) 6 (nums .u8 (bL h p))) (h2' : w.ownsRow b2 5 1 (.slice A2 6 c2) 6 (nums .u8 (bL h2 p2))) :
    Calls Tryd.prog 23 #[.slice A1 6 c1, .slice A2 6 c2] w fun e w' => e = .returned (.int .i64 (cmpL (bL h p) (bL h2 p2))) ∧ w = w' := by
  have r1 := run_bytes6 h1
  have r2 := run_bytes6 h2'
  have hrun : (Extern.BytealgCompare.compare #[.slice A1 6 c1, .slice A2 6 c2]).run Tryd.prog w = .ok (.int .i64 (cmpL (bL h p) (bL h2 p2))) w := by
    change Sem.run Tryd.prog (do pure (goInt (Extern.BytealgCompare.cmp (← Extern.Bytes.bytesOf (.slice A1 6 c1)) (← Extern.Bytes.bytesOf (.slice A2 6 c2))))) w = _
    simp only [Sem.run_bind, Sem.run_pure, r1, r2, Result.andThen]
    rw [Lib.cmp_eq]
    rw [← compare_ints _ _ (by simp [bL]) (bL_byte _ _) (bL_byte _ _)]
    rfl
  clear r1 r2 h1 h2'
  generalize cmpL (bL h p) (bL h2 p2) = v at *
  go_enter Tryd.func23, Tryd.ntmps23
  go_wp2
  rw [run_callFunc_extern Tryd.func31 (by kernel_rfl) (by kernel_rfl) (by kernel_rfl) (e := Extern.BytealgCompare.compare) (by kernel_rfl), hrun]
  simp only [Result.andThen]
  rw [Oper.upon_value]
  go_wp2
  go_ret
  exact ⟨rfl, rfl⟩
abbrev cellsA (h p : Nat) : Array Value := #[.int .u32 (h : Int), .int .u16 (p : Int)]
theorem box2 (w : World) (c1 c2 : Array Value) : ((w.alloc (.cells c1 25)).alloc (.cells c2 25)).heap[w.heap.size]? = some (.cells c1 25 (0, 0)) ∧ ((w.alloc (.cells c1 25)).alloc (.cells c2 25)).heap[w.heap.size + 1]? = some (.cells c2 25 (0, 0)) ∧
    Below w.heap.size w ((w.alloc (.cells c1 25)).alloc (.cells c2 25)) := by
  have h1 := blk_new w (.cells c1 25)
  have h2 := blk_new (w.alloc (.cells c1 25)) (.cells c2 25)
  exact ⟨blk_below h1 ((Below.refl _ _).alloc (Nat.le_refl _) _), by simpa using h2, ((Below.refl _ w).alloc (Nat.le_refl _) _).alloc (by simp) _⟩
set_option maxHeartbeats 4000000 in
theorem acmp (h p h2 p2 : Nat) (w : World) (hh : h < 4294967296) (hp : p < 65536) (hh2 : h2 < 4294967296) (hp2 : p2 < 65536) :
    Calls Tryd.prog 12 #[.agg #[.int .u32 (h : Int), .int .u16 (p : Int)], .agg #[.int .u32 (h2 : Int), .int .u16 (p2 : Int)]] w fun e w' => e = .returned (.int .i64 (cmpL (bL h p) (bL h2 p2))) ∧ Below w.heap.size w w' := by
  obtain ⟨b1, b2, hb0⟩ := box2 w (cellsA h p) (cellsA h2 p2)
  have B1 := Lib.hid b1
  have B2 := Lib.hid b2
  have HB := Lib.hid hb0
  clear b1 b2 hb0
  have HY1 := Lib.hid (fun W => abytes h p W hh hp)
  have HY2 := Lib.hid (fun W => abytes h2 p2 W hh2 hp2)
  go_enter Tryd.func12, Tryd.ntmps12
  go_upto_region 1 with fail
  generalize hg2 : w.heap.size + 1 = g2 at *
  generalize hg : w.heap.size = g1 at *
  generalize World.alloc (World.alloc w _) _ = W0 at *
  refine wp_region_held_drew (S := fun w' => Below W0.heap.size W0 w' ∧ w'.cell? ⟨g1, 0, none⟩ = some (.int .u32 (h : Int)) ∧ w'.cell? ⟨g1, 1, none⟩ = some (.int .u16 (p : Int)) ∧ w'.cell? ⟨g2, 0, none⟩ = some (.int .u32 (h2 : Int)) ∧ w'.cell? ⟨g2, 1, none⟩ = some (.int .u16 (p2 : Int))) (by kernel_rfl) ⟨(Below.refl _ _).drew, (blk_cell B1.out 0).trans rfl, (blk_cell B1.out 1).trans rfl, (blk_cell B2.out 0).trans rfl, (blk_cell B2.out 1).trans rfl⟩ (fun hHeld => ?_)
  refine wpAnyH_take (i := 0) (oi := _) (v := ?_) (by simp only [List.getElem?_toArray, List.getElem?_cons_succ, List.getElem?_cons_zero]; rfl) (by kernel_rfl) (by kernel_rfl) (by kernel_rfl) (by intro _ _ _ h; exact h) (Or.inl ⟨by rfl, ?_⟩) hHeld ?_
  rotate_left
  focus (rintro w ⟨hbs, s0, s1, s2, s3⟩; go_simp; try with_reducible rfl)
  (try simp only [Act.put, List.setIfInBounds_toArray, List.set_cons_zero, List.set_cons_succ])
  refine wpAnyH_take (i := 2) (oi := _) (v := ?_) (by simp only [List.getElem?_toArray, List.getElem?_cons_succ, List.getElem?_cons_zero]; rfl) (by kernel_rfl) (by kernel_rfl) (by kernel_rfl) (by intro _ _ _ h; exact h) (Or.inl ⟨by rfl, ?_⟩) hHeld ?_
  rotate_left
  focus (rintro w ⟨hbs, s0, s1, s2, s3⟩; go_simp; try with_reducible rfl)
  (try simp only [Act.put, List.setIfInBounds_toArray, List.set_cons_zero, List.set_cons_succ])
  refine wpAnyH_ready (rs := [1]) (by kernel_rfl) (by simp) ?_
  refine AllReadyH.cons rfl (fun K hK => ?_) ?_
  rotate_left
  · exact AllReadyH.nil
  go_simp
  go_at_call 10
  refine (HY1.out _).mono ?_
  rintro e w1 ⟨A1, c1, rfl, hc1, ho1, hbk⟩
  go_wp2_with fail
  have HO1 := Lib.hid ho1
  clear ho1
  have hq1 : Below W0.heap.size W0 _ := hHeld.1.trans (hbk.mono hHeld.1.size)
  refine hK.out _ _ ⟨hq1, (blk_cell (blk_below B1.out hq1) 0).trans rfl, (blk_cell (blk_below B1.out hq1) 1).trans rfl, (blk_cell (blk_below B2.out hq1) 0).trans rfl, (blk_cell (blk_below B2.out hq1) 1).trans rfl⟩ (fun hHeld => ?_)
  clear hK K
  (try simp only [Act.put, List.setIfInBounds_toArray, List.set_cons_zero, List.set_cons_succ])
  refine wpAnyH_ready (rs := [3]) (by kernel_rfl) (by simp) ?_
  refine AllReadyH.cons rfl (fun K hK => ?_) ?_
  rotate_left
  · exact AllReadyH.nil
  go_simp
  go_at_call 10
  refine (HY2.out _).mono ?_
  rintro e w2 ⟨A2, c2, rfl, hc2, ho2, hbk⟩
  go_wp2_with fail
  have HO2 := Lib.hid ho2
  replace HO1 := Lib.hid (pw_own_below HO1.out hbk)
  clear ho2
  have hq2 : Below W0.heap.size W0 _ := hHeld.1.trans (hbk.mono hHeld.1.size)
  refine hK.out _ _ ⟨hq2, (blk_cell (blk_below B1.out hq2) 0).trans rfl, (blk_cell (blk_below B1.out hq2) 1).trans rfl, (blk_cell (blk_below B2.out hq2) 0).trans rfl, (blk_cell (blk_below B2.out hq2) 1).trans rfl⟩ (fun hHeld => ?_)
  clear hK K
  (try simp only [Act.put, List.setIfInBounds_toArray, List.set_cons_zero, List.set_cons_succ])
  refine wpAnyH_ready (rs := [4]) (by kernel_rfl) (by simp) ?_
  refine AllReadyH.cons rfl (fun K hK => ?_) ?_
  rotate_left
  · exact AllReadyH.nil
  go_simp
  go_at_call 23
  refine (acompare HO1.out HO2.out).mono ?_
  rintro e w3 ⟨rfl, rfl⟩
  go_wp2_with fail
  refine hK.out _ _ hHeld (fun hHeld => ?_)
  clear hK K
  (try simp only [Act.put, List.setIfInBounds_toArray, List.set_cons_zero, List.set_cons_succ])
  refine wpAnyH_take (i := 5) (oi := _) (v := ?_) (by simp only [List.getElem?_toArray, List.getElem?_cons_succ, List.getElem?_cons_zero]; rfl) (by kernel_rfl) (by kernel_rfl) (by kernel_rfl) (by intro _ _ _ h; exact h) (Or.inl ⟨by rfl, ?_⟩) hHeld ?_
  rotate_left
  focus (rintro w ⟨hbs, s0, s1, s2, s3⟩; go_simp; try with_reducible rfl)
  (try simp only [Act.put, List.setIfInBounds_toArray, List.set_cons_zero, List.set_cons_succ])
  refine wpAnyH_done (by kernel_rfl) ?_ _
  go_wp2_with fail
  go_ret
  exact ⟨rfl, hg ▸ HB.out.trans (hHeld.1.mono (by have := HB.out.size; omega))⟩
end Go.Proofs.YtnkbbmfhdabbkaaDoor
