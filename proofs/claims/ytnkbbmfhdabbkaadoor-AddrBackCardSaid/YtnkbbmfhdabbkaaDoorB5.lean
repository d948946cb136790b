/-
  AddrBack's walk, for inputs that are not too long.
-/
import Derived.Test.YtnkbbmfhdabbkaaDoorK
namespace Go.Proofs.YtnkbbmfhdabbkaaDoor
open Go.RowKit Go.Proofs.YtnkbbmfhdabbkaaDoorW.PrintWords
set_option linter.unusedVariables false
set_option linter.unusedSimpArgs false
set_option maxRecDepth 100000
/-- All ways through a region meet here; what is made new hangs on the way. -/
theorem wp_meetS {σ : Type} {s : Code} {Q : Exit → Act → World → Prop} {a : Act} {w : World} (f : σ → Act → Act) (p : σ → World → Prop)
    (rest : ∀ n w', p n w' → Q .normal (f n a) w') (first : ∀ K' : Act → World → Prop, (∀ n w', p n w' → K' (f n a) w') → s.wp Tryd.prog (Exit.then K' Q) a w) : s.wp Tryd.prog Q a w := by
  refine wp_mono (first (fun a' w' => ∃ n, a' = f n a ∧ p n w') (fun n w' h => ⟨n, rfl, h⟩)) ?_
  intro e a' w' hq
  cases e with
  | normal => obtain ⟨n, rfl, h⟩ := hq; exact rest _ _ h
  | exit id => exact hq
  | goto l => exact hq
  | ret => exact hq
  | panic ch => exact hq
  | outgrown => exact hq
theorem text_same2 (h p h2 p2 : Nat) (hh : h < 4294967296) (hh2 : h2 < 4294967296) : ((str (aText h p)).toList == (str (aText h2 p2)).toList) = same h p h2 p2 := by
  rw [← text_same h p h2 p2 hh hh2, Bool.eq_iff_iff, beq_iff_eq, decide_eq_true_iff, ByteArray.toList_eq, ByteArray.toList_eq]
  refine ⟨fun e => ?_, fun e => by rw [e]⟩
  apply ByteArray.ext
  exact Array.toList_inj.1 e
theorem same_beq (h p h2 p2 : Nat) : (((h : Int) == (h2 : Int)) && ((p : Int) == (p2 : Int))) = same h p h2 p2 := by
  unfold same
  by_cases h1 : h = h2
  · by_cases h2' : p = p2
    · subst h1 h2'; simp
    · have : ((p : Int) == (p2 : Int)) = false := beq_eq_false_iff_ne.2 (by omega)
      rw [this]; simp [h2']
  · have : ((h : Int) == (h2 : Int)) = false := beq_eq_false_iff_ne.2 (by omega)
    rw [this]; simp [h1]
theorem aparse_sym (h p : Nat) (hh : h < 4294967296) (hp : p < 65536) : ∃ (X Y : Nat) (E : Int), (∀ w, Calls Tryd.prog 15 #[.string (str (aText h p))] w fun e w' => e = .returned (adr X Y E) ∧ Below w.heap.size w w') ∧ rdRes (bL h p) = adr X Y E ∧ (gd h p = true → X = h ∧ Y = p ∧ E = 0) := by
  by_cases hg : gd h p = true
  · refine ⟨h, p, 0, fun w => ?_, by rw [rd_ok h p hh hp, if_pos hg], fun _ => ⟨rfl, rfl, rfl⟩⟩
    have := aparse_ok h p w hh hp
    rwa [if_pos hg] at this
  · refine ⟨0, 0, 10, fun w => ?_, by rw [rd_ok h p hh hp, if_neg hg], fun h => absurd h hg⟩
    have := aparse_ok h p w hh hp
    rwa [if_neg hg] at this
theorem aread_own {h p X Y c base : Nat} {E : Int} {A : Option Addr} {w : World} (ho : w.ownsRow base 5 1 (.slice A 6 c) 6 (nums .u8 (bL h p))) (hc : 6 ≤ c) (hr : rdRes (bL h p) = adr X Y E) :
    Calls Tryd.prog 17 #[.slice A 6 c] w fun e w' => e = .returned (adr X Y E) ∧ Below w.heap.size w w' := by
  obtain ⟨A', c', he, hR⟩ := own_reads ho
  injection he with e1 e2 e3
  subst e1
  have := aread A c (bL h p) w hR hc (bL_bytes h p)
  rwa [hr] at this
theorem aparse_sym2 (s : ByteArray) (hs : s.size ≤ 1000) : ∃ (X Y : Nat) (E : Int), (∀ w, Calls Tryd.prog 15 #[.string s] w fun e w' => e = .returned (adr X Y E) ∧ Below w.heap.size w w') ∧ X < 4294967296 ∧ Y < 65536 ∧ (E = 10 ∨ (E = 0 ∧ gd X Y = true ∧ s = str (aText X Y))) := by
  obtain ⟨r, hr, h⟩ := aparse_any s hs
  rcases h with rfl | ⟨h, p, hh, hp, hg, rfl, rfl⟩
  · exact ⟨0, 0, 10, hr, by decide, by decide, .inl rfl⟩
  · exact ⟨h, p, 0, hr, hh, hp, .inr ⟨rfl, hg, rfl⟩⟩
theorem rd_sym (l : List Int) (hB : Bytes l) : ∃ (X Y : Nat) (E : Int), rdRes l = adr X Y E ∧ X < 4294967296 ∧ Y < 65536 ∧ (E = 10 ∨ (E = 0 ∧ gd X Y = true ∧ l = bL X Y)) := by
  rcases rd_sound l hB with hr | ⟨h, p, hh, hp, hg, rfl, hr⟩
  · exact ⟨0, 0, 10, hr, by decide, by decide, .inl rfl⟩
  · exact ⟨h, p, 0, hr, hh, hp, .inr ⟨rfl, hg, rfl⟩⟩
theorem hs3_of {W0 : World} {A : Option Addr} {l : List Int} {X Y : Nat} {E : Int} (hR : ReadsInt W0 .u8 A l.length l) (hs : E = 10 ∨ (E = 0 ∧ gd X Y = true ∧ l = bL X Y)) : E = 10 ∨ (E = 0 ∧ gd X Y = true ∧ l.length = 6 ∧ ReadsInt W0 .u8 A l.length (bL X Y)) := by
  rcases hs with h | ⟨h1, h2, h3⟩
  · exact .inl h
  · exact .inr ⟨h1, h2, by rw [h3]; rfl, h3 ▸ hR⟩
theorem hrd_of {W0 : World} {A : Option Addr} {c : Nat} {l : List Int} {X Y : Nat} {E : Int} (hR : ReadsInt W0 .u8 A l.length l) (hc : l.length ≤ c) (hB : Bytes l) (hr : rdRes l = adr X Y E) :
    ∀ W, Below W0.heap.size W0 W → Calls Tryd.prog 17 #[.slice A l.length c] W fun e w' => e = .returned (adr X Y E) ∧ Below W.heap.size W w' := fun W hW => by
  have := aread A c l W (hR.below hW) hc hB
  rwa [hr] at this
theorem str_own6 {W : World} {A : Option Addr} {c base h p : Nat} (ho : W.ownsRow base 5 1 (.slice A 6 c) 6 (nums .u8 (bL h p))) : (convert 31 9 (.slice A 6 c)).run Tryd.prog W = .ok (.string (strOfNums (bL h p))) W :=
  own_string Tryd.underlying31 Tryd.underlying5 Tryd.underlying9 ho
theorem str_arg6 {W : World} {A : Option Addr} {n c h p : Nat} (hR : ReadsInt W .u8 A n (bL h p)) (hn : n = 6) : (convert 31 9 (.slice A n c)).run Tryd.prog W = .ok (.string (strOfNums (bL h p))) W := by
  subst hn
  obtain ⟨hl, hm, hr⟩ := hR
  obtain ⟨ad, rfl, hc⟩ := hr (by decide)
  have hl6 : (loadCells ad 6).run Tryd.prog W = .ok ((bL h p).map (Value.int .u8)).toArray W := by
    have := run_loadCells_list (P := Tryd.prog) W ad ((bL h p).map (Value.int .u8)) (fun j v hj => by
      have hj6 : j < 6 := by
        rcases Nat.lt_or_ge j 6 with h1 | h1
        · exact h1
        · rw [List.getElem?_eq_none (by rw [List.length_map]; exact h1)] at hj; cases hj
      rw [hc j hj6]
      rw [List.getElem?_map] at hj
      cases e : (bL h p)[j]? with
      | none => rw [e] at hj; cases hj
      | some x =>
        rw [e] at hj
        simp only [Option.map_some, Option.some.injEq] at hj
        rw [← hj]
        simp [List.getD_eq_getElem?_getD, e])
    simpa [bL] using this
  rw [run_convert_bytes_string W 31 9 5 _ 6 c Tryd.underlying31 Tryd.underlying5 Tryd.underlying9, run_bytesToString W ad 6 c (bL h p) hl6, foldl_push_bytes]
  simp [strOfNums, ByteArray.empty, ByteArray.emptyWithCapacity]
  rfl
set_option maxHeartbeats 4000000 in
theorem walk_near (h p h2 p2 : Nat) (s : ByteArray) (A : Option Addr) (cap : Nat) (l : List Int) (w : World) (hh : h < 4294967296) (hp : p < 65536) (hh2 : h2 < 4294967296) (hp2 : p2 < 65536) (ht : TabAt w) (HR : ReadsInt w .u8 A l.length l) (hc : l.length ≤ cap) (hB : Bytes l) (hs1 : s.size ≤ 1000) (hl1 : l.length ≤ 1000) :
    Calls Tryd.prog 5 #[.agg #[.int .u32 (h : Int), .int .u16 (p : Int)], .agg #[.int .u32 (h2 : Int), .int .u16 (p2 : Int)], .string s, .slice A l.length cap] w fun e w' => e = .returned (.bool true) ∧ Below w.heap.size w w' := by
  obtain ⟨b1, b2, hb0⟩ := box2 w (cellsA h p) (cellsA h2 p2)
  have B1 := Lib.hid b1
  have B2 := Lib.hid b2
  have HB := Lib.hid hb0
  clear b1 b2 hb0
  have HT := Lib.hid (tab_on ht HB.out)
  obtain ⟨X, Y, E, hp1, hr1, hx1⟩ := aparse_sym h p hh hp
  obtain ⟨X2, Y2, E2, hp2', hx2, hy2, hs2⟩ := aparse_sym2 s hs1
  obtain ⟨X3, Y3, E3, hr3, hx3, hy3, hs3⟩ := rd_sym l hB
  have HP1 := Lib.hid hp1
  have HP2 := Lib.hid hp2'
  have HS2 := Lib.hid hs2
  have HS3 := Lib.hid (hs3_of (HR.below HB.out) hs3)
  have HRD := Lib.hid (hrd_of (c := cap) (HR.below HB.out) hc hB hr3)
  have HG4 := Lib.hid (fun W => agood X2 Y2 W)
  have HG5 := Lib.hid (fun W => agood X3 Y3 W)
  have HT4 := Lib.hid (fun W (hW : TabAt W) => atext X2 Y2 W hx2 hy2 hW)
  have HY5 := Lib.hid (fun W => abytes X3 Y3 W hx3 hy3)
  have HX1 := Lib.hid hx1
  have HR1 := Lib.hid hr1
  have HG1 := Lib.hid (fun W => agood h p W)
  have HT1 := Lib.hid (fun W (hW : TabAt W) => atext h p W hh hp hW)
  have HT2 := Lib.hid (fun W (hW : TabAt W) => atext h2 p2 W hh2 hp2 hW)
  have HY1 := Lib.hid (fun W => abytes h p W hh hp)
  have HC1 := Lib.hid (fun W => acmp h p h2 p2 W hh hp hh2 hp2)
  have n1 : ¬ ((1000 : Int) < (s.size : Int)) := by omega
  have n2 : ¬ ((1000 : Int) < (l.length : Int)) := by omega
  clear ht hp1 hp2' hs2 hx1 hr1 HR hc hB hs1 hl1 hr3 hs3 hx2 hy2 hx3 hy3
  generalize hln : l.length = ln at *
  have HLN := Lib.hid hln
  clear hln
  go_enter Tryd.func5, Tryd.ntmps5
  go_upto_region 3 with fail
  generalize hg2 : w.heap.size + 1 = g2 at *
  generalize hg : w.heap.size = g1 at *
  generalize World.alloc (World.alloc w _) _ = W0 at *
  have c0 := (blk_cell B1.out 0).trans rfl
  have c1 := (blk_cell B1.out 1).trans rfl
  go_upto_region 4 with (first
    | (go_at_call 8; refine (HT1.out W0 HT.out).mono ?_; rintro e w1 ⟨rfl, hb1⟩)
    | (go_at_call 15; refine (HP1.out w1).mono ?_; unfold adr; rintro e w2 ⟨rfl, hb2⟩))
  have b12 := hb1.trans (hb2.mono hb1.size)
  have BX := Lib.hid (blk_new w2 (.cells #[.int .u32 (X : Int), .int .u16 (Y : Int)] 25))
  have HB3 := Lib.hid (b12.alloc b12.size (.cells #[.int .u32 (X : Int), .int .u16 (Y : Int)] 25))
  clear hb1 hb2 b12
  generalize w2.heap.size = g9 at *
  generalize World.alloc w2 _ = W3 at *
  have d0 := (blk_cell (blk_below B1.out HB3.out) 0).trans rfl
  have d1 := (blk_cell (blk_below B1.out HB3.out) 1).trans rfl
  go_upto_region 5 with (first
    | (go_at_call 10; refine (HY1.out W3).mono ?_; rintro e w3 ⟨A6, c6, rfl, hc6, ho6, hb3⟩; have HO6 := Lib.hid ho6; have HC6 := Lib.hid hc6; clear ho6 hc6)
    | (go_at_call 17; refine (aread_own HO6.out HC6.out HR1.out).mono ?_; unfold adr; rintro e w4 ⟨rfl, hb4⟩))
  have b34 := HB3.out.trans ((hb3.trans (hb4.mono hb3.size)).mono HB3.out.size)
  have BY := Lib.hid (blk_new w4 (.cells #[.int .u32 (X : Int), .int .u16 (Y : Int)] 25))
  have BX2 := Lib.hid (blk_below (blk_below BX.out (hb3.trans (hb4.mono hb3.size))) ((Below.refl _ _).alloc (Nat.le_refl _) (.cells #[.int .u32 (X : Int), .int .u16 (Y : Int)] 25)))
  have HB4 := Lib.hid (b34.alloc b34.size (.cells #[.int .u32 (X : Int), .int .u16 (Y : Int)] 25))
  clear hb3 hb4 b34 d0 d1 HO6 HC6 c0 c1
  generalize w4.heap.size = g11 at *
  generalize World.alloc w4 _ = W4 at *
  have d0 := (blk_cell (blk_below B1.out HB4.out) 0).trans rfl
  have d1 := (blk_cell (blk_below B1.out HB4.out) 1).trans rfl
  have x0 := (blk_cell BX2.out 0).trans rfl
  have x1 := (blk_cell BX2.out 1).trans rfl
  have y0 := (blk_cell BY.out 0).trans rfl
  have y1 := (blk_cell BY.out 1).trans rfl
  refine wp_meetS (σ := Value × Value × Value × Value × Value × Value × Value × Value × Value × Value × Value × Value × Value × Value × Value × Value × Value × Value × Value) (fun n a => ((((((((((((((((((((a.put (some 38) (n.1)).put (some 39) (n.2.1)).put (some 40) (n.2.2.1)).put (some 41) (n.2.2.2.1)).put (some 42) (n.2.2.2.2.1)).put (some 43) (n.2.2.2.2.2.1)).put (some 44) (n.2.2.2.2.2.2.1)).put (some 45) (n.2.2.2.2.2.2.2.1)).put (some 46) (n.2.2.2.2.2.2.2.2.1)).put (some 47) (n.2.2.2.2.2.2.2.2.2.1)).put (some 48) (n.2.2.2.2.2.2.2.2.2.2.1)).put (some 49) (n.2.2.2.2.2.2.2.2.2.2.2.1)).put (some 50) (n.2.2.2.2.2.2.2.2.2.2.2.2.1)).put (some 51) (n.2.2.2.2.2.2.2.2.2.2.2.2.2.1)).put (some 52) (n.2.2.2.2.2.2.2.2.2.2.2.2.2.2.1)).put (some 53) (n.2.2.2.2.2.2.2.2.2.2.2.2.2.2.2.1)).put (some 54) (n.2.2.2.2.2.2.2.2.2.2.2.2.2.2.2.2.1)).put (some 55) (n.2.2.2.2.2.2.2.2.2.2.2.2.2.2.2.2.2.1)).put (some 56) (n.2.2.2.2.2.2.2.2.2.2.2.2.2.2.2.2.2.2)).put (some 57) (.bool false))) (fun n w' => Below W4.heap.size W4 w') ?_ ?_
  rotate_left
  · intro K' h2
    simp only [Act.put, List.setIfInBounds_toArray, List.set_cons_zero, List.set_cons_succ] at h2
    have H2 := Lib.hid h2
    clear h2
    cases hgd : gd h p with
    | true =>
      rw [hgd] at HG1
      obtain ⟨rfl, rfl, rfl⟩ := HX1.out hgd
      clear hgd
      go_wp2_with (go_at_call 6; refine (HG1.out W4).mono ?_; rintro e w5 ⟨rfl, hb5⟩; have dd0 := (blk_cell (blk_below (blk_below B1.out HB4.out) hb5) 0).trans rfl; have dd1 := (blk_cell (blk_below (blk_below B1.out HB4.out) hb5) 1).trans rfl; have xx0 := (blk_cell (blk_below BX2.out hb5) 0).trans rfl; have xx1 := (blk_cell (blk_below BX2.out hb5) 1).trans rfl; have yy0 := (blk_cell (blk_below BY.out hb5) 0).trans rfl; have yy1 := (blk_cell (blk_below BY.out hb5) 1).trans rfl)
      exact H2.out (_, _, _, _, _, _, _, _, _, _, _, _, _, _, _, _, _, _, _) _ hb5
    | false =>
      rw [hgd] at HG1
      clear hgd
      go_wp2_with (go_at_call 6; refine (HG1.out W4).mono ?_; rintro e w5 ⟨rfl, hb5⟩)
      exact H2.out (_, _, _, _, _, _, _, _, _, _, _, _, _, _, _, _, _, _, _) _ hb5
  rintro n w5 hb5
  simp only [Act.put, List.setIfInBounds_toArray, List.set_cons_zero, List.set_cons_succ]
  have HB5 := Lib.hid (HB4.out.trans (hb5.mono HB4.out.size))
  clear hb5 d0 d1 x0 x1 y0 y1 BX BX2 BY HX1 HP1 HR1 HB3 HB4
  obtain ⟨v1, v2, v3, v4, v5, v6, v7, v8, v9, v10, v11, v12, v13, v14, v15, v16, v17, v18, v19⟩ := n
  dsimp only
  go_upto_region 7 with fail
  have hsd := Lib.hid (text_same2 h p h2 p2 hh hh2)
  have hcd := Lib.hid (show (cmpL (bL h p) (bL h2 p2) == 0) = same h p h2 p2 from by rw [← cmp_same h p h2 p2 hh hp hh2 hp2, Bool.eq_iff_iff, beq_iff_eq, decide_eq_true_iff])
  have hbd := Lib.hid (same_beq h p h2 p2)
  generalize same h p h2 p2 = sm at *
  have HB5d := HB5.out.drew
  refine wp_region_held_drew (S := fun w' => Below W0.heap.size W0 w' ∧ w'.cell? ⟨g1, 0, none⟩ = some (.int .u32 (h : Int)) ∧ w'.cell? ⟨g1, 1, none⟩ = some (.int .u16 (p : Int)) ∧ w'.cell? ⟨g2, 0, none⟩ = some (.int .u32 (h2 : Int)) ∧ w'.cell? ⟨g2, 1, none⟩ = some (.int .u16 (p2 : Int))) (by kernel_rfl) ⟨HB5d, (blk_cell (blk_below B1.out HB5d) 0).trans rfl, (blk_cell (blk_below B1.out HB5d) 1).trans rfl, (blk_cell (blk_below B2.out HB5d) 0).trans rfl, (blk_cell (blk_below B2.out HB5d) 1).trans rfl⟩ (fun hHeld => ?_)
  refine wpAnyH_take (i := 0) (oi := _) (v := ?_) (by simp only [List.getElem?_toArray, List.getElem?_cons_succ, List.getElem?_cons_zero]; rfl) (by kernel_rfl) (by kernel_rfl) (by kernel_rfl) (by intro _ _ _ h; exact h) (Or.inl ⟨by rfl, ?_⟩) hHeld ?_
  rotate_left
  focus (rintro w ⟨hbs, s0, s1, s2, s3⟩; go_simp; try with_reducible rfl)
  (try simp only [Act.put, List.setIfInBounds_toArray, List.set_cons_zero, List.set_cons_succ])
  refine wpAnyH_take (i := 2) (oi := _) (v := ?_) (by simp only [List.getElem?_toArray, List.getElem?_cons_succ, List.getElem?_cons_zero]; rfl) (by kernel_rfl) (by kernel_rfl) (by kernel_rfl) (by intro _ _ _ h; exact h) (Or.inl ⟨by rfl, ?_⟩) hHeld ?_
  rotate_left
  focus (rintro w ⟨hbs, s0, s1, s2, s3⟩; go_simp; try with_reducible rfl)
  (try simp only [Act.put, List.setIfInBounds_toArray, List.set_cons_zero, List.set_cons_succ])
  refine wpAnyH_take (i := 5) (oi := _) (v := ?_) (by simp only [List.getElem?_toArray, List.getElem?_cons_succ, List.getElem?_cons_zero]; rfl) (by kernel_rfl) (by kernel_rfl) (by kernel_rfl) (by intro _ _ _ h; exact h) (Or.inl ⟨by rfl, ?_⟩) hHeld ?_
  rotate_left
  focus (rintro w ⟨hbs, s0, s1, s2, s3⟩; go_simp; try with_reducible rfl)
  (try simp only [Act.put, List.setIfInBounds_toArray, List.set_cons_zero, List.set_cons_succ])
  refine wpAnyH_take (i := 6) (oi := _) (v := ?_) (by simp only [List.getElem?_toArray, List.getElem?_cons_succ, List.getElem?_cons_zero]; rfl) (by kernel_rfl) (by kernel_rfl) (by kernel_rfl) (by intro _ _ _ h; exact h) (Or.inl ⟨by rfl, ?_⟩) hHeld ?_
  rotate_left
  focus (rintro w ⟨hbs, s0, s1, s2, s3⟩; go_simp; try with_reducible rfl)
  (try simp only [Act.put, List.setIfInBounds_toArray, List.set_cons_zero, List.set_cons_succ])
  refine wpAnyH_take (i := 7) (oi := _) (v := .bool sm) (by simp only [List.getElem?_toArray, List.getElem?_cons_succ, List.getElem?_cons_zero]; rfl) (by kernel_rfl) (by kernel_rfl) (by kernel_rfl) (by intro _ _ _ h; exact h) (Or.inl ⟨by rfl, fun w hSw => by go_simp; rw [← hbd.out]; by_cases e1 : (h : Int) = h2 <;> by_cases e2 : (p : Int) = p2 <;> simp [e1, e2]⟩) hHeld ?_
  (try simp only [Act.put, List.setIfInBounds_toArray, List.set_cons_zero, List.set_cons_succ])
  refine wpAnyH_ready (rs := [1]) (by kernel_rfl) (by simp) ?_
  refine AllReadyH.cons rfl (fun K hK => ?_) ?_
  rotate_left
  · exact AllReadyH.nil
  go_simp
  go_at_call 8
  refine (HT1.out _ (tab_on HT.out hHeld.1)).mono ?_
  rintro e w6 ⟨rfl, hbk⟩
  go_wp2_with fail
  have hqw6 : Below W0.heap.size W0 w6 := hHeld.1.trans (hbk.mono hHeld.1.size)
  clear hbk
  refine hK.out _ _ ⟨hqw6, (blk_cell (blk_below B1.out hqw6) 0).trans rfl, (blk_cell (blk_below B1.out hqw6) 1).trans rfl, (blk_cell (blk_below B2.out hqw6) 0).trans rfl, (blk_cell (blk_below B2.out hqw6) 1).trans rfl⟩ (fun hHeld => ?_)
  clear hK K
  (try simp only [Act.put, List.setIfInBounds_toArray, List.set_cons_zero, List.set_cons_succ])
  refine wpAnyH_ready (rs := [3]) (by kernel_rfl) (by simp) ?_
  refine AllReadyH.cons rfl (fun K hK => ?_) ?_
  rotate_left
  · exact AllReadyH.nil
  go_simp
  go_at_call 8
  refine (HT2.out _ (tab_on HT.out hHeld.1)).mono ?_
  rintro e w7 ⟨rfl, hbk⟩
  go_wp2_with fail
  have hqw7 : Below W0.heap.size W0 w7 := hHeld.1.trans (hbk.mono hHeld.1.size)
  clear hbk
  refine hK.out _ _ ⟨hqw7, (blk_cell (blk_below B1.out hqw7) 0).trans rfl, (blk_cell (blk_below B1.out hqw7) 1).trans rfl, (blk_cell (blk_below B2.out hqw7) 0).trans rfl, (blk_cell (blk_below B2.out hqw7) 1).trans rfl⟩ (fun hHeld => ?_)
  clear hK K
  (try simp only [Act.put, List.setIfInBounds_toArray, List.set_cons_zero, List.set_cons_succ])
  refine wpAnyH_take (i := 4) (oi := _) (v := .bool sm) (by simp only [List.getElem?_toArray, List.getElem?_cons_succ, List.getElem?_cons_zero]; rfl) (by kernel_rfl) (by kernel_rfl) (by kernel_rfl) (by intro _ _ _ h; exact h) (Or.inl ⟨by rfl, fun w hSw => by go_simp; exact hsd.out⟩) hHeld ?_
  (try simp only [Act.put, List.setIfInBounds_toArray, List.set_cons_zero, List.set_cons_succ])
  refine wpAnyH_take (i := 8) (oi := _) (v := .bool false) (by simp only [List.getElem?_toArray, List.getElem?_cons_succ, List.getElem?_cons_zero]; rfl) (by kernel_rfl) (by kernel_rfl) (by kernel_rfl) (by intro _ _ _ h; exact h) (Or.inl ⟨by rfl, fun w hSw => by go_simp; all_goals simp⟩) hHeld ?_
  (try simp only [Act.put, List.setIfInBounds_toArray, List.set_cons_zero, List.set_cons_succ])
  refine wpAnyH_take (i := 9) (oi := _) (v := ?_) (by simp only [List.getElem?_toArray, List.getElem?_cons_succ, List.getElem?_cons_zero]; rfl) (by kernel_rfl) (by kernel_rfl) (by kernel_rfl) (by intro _ _ _ h; exact h) (Or.inl ⟨by rfl, ?_⟩) hHeld ?_
  rotate_left
  focus (rintro w ⟨hbs, s0, s1, s2, s3⟩; go_simp; try with_reducible rfl)
  (try simp only [Act.put, List.setIfInBounds_toArray, List.set_cons_zero, List.set_cons_succ])
  refine wpAnyH_take (i := 10) (oi := _) (v := ?_) (by simp only [List.getElem?_toArray, List.getElem?_cons_succ, List.getElem?_cons_zero]; rfl) (by kernel_rfl) (by kernel_rfl) (by kernel_rfl) (by intro _ _ _ h; exact h) (Or.inl ⟨by rfl, ?_⟩) hHeld ?_
  rotate_left
  focus (rintro w ⟨hbs, s0, s1, s2, s3⟩; go_simp; try with_reducible rfl)
  (try simp only [Act.put, List.setIfInBounds_toArray, List.set_cons_zero, List.set_cons_succ])
  refine wpAnyH_take (i := 11) (oi := _) (v := ?_) (by simp only [List.getElem?_toArray, List.getElem?_cons_succ, List.getElem?_cons_zero]; rfl) (by kernel_rfl) (by kernel_rfl) (by kernel_rfl) (by intro _ _ _ h; exact h) (Or.inl ⟨by rfl, ?_⟩) hHeld ?_
  rotate_left
  focus (rintro w ⟨hbs, s0, s1, s2, s3⟩; go_simp; try with_reducible rfl)
  (try simp only [Act.put, List.setIfInBounds_toArray, List.set_cons_zero, List.set_cons_succ])
  refine wpAnyH_take (i := 14) (oi := _) (v := ?_) (by simp only [List.getElem?_toArray, List.getElem?_cons_succ, List.getElem?_cons_zero]; rfl) (by kernel_rfl) (by kernel_rfl) (by kernel_rfl) (by intro _ _ _ h; exact h) (Or.inl ⟨by rfl, ?_⟩) hHeld ?_
  rotate_left
  focus (rintro w ⟨hbs, s0, s1, s2, s3⟩; go_simp; try with_reducible rfl)
  (try simp only [Act.put, List.setIfInBounds_toArray, List.set_cons_zero, List.set_cons_succ])
  refine wpAnyH_take (i := 15) (oi := _) (v := ?_) (by simp only [List.getElem?_toArray, List.getElem?_cons_succ, List.getElem?_cons_zero]; rfl) (by kernel_rfl) (by kernel_rfl) (by kernel_rfl) (by intro _ _ _ h; exact h) (Or.inl ⟨by rfl, ?_⟩) hHeld ?_
  rotate_left
  focus (rintro w ⟨hbs, s0, s1, s2, s3⟩; go_simp; try with_reducible rfl)
  (try simp only [Act.put, List.setIfInBounds_toArray, List.set_cons_zero, List.set_cons_succ])
  refine wpAnyH_take (i := 16) (oi := _) (v := .bool sm) (by simp only [List.getElem?_toArray, List.getElem?_cons_succ, List.getElem?_cons_zero]; rfl) (by kernel_rfl) (by kernel_rfl) (by kernel_rfl) (by intro _ _ _ h; exact h) (Or.inl ⟨by rfl, fun w hSw => by go_simp; rw [← hbd.out]; by_cases e1 : (h : Int) = h2 <;> by_cases e2 : (p : Int) = p2 <;> simp [e1, e2]⟩) hHeld ?_
  (try simp only [Act.put, List.setIfInBounds_toArray, List.set_cons_zero, List.set_cons_succ])
  refine wpAnyH_ready (rs := [12]) (by kernel_rfl) (by simp) ?_
  refine AllReadyH.cons rfl (fun K hK => ?_) ?_
  rotate_left
  · exact AllReadyH.nil
  go_simp
  go_at_call 12
  refine (HC1.out _).mono ?_
  rintro e w8 ⟨rfl, hbk⟩
  go_wp2_with fail
  have hqw8 : Below W0.heap.size W0 w8 := hHeld.1.trans (hbk.mono hHeld.1.size)
  clear hbk
  refine hK.out _ _ ⟨hqw8, (blk_cell (blk_below B1.out hqw8) 0).trans rfl, (blk_cell (blk_below B1.out hqw8) 1).trans rfl, (blk_cell (blk_below B2.out hqw8) 0).trans rfl, (blk_cell (blk_below B2.out hqw8) 1).trans rfl⟩ (fun hHeld => ?_)
  clear hK K
  (try simp only [Act.put, List.setIfInBounds_toArray, List.set_cons_zero, List.set_cons_succ])
  refine wpAnyH_take (i := 13) (oi := _) (v := .bool sm) (by simp only [List.getElem?_toArray, List.getElem?_cons_succ, List.getElem?_cons_zero]; rfl) (by kernel_rfl) (by kernel_rfl) (by kernel_rfl) (by intro _ _ _ h; exact h) (Or.inl ⟨by rfl, fun w hSw => by go_simp; exact hcd.out⟩) hHeld ?_
  (try simp only [Act.put, List.setIfInBounds_toArray, List.set_cons_zero, List.set_cons_succ])
  refine wpAnyH_take (i := 17) (oi := _) (v := .bool false) (by simp only [List.getElem?_toArray, List.getElem?_cons_succ, List.getElem?_cons_zero]; rfl) (by kernel_rfl) (by kernel_rfl) (by kernel_rfl) (by intro _ _ _ h; exact h) (Or.inl ⟨by rfl, fun w hSw => by go_simp; all_goals simp⟩) hHeld ?_
  (try simp only [Act.put, List.setIfInBounds_toArray, List.set_cons_zero, List.set_cons_succ])
  refine wpAnyH_take (i := 18) (oi := _) (v := ?_) (by simp only [List.getElem?_toArray, List.getElem?_cons_succ, List.getElem?_cons_zero]; rfl) (by kernel_rfl) (by kernel_rfl) (by kernel_rfl) (by intro _ _ _ h; exact h) (Or.inl ⟨by rfl, ?_⟩) hHeld ?_
  rotate_left
  focus (rintro w ⟨hbs, s0, s1, s2, s3⟩; go_simp; try with_reducible rfl)
  (try simp only [Act.put, List.setIfInBounds_toArray, List.set_cons_zero, List.set_cons_succ])
  refine wpAnyH_done (by kernel_rfl) ?_ _
  have B15 := Lib.hid hHeld.1
  clear hHeld HB5 HB5d B1 B2 HG1 HT1 HT2 HY1 HC1 hsd hcd hbd
  go_upto_region 10 with (go_at_call 15; refine (HP2.out _).mono ?_; unfold adr; rintro e w9 ⟨rfl, hb9⟩)
  have hs9 := B15.out.trans (hb9.mono B15.out.size)
  have BP := Lib.hid (blk_new w9 (.cells #[.int .u32 (X2 : Int), .int .u16 (Y2 : Int)] 25))
  have HB9 := Lib.hid (hs9.alloc hs9.size (.cells #[.int .u32 (X2 : Int), .int .u16 (Y2 : Int)] 25))
  clear hb9 hs9 B15
  generalize w9.heap.size = g13 at *
  generalize World.alloc w9 _ = W9 at *
  go_upto_region 11 with (go_at_call 17; refine (HRD.out _ HB9.out).mono ?_; unfold adr; rintro e w10 ⟨rfl, hb10⟩)
  have hs10 := HB9.out.trans (hb10.mono HB9.out.size)
  have BQ := Lib.hid (blk_new w10 (.cells #[.int .u32 (X3 : Int), .int .u16 (Y3 : Int)] 25))
  replace BP := Lib.hid (blk_below (blk_below BP.out hb10) ((Below.refl _ _).alloc (Nat.le_refl _) (.cells #[.int .u32 (X3 : Int), .int .u16 (Y3 : Int)] 25)))
  have HB10 := Lib.hid (hs10.alloc hs10.size (.cells #[.int .u32 (X3 : Int), .int .u16 (Y3 : Int)] 25))
  clear hb10 hs10 HB9
  generalize w10.heap.size = g15 at *
  generalize World.alloc w10 _ = W10 at *
  rcases HS2.out with rfl | ⟨rfl, hg2', rfl⟩
  · clear HG4 HT4 HS2
    rcases HS3.out with rfl | ⟨rfl, hg3, rfl, hRL⟩
    · clear HG5 HY5 HS3
      refine wp_region_held_drew (S := fun w' => Below W10.heap.size W10 w' ∧ w'.cell? ⟨g13, 0, none⟩ = some (.int .u32 (X2 : Int)) ∧ w'.cell? ⟨g13, 1, none⟩ = some (.int .u16 (Y2 : Int)) ∧ w'.cell? ⟨g15, 0, none⟩ = some (.int .u32 (X3 : Int)) ∧ w'.cell? ⟨g15, 1, none⟩ = some (.int .u16 (Y3 : Int))) (by kernel_rfl) ⟨((Below.refl W10.heap.size W10).drew), (blk_cell (blk_below BP.out ((Below.refl W10.heap.size W10).drew)) 0).trans rfl, (blk_cell (blk_below BP.out ((Below.refl W10.heap.size W10).drew)) 1).trans rfl, (blk_cell (blk_below BQ.out ((Below.refl W10.heap.size W10).drew)) 0).trans rfl, (blk_cell (blk_below BQ.out ((Below.refl W10.heap.size W10).drew)) 1).trans rfl⟩ (fun hHeld => ?_)
      refine wpAnyH_take (i := 0) (oi := _) (v := ?_) (by simp only [List.getElem?_toArray, List.getElem?_cons_succ, List.getElem?_cons_zero]; rfl) (by kernel_rfl) (by kernel_rfl) (by kernel_rfl) (by intro _ _ _ h; exact h) (Or.inl ⟨by rfl, ?_⟩) hHeld ?_
      rotate_left
      focus (rintro w ⟨hbs, s0, s1, s2, s3⟩; go_simp; try with_reducible rfl)
      (try simp only [Act.put, List.setIfInBounds_toArray, List.set_cons_zero, List.set_cons_succ])
      refine wpAnyH_take (i := 1) (oi := _) (v := .bool false) (by simp only [List.getElem?_toArray, List.getElem?_cons_succ, List.getElem?_cons_zero]; rfl) (by kernel_rfl) (by kernel_rfl) (by kernel_rfl) (by intro _ _ _ h; exact h) (Or.inl ⟨by rfl, fun w hSw => by go_simp; all_goals simp⟩) hHeld ?_
      (try simp only [Act.put, List.setIfInBounds_toArray, List.set_cons_zero, List.set_cons_succ])
      refine wpAnyH_take (i := 2) (oi := _) (v := ?_) (by simp only [List.getElem?_toArray, List.getElem?_cons_succ, List.getElem?_cons_zero]; rfl) (by kernel_rfl) (by kernel_rfl) (by kernel_rfl) (by intro _ _ _ h; exact h) (Or.inl ⟨by rfl, ?_⟩) hHeld ?_
      rotate_left
      focus (rintro w ⟨hbs, s0, s1, s2, s3⟩; go_simp; try with_reducible rfl)
      (try simp only [Act.put, List.setIfInBounds_toArray, List.set_cons_zero, List.set_cons_succ])
      refine wpAnyH_take (i := 3) (oi := _) (v := undef) (by simp only [List.getElem?_toArray, List.getElem?_cons_succ, List.getElem?_cons_zero]; rfl) (by kernel_rfl) (by kernel_rfl) (by kernel_rfl) (by intro _ _ _ h; exact h) (Or.inr ⟨by rfl, rfl⟩) hHeld ?_
      (try simp only [Act.put, List.setIfInBounds_toArray, List.set_cons_zero, List.set_cons_succ])
      refine wpAnyH_take (i := 4) (oi := _) (v := undef) (by simp only [List.getElem?_toArray, List.getElem?_cons_succ, List.getElem?_cons_zero]; rfl) (by kernel_rfl) (by kernel_rfl) (by kernel_rfl) (by intro _ _ _ h; exact h) (Or.inr ⟨by rfl, rfl⟩) hHeld ?_
      (try simp only [Act.put, List.setIfInBounds_toArray, List.set_cons_zero, List.set_cons_succ])
      refine wpAnyH_take (i := 5) (oi := _) (v := undef) (by simp only [List.getElem?_toArray, List.getElem?_cons_succ, List.getElem?_cons_zero]; rfl) (by kernel_rfl) (by kernel_rfl) (by kernel_rfl) (by intro _ _ _ h; exact h) (Or.inr ⟨by rfl, rfl⟩) hHeld ?_
      (try simp only [Act.put, List.setIfInBounds_toArray, List.set_cons_zero, List.set_cons_succ])
      refine wpAnyH_take (i := 6) (oi := _) (v := undef) (by simp only [List.getElem?_toArray, List.getElem?_cons_succ, List.getElem?_cons_zero]; rfl) (by kernel_rfl) (by kernel_rfl) (by kernel_rfl) (by intro _ _ _ h; exact h) (Or.inr ⟨by rfl, rfl⟩) hHeld ?_
      (try simp only [Act.put, List.setIfInBounds_toArray, List.set_cons_zero, List.set_cons_succ])
      refine wpAnyH_take (i := 7) (oi := _) (v := undef) (by simp only [List.getElem?_toArray, List.getElem?_cons_succ, List.getElem?_cons_zero]; rfl) (by kernel_rfl) (by kernel_rfl) (by kernel_rfl) (by intro _ _ _ h; exact h) (Or.inr ⟨by rfl, rfl⟩) hHeld ?_
      (try simp only [Act.put, List.setIfInBounds_toArray, List.set_cons_zero, List.set_cons_succ])
      refine wpAnyH_take (i := 8) (oi := _) (v := undef) (by simp only [List.getElem?_toArray, List.getElem?_cons_succ, List.getElem?_cons_zero]; rfl) (by kernel_rfl) (by kernel_rfl) (by kernel_rfl) (by intro _ _ _ h; exact h) (Or.inr ⟨by rfl, rfl⟩) hHeld ?_
      (try simp only [Act.put, List.setIfInBounds_toArray, List.set_cons_zero, List.set_cons_succ])
      refine wpAnyH_take (i := 9) (oi := _) (v := undef) (by simp only [List.getElem?_toArray, List.getElem?_cons_succ, List.getElem?_cons_zero]; rfl) (by kernel_rfl) (by kernel_rfl) (by kernel_rfl) (by intro _ _ _ h; exact h) (Or.inr ⟨by rfl, rfl⟩) hHeld ?_
      (try simp only [Act.put, List.setIfInBounds_toArray, List.set_cons_zero, List.set_cons_succ])
      refine wpAnyH_take (i := 10) (oi := _) (v := undef) (by simp only [List.getElem?_toArray, List.getElem?_cons_succ, List.getElem?_cons_zero]; rfl) (by kernel_rfl) (by kernel_rfl) (by kernel_rfl) (by intro _ _ _ h; exact h) (Or.inr ⟨by rfl, rfl⟩) hHeld ?_
      (try simp only [Act.put, List.setIfInBounds_toArray, List.set_cons_zero, List.set_cons_succ])
      refine wpAnyH_take (i := 11) (oi := _) (v := undef) (by simp only [List.getElem?_toArray, List.getElem?_cons_succ, List.getElem?_cons_zero]; rfl) (by kernel_rfl) (by kernel_rfl) (by kernel_rfl) (by intro _ _ _ h; exact h) (Or.inr ⟨by rfl, rfl⟩) hHeld ?_
      (try simp only [Act.put, List.setIfInBounds_toArray, List.set_cons_zero, List.set_cons_succ])
      refine wpAnyH_take (i := 12) (oi := _) (v := ?_) (by simp only [List.getElem?_toArray, List.getElem?_cons_succ, List.getElem?_cons_zero]; rfl) (by kernel_rfl) (by kernel_rfl) (by kernel_rfl) (by intro _ _ _ h; exact h) (Or.inl ⟨by rfl, ?_⟩) hHeld ?_
      rotate_left
      focus (rintro w ⟨hbs, s0, s1, s2, s3⟩; go_simp; try with_reducible rfl)
      (try simp only [Act.put, List.setIfInBounds_toArray, List.set_cons_zero, List.set_cons_succ])
      refine wpAnyH_take (i := 13) (oi := _) (v := ?_) (by simp only [List.getElem?_toArray, List.getElem?_cons_succ, List.getElem?_cons_zero]; rfl) (by kernel_rfl) (by kernel_rfl) (by kernel_rfl) (by intro _ _ _ h; exact h) (Or.inl ⟨by rfl, ?_⟩) hHeld ?_
      rotate_left
      focus (rintro w ⟨hbs, s0, s1, s2, s3⟩; go_simp; try with_reducible rfl)
      (try simp only [Act.put, List.setIfInBounds_toArray, List.set_cons_zero, List.set_cons_succ])
      refine wpAnyH_take (i := 14) (oi := _) (v := ?_) (by simp only [List.getElem?_toArray, List.getElem?_cons_succ, List.getElem?_cons_zero]; rfl) (by kernel_rfl) (by kernel_rfl) (by kernel_rfl) (by intro _ _ _ h; exact h) (Or.inl ⟨by rfl, ?_⟩) hHeld ?_
      rotate_left
      focus (rintro w ⟨hbs, s0, s1, s2, s3⟩; go_simp; try with_reducible rfl)
      (try simp only [Act.put, List.setIfInBounds_toArray, List.set_cons_zero, List.set_cons_succ])
      refine wpAnyH_take (i := 15) (oi := _) (v := .bool false) (by simp only [List.getElem?_toArray, List.getElem?_cons_succ, List.getElem?_cons_zero]; rfl) (by kernel_rfl) (by kernel_rfl) (by kernel_rfl) (by intro _ _ _ h; exact h) (Or.inl ⟨by rfl, fun w hSw => by go_simp; all_goals simp⟩) hHeld ?_
      (try simp only [Act.put, List.setIfInBounds_toArray, List.set_cons_zero, List.set_cons_succ])
      refine wpAnyH_take (i := 16) (oi := _) (v := ?_) (by simp only [List.getElem?_toArray, List.getElem?_cons_succ, List.getElem?_cons_zero]; rfl) (by kernel_rfl) (by kernel_rfl) (by kernel_rfl) (by intro _ _ _ h; exact h) (Or.inl ⟨by rfl, ?_⟩) hHeld ?_
      rotate_left
      focus (rintro w ⟨hbs, s0, s1, s2, s3⟩; go_simp; try with_reducible rfl)
      (try simp only [Act.put, List.setIfInBounds_toArray, List.set_cons_zero, List.set_cons_succ])
      refine wpAnyH_take (i := 17) (oi := _) (v := undef) (by simp only [List.getElem?_toArray, List.getElem?_cons_succ, List.getElem?_cons_zero]; rfl) (by kernel_rfl) (by kernel_rfl) (by kernel_rfl) (by intro _ _ _ h; exact h) (Or.inr ⟨by rfl, rfl⟩) hHeld ?_
      (try simp only [Act.put, List.setIfInBounds_toArray, List.set_cons_zero, List.set_cons_succ])
      refine wpAnyH_take (i := 18) (oi := _) (v := undef) (by simp only [List.getElem?_toArray, List.getElem?_cons_succ, List.getElem?_cons_zero]; rfl) (by kernel_rfl) (by kernel_rfl) (by kernel_rfl) (by intro _ _ _ h; exact h) (Or.inr ⟨by rfl, rfl⟩) hHeld ?_
      (try simp only [Act.put, List.setIfInBounds_toArray, List.set_cons_zero, List.set_cons_succ])
      refine wpAnyH_take (i := 19) (oi := _) (v := undef) (by simp only [List.getElem?_toArray, List.getElem?_cons_succ, List.getElem?_cons_zero]; rfl) (by kernel_rfl) (by kernel_rfl) (by kernel_rfl) (by intro _ _ _ h; exact h) (Or.inr ⟨by rfl, rfl⟩) hHeld ?_
      (try simp only [Act.put, List.setIfInBounds_toArray, List.set_cons_zero, List.set_cons_succ])
      refine wpAnyH_take (i := 20) (oi := _) (v := undef) (by simp only [List.getElem?_toArray, List.getElem?_cons_succ, List.getElem?_cons_zero]; rfl) (by kernel_rfl) (by kernel_rfl) (by kernel_rfl) (by intro _ _ _ h; exact h) (Or.inr ⟨by rfl, rfl⟩) hHeld ?_
      (try simp only [Act.put, List.setIfInBounds_toArray, List.set_cons_zero, List.set_cons_succ])
      refine wpAnyH_take (i := 21) (oi := _) (v := undef) (by simp only [List.getElem?_toArray, List.getElem?_cons_succ, List.getElem?_cons_zero]; rfl) (by kernel_rfl) (by kernel_rfl) (by kernel_rfl) (by intro _ _ _ h; exact h) (Or.inr ⟨by rfl, rfl⟩) hHeld ?_
      (try simp only [Act.put, List.setIfInBounds_toArray, List.set_cons_zero, List.set_cons_succ])
      refine wpAnyH_take (i := 22) (oi := _) (v := undef) (by simp only [List.getElem?_toArray, List.getElem?_cons_succ, List.getElem?_cons_zero]; rfl) (by kernel_rfl) (by kernel_rfl) (by kernel_rfl) (by intro _ _ _ h; exact h) (Or.inr ⟨by rfl, rfl⟩) hHeld ?_
      (try simp only [Act.put, List.setIfInBounds_toArray, List.set_cons_zero, List.set_cons_succ])
      refine wpAnyH_take (i := 23) (oi := _) (v := undef) (by simp only [List.getElem?_toArray, List.getElem?_cons_succ, List.getElem?_cons_zero]; rfl) (by kernel_rfl) (by kernel_rfl) (by kernel_rfl) (by intro _ _ _ h; exact h) (Or.inr ⟨by rfl, rfl⟩) hHeld ?_
      (try simp only [Act.put, List.setIfInBounds_toArray, List.set_cons_zero, List.set_cons_succ])
      refine wpAnyH_take (i := 24) (oi := _) (v := undef) (by simp only [List.getElem?_toArray, List.getElem?_cons_succ, List.getElem?_cons_zero]; rfl) (by kernel_rfl) (by kernel_rfl) (by kernel_rfl) (by intro _ _ _ h; exact h) (Or.inr ⟨by rfl, rfl⟩) hHeld ?_
      (try simp only [Act.put, List.setIfInBounds_toArray, List.set_cons_zero, List.set_cons_succ])
      refine wpAnyH_take (i := 25) (oi := _) (v := undef) (by simp only [List.getElem?_toArray, List.getElem?_cons_succ, List.getElem?_cons_zero]; rfl) (by kernel_rfl) (by kernel_rfl) (by kernel_rfl) (by intro _ _ _ h; exact h) (Or.inr ⟨by rfl, rfl⟩) hHeld ?_
      (try simp only [Act.put, List.setIfInBounds_toArray, List.set_cons_zero, List.set_cons_succ])
      refine wpAnyH_take (i := 26) (oi := _) (v := undef) (by simp only [List.getElem?_toArray, List.getElem?_cons_succ, List.getElem?_cons_zero]; rfl) (by kernel_rfl) (by kernel_rfl) (by kernel_rfl) (by intro _ _ _ h; exact h) (Or.inr ⟨by rfl, rfl⟩) hHeld ?_
      (try simp only [Act.put, List.setIfInBounds_toArray, List.set_cons_zero, List.set_cons_succ])
      refine wpAnyH_take (i := 27) (oi := _) (v := undef) (by simp only [List.getElem?_toArray, List.getElem?_cons_succ, List.getElem?_cons_zero]; rfl) (by kernel_rfl) (by kernel_rfl) (by kernel_rfl) (by intro _ _ _ h; exact h) (Or.inr ⟨by rfl, rfl⟩) hHeld ?_
      (try simp only [Act.put, List.setIfInBounds_toArray, List.set_cons_zero, List.set_cons_succ])
      refine wpAnyH_take (i := 28) (oi := _) (v := ?_) (by simp only [List.getElem?_toArray, List.getElem?_cons_succ, List.getElem?_cons_zero]; rfl) (by kernel_rfl) (by kernel_rfl) (by kernel_rfl) (by intro _ _ _ h; exact h) (Or.inl ⟨by rfl, ?_⟩) hHeld ?_
      rotate_left
      focus (rintro w ⟨hbs, s0, s1, s2, s3⟩; go_simp; try with_reducible rfl)
      (try simp only [Act.put, List.setIfInBounds_toArray, List.set_cons_zero, List.set_cons_succ])
      refine wpAnyH_take (i := 29) (oi := _) (v := ?_) (by simp only [List.getElem?_toArray, List.getElem?_cons_succ, List.getElem?_cons_zero]; rfl) (by kernel_rfl) (by kernel_rfl) (by kernel_rfl) (by intro _ _ _ h; exact h) (Or.inl ⟨by rfl, ?_⟩) hHeld ?_
      rotate_left
      focus (rintro w ⟨hbs, s0, s1, s2, s3⟩; go_simp; try with_reducible rfl)
      (try simp only [Act.put, List.setIfInBounds_toArray, List.set_cons_zero, List.set_cons_succ])
      refine wpAnyH_done (by kernel_rfl) ?_ _
      have HB11 := Lib.hid (HB10.out.trans (hHeld.1.mono HB10.out.size))
      clear hHeld
      have HLV := Lib.hid (alives _ (tab_on HT.out HB11.out))
      go_wp2_with (go_at_call 14; refine HLV.out.mono ?_; rintro e w20 ⟨rfl, hbk⟩)
      go_ret
      exact ⟨rfl, hg ▸ HB.out.trans ((HB11.out.trans (hbk.mono HB11.out.size)).mono (by have := HB.out.size; omega))⟩
    · have HRL := Lib.hid hRL
      rw [hg3] at HG5
      clear hg3 hRL HS3
      refine wp_region_held_drew (S := fun w' => Below W10.heap.size W10 w' ∧ w'.cell? ⟨g13, 0, none⟩ = some (.int .u32 (X2 : Int)) ∧ w'.cell? ⟨g13, 1, none⟩ = some (.int .u16 (Y2 : Int)) ∧ w'.cell? ⟨g15, 0, none⟩ = some (.int .u32 (X3 : Int)) ∧ w'.cell? ⟨g15, 1, none⟩ = some (.int .u16 (Y3 : Int))) (by kernel_rfl) ⟨((Below.refl W10.heap.size W10).drew), (blk_cell (blk_below BP.out ((Below.refl W10.heap.size W10).drew)) 0).trans rfl, (blk_cell (blk_below BP.out ((Below.refl W10.heap.size W10).drew)) 1).trans rfl, (blk_cell (blk_below BQ.out ((Below.refl W10.heap.size W10).drew)) 0).trans rfl, (blk_cell (blk_below BQ.out ((Below.refl W10.heap.size W10).drew)) 1).trans rfl⟩ (fun hHeld => ?_)
      refine wpAnyH_take (i := 0) (oi := _) (v := ?_) (by simp only [List.getElem?_toArray, List.getElem?_cons_succ, List.getElem?_cons_zero]; rfl) (by kernel_rfl) (by kernel_rfl) (by kernel_rfl) (by intro _ _ _ h; exact h) (Or.inl ⟨by rfl, ?_⟩) hHeld ?_
      rotate_left
      focus (rintro w ⟨hbs, s0, s1, s2, s3⟩; go_simp; try with_reducible rfl)
      (try simp only [Act.put, List.setIfInBounds_toArray, List.set_cons_zero, List.set_cons_succ])
      refine wpAnyH_take (i := 1) (oi := _) (v := .bool false) (by simp only [List.getElem?_toArray, List.getElem?_cons_succ, List.getElem?_cons_zero]; rfl) (by kernel_rfl) (by kernel_rfl) (by kernel_rfl) (by intro _ _ _ h; exact h) (Or.inl ⟨by rfl, fun w hSw => by go_simp; all_goals simp⟩) hHeld ?_
      (try simp only [Act.put, List.setIfInBounds_toArray, List.set_cons_zero, List.set_cons_succ])
      refine wpAnyH_take (i := 2) (oi := _) (v := ?_) (by simp only [List.getElem?_toArray, List.getElem?_cons_succ, List.getElem?_cons_zero]; rfl) (by kernel_rfl) (by kernel_rfl) (by kernel_rfl) (by intro _ _ _ h; exact h) (Or.inl ⟨by rfl, ?_⟩) hHeld ?_
      rotate_left
      focus (rintro w ⟨hbs, s0, s1, s2, s3⟩; go_simp; try with_reducible rfl)
      (try simp only [Act.put, List.setIfInBounds_toArray, List.set_cons_zero, List.set_cons_succ])
      refine wpAnyH_take (i := 3) (oi := _) (v := undef) (by simp only [List.getElem?_toArray, List.getElem?_cons_succ, List.getElem?_cons_zero]; rfl) (by kernel_rfl) (by kernel_rfl) (by kernel_rfl) (by intro _ _ _ h; exact h) (Or.inr ⟨by rfl, rfl⟩) hHeld ?_
      (try simp only [Act.put, List.setIfInBounds_toArray, List.set_cons_zero, List.set_cons_succ])
      refine wpAnyH_take (i := 4) (oi := _) (v := undef) (by simp only [List.getElem?_toArray, List.getElem?_cons_succ, List.getElem?_cons_zero]; rfl) (by kernel_rfl) (by kernel_rfl) (by kernel_rfl) (by intro _ _ _ h; exact h) (Or.inr ⟨by rfl, rfl⟩) hHeld ?_
      (try simp only [Act.put, List.setIfInBounds_toArray, List.set_cons_zero, List.set_cons_succ])
      refine wpAnyH_take (i := 5) (oi := _) (v := undef) (by simp only [List.getElem?_toArray, List.getElem?_cons_succ, List.getElem?_cons_zero]; rfl) (by kernel_rfl) (by kernel_rfl) (by kernel_rfl) (by intro _ _ _ h; exact h) (Or.inr ⟨by rfl, rfl⟩) hHeld ?_
      (try simp only [Act.put, List.setIfInBounds_toArray, List.set_cons_zero, List.set_cons_succ])
      refine wpAnyH_take (i := 6) (oi := _) (v := undef) (by simp only [List.getElem?_toArray, List.getElem?_cons_succ, List.getElem?_cons_zero]; rfl) (by kernel_rfl) (by kernel_rfl) (by kernel_rfl) (by intro _ _ _ h; exact h) (Or.inr ⟨by rfl, rfl⟩) hHeld ?_
      (try simp only [Act.put, List.setIfInBounds_toArray, List.set_cons_zero, List.set_cons_succ])
      refine wpAnyH_take (i := 7) (oi := _) (v := undef) (by simp only [List.getElem?_toArray, List.getElem?_cons_succ, List.getElem?_cons_zero]; rfl) (by kernel_rfl) (by kernel_rfl) (by kernel_rfl) (by intro _ _ _ h; exact h) (Or.inr ⟨by rfl, rfl⟩) hHeld ?_
      (try simp only [Act.put, List.setIfInBounds_toArray, List.set_cons_zero, List.set_cons_succ])
      refine wpAnyH_take (i := 8) (oi := _) (v := undef) (by simp only [List.getElem?_toArray, List.getElem?_cons_succ, List.getElem?_cons_zero]; rfl) (by kernel_rfl) (by kernel_rfl) (by kernel_rfl) (by intro _ _ _ h; exact h) (Or.inr ⟨by rfl, rfl⟩) hHeld ?_
      (try simp only [Act.put, List.setIfInBounds_toArray, List.set_cons_zero, List.set_cons_succ])
      refine wpAnyH_take (i := 9) (oi := _) (v := undef) (by simp only [List.getElem?_toArray, List.getElem?_cons_succ, List.getElem?_cons_zero]; rfl) (by kernel_rfl) (by kernel_rfl) (by kernel_rfl) (by intro _ _ _ h; exact h) (Or.inr ⟨by rfl, rfl⟩) hHeld ?_
      (try simp only [Act.put, List.setIfInBounds_toArray, List.set_cons_zero, List.set_cons_succ])
      refine wpAnyH_take (i := 10) (oi := _) (v := undef) (by simp only [List.getElem?_toArray, List.getElem?_cons_succ, List.getElem?_cons_zero]; rfl) (by kernel_rfl) (by kernel_rfl) (by kernel_rfl) (by intro _ _ _ h; exact h) (Or.inr ⟨by rfl, rfl⟩) hHeld ?_
      (try simp only [Act.put, List.setIfInBounds_toArray, List.set_cons_zero, List.set_cons_succ])
      refine wpAnyH_take (i := 11) (oi := _) (v := undef) (by simp only [List.getElem?_toArray, List.getElem?_cons_succ, List.getElem?_cons_zero]; rfl) (by kernel_rfl) (by kernel_rfl) (by kernel_rfl) (by intro _ _ _ h; exact h) (Or.inr ⟨by rfl, rfl⟩) hHeld ?_
      (try simp only [Act.put, List.setIfInBounds_toArray, List.set_cons_zero, List.set_cons_succ])
      refine wpAnyH_take (i := 12) (oi := _) (v := ?_) (by simp only [List.getElem?_toArray, List.getElem?_cons_succ, List.getElem?_cons_zero]; rfl) (by kernel_rfl) (by kernel_rfl) (by kernel_rfl) (by intro _ _ _ h; exact h) (Or.inl ⟨by rfl, ?_⟩) hHeld ?_
      rotate_left
      focus (rintro w ⟨hbs, s0, s1, s2, s3⟩; go_simp; try with_reducible rfl)
      (try simp only [Act.put, List.setIfInBounds_toArray, List.set_cons_zero, List.set_cons_succ])
      refine wpAnyH_take (i := 13) (oi := _) (v := ?_) (by simp only [List.getElem?_toArray, List.getElem?_cons_succ, List.getElem?_cons_zero]; rfl) (by kernel_rfl) (by kernel_rfl) (by kernel_rfl) (by intro _ _ _ h; exact h) (Or.inl ⟨by rfl, ?_⟩) hHeld ?_
      rotate_left
      focus (rintro w ⟨hbs, s0, s1, s2, s3⟩; go_simp; try with_reducible rfl)
      (try simp only [Act.put, List.setIfInBounds_toArray, List.set_cons_zero, List.set_cons_succ])
      refine wpAnyH_take (i := 14) (oi := _) (v := ?_) (by simp only [List.getElem?_toArray, List.getElem?_cons_succ, List.getElem?_cons_zero]; rfl) (by kernel_rfl) (by kernel_rfl) (by kernel_rfl) (by intro _ _ _ h; exact h) (Or.inl ⟨by rfl, ?_⟩) hHeld ?_
      rotate_left
      focus (rintro w ⟨hbs, s0, s1, s2, s3⟩; go_simp; try with_reducible rfl)
      (try simp only [Act.put, List.setIfInBounds_toArray, List.set_cons_zero, List.set_cons_succ])
      refine wpAnyH_take (i := 15) (oi := _) (v := .bool true) (by simp only [List.getElem?_toArray, List.getElem?_cons_succ, List.getElem?_cons_zero]; rfl) (by kernel_rfl) (by kernel_rfl) (by kernel_rfl) (by intro _ _ _ h; exact h) (Or.inl ⟨by rfl, fun w hSw => by go_simp; all_goals simp⟩) hHeld ?_
      (try simp only [Act.put, List.setIfInBounds_toArray, List.set_cons_zero, List.set_cons_succ])
      refine wpAnyH_take (i := 16) (oi := _) (v := ?_) (by simp only [List.getElem?_toArray, List.getElem?_cons_succ, List.getElem?_cons_zero]; rfl) (by kernel_rfl) (by kernel_rfl) (by kernel_rfl) (by intro _ _ _ h; exact h) (Or.inl ⟨by rfl, ?_⟩) hHeld ?_
      rotate_left
      focus (rintro w ⟨hbs, s0, s1, s2, s3⟩; go_simp; try with_reducible rfl)
      (try simp only [Act.put, List.setIfInBounds_toArray, List.set_cons_zero, List.set_cons_succ])
      refine wpAnyH_take (i := 17) (oi := _) (v := ?_) (by simp only [List.getElem?_toArray, List.getElem?_cons_succ, List.getElem?_cons_zero]; rfl) (by kernel_rfl) (by kernel_rfl) (by kernel_rfl) (by intro _ _ _ h; exact h) (Or.inl ⟨by rfl, ?_⟩) hHeld ?_
      rotate_left
      focus (rintro w ⟨hbs, s0, s1, s2, s3⟩; go_simp; try with_reducible rfl)
      (try simp only [Act.put, List.setIfInBounds_toArray, List.set_cons_zero, List.set_cons_succ])
      refine wpAnyH_ready (rs := [18]) (by kernel_rfl) (by simp) ?_
      refine AllReadyH.cons rfl (fun K hK => ?_) ?_
      rotate_left
      · exact AllReadyH.nil
      go_simp
      go_at_call 6
      refine (HG5.out _).mono ?_
      rintro e w13 ⟨rfl, hbk⟩
      go_wp2_with fail
      have hqw13 : Below W10.heap.size W10 w13 := hHeld.1.trans (hbk.mono hHeld.1.size)
      clear hbk
      refine hK.out _ _ ⟨hqw13, (blk_cell (blk_below BP.out hqw13) 0).trans rfl, (blk_cell (blk_below BP.out hqw13) 1).trans rfl, (blk_cell (blk_below BQ.out hqw13) 0).trans rfl, (blk_cell (blk_below BQ.out hqw13) 1).trans rfl⟩ (fun hHeld => ?_)
      clear hK K
      (try simp only [Act.put, List.setIfInBounds_toArray, List.set_cons_zero, List.set_cons_succ])
      refine wpAnyH_take (i := 19) (oi := _) (v := .bool false) (by simp only [List.getElem?_toArray, List.getElem?_cons_succ, List.getElem?_cons_zero]; rfl) (by kernel_rfl) (by kernel_rfl) (by kernel_rfl) (by intro _ _ _ h; exact h) (Or.inl ⟨by rfl, fun w hSw => by go_simp; all_goals simp⟩) hHeld ?_
      (try simp only [Act.put, List.setIfInBounds_toArray, List.set_cons_zero, List.set_cons_succ])
      refine wpAnyH_take (i := 20) (oi := _) (v := ?_) (by simp only [List.getElem?_toArray, List.getElem?_cons_succ, List.getElem?_cons_zero]; rfl) (by kernel_rfl) (by kernel_rfl) (by kernel_rfl) (by intro _ _ _ h; exact h) (Or.inl ⟨by rfl, ?_⟩) hHeld ?_
      rotate_left
      focus (rintro w ⟨hbs, s0, s1, s2, s3⟩; go_simp; try with_reducible rfl)
      (try simp only [Act.put, List.setIfInBounds_toArray, List.set_cons_zero, List.set_cons_succ])
      refine wpAnyH_take (i := 21) (oi := _) (v := ?_) (by simp only [List.getElem?_toArray, List.getElem?_cons_succ, List.getElem?_cons_zero]; rfl) (by kernel_rfl) (by kernel_rfl) (by kernel_rfl) (by intro _ _ _ h; exact h) (Or.inl ⟨by rfl, ?_⟩) hHeld ?_
      rotate_left
      focus (rintro w ⟨hbs, s0, s1, s2, s3⟩; go_simp; try with_reducible rfl)
      (try simp only [Act.put, List.setIfInBounds_toArray, List.set_cons_zero, List.set_cons_succ])
      refine wpAnyH_take (i := 24) (oi := _) (v := ?_) (by simp only [List.getElem?_toArray, List.getElem?_cons_succ, List.getElem?_cons_zero]; rfl) (by kernel_rfl) (by kernel_rfl) (by kernel_rfl) (by intro _ _ _ h; exact h) (Or.inl ⟨by rfl, ?_⟩) hHeld ?_
      rotate_left
      focus (rintro w ⟨hbs, s0, s1, s2, s3⟩; go_simp; try with_reducible rfl)
      (try simp only [Act.put, List.setIfInBounds_toArray, List.set_cons_zero, List.set_cons_succ])
      refine wpAnyH_take (i := 25) (oi := _) (v := .string (strOfNums (bL X3 Y3))) (by simp only [List.getElem?_toArray, List.getElem?_cons_succ, List.getElem?_cons_zero]; rfl) (by kernel_rfl) (by kernel_rfl) (by kernel_rfl) (by intro _ _ _ h; exact h) (Or.inl ⟨by rfl, fun w hSw => by have hcv := str_arg6 (c := cap) (HRL.out.below (HB10.out.trans (hSw.1.mono HB10.out.size))) rfl; go_simp⟩) hHeld ?_
      (try simp only [Act.put, List.setIfInBounds_toArray, List.set_cons_zero, List.set_cons_succ])
      refine wpAnyH_ready (rs := [22]) (by kernel_rfl) (by simp) ?_
      refine AllReadyH.cons rfl (fun K hK => ?_) ?_
      rotate_left
      · exact AllReadyH.nil
      go_simp
      go_at_call 10
      refine (HY5.out _).mono ?_
      rintro e w14 ⟨A7, c7, rfl, hc7, ho7, hbk⟩
      go_wp2_with fail
      have HO7 := Lib.hid ho7
      clear ho7
      have hqw14 : Below W10.heap.size W10 w14 := hHeld.1.trans (hbk.mono hHeld.1.size)
      clear hbk
      refine hK.out _ _ ⟨hqw14, (blk_cell (blk_below BP.out hqw14) 0).trans rfl, (blk_cell (blk_below BP.out hqw14) 1).trans rfl, (blk_cell (blk_below BQ.out hqw14) 0).trans rfl, (blk_cell (blk_below BQ.out hqw14) 1).trans rfl⟩ (fun hHeld => ?_)
      clear hK K
      (try simp only [Act.put, List.setIfInBounds_toArray, List.set_cons_zero, List.set_cons_succ])
      refine wpAnyH_ready (rs := [23]) (by kernel_rfl) (by simp) ?_
      refine AllReadyH.cons rfl (fun K hK => ?_) AllReadyH.nil
      have hcv := str_own6 HO7.out
      go_simp
      clear hcv
      refine hK.out _ _ hHeld (fun hHeld => ?_)
      clear hK K
      (try simp only [Act.put, List.setIfInBounds_toArray, List.set_cons_zero, List.set_cons_succ])
      refine wpAnyH_take (i := 26) (oi := _) (v := .bool false) (by simp only [List.getElem?_toArray, List.getElem?_cons_succ, List.getElem?_cons_zero]; rfl) (by kernel_rfl) (by kernel_rfl) (by kernel_rfl) (by intro _ _ _ h; exact h) (Or.inl ⟨by rfl, fun w hSw => by go_simp; all_goals simp⟩) hHeld ?_
      (try simp only [Act.put, List.setIfInBounds_toArray, List.set_cons_zero, List.set_cons_succ])
      refine wpAnyH_take (i := 27) (oi := _) (v := ?_) (by simp only [List.getElem?_toArray, List.getElem?_cons_succ, List.getElem?_cons_zero]; rfl) (by kernel_rfl) (by kernel_rfl) (by kernel_rfl) (by intro _ _ _ h; exact h) (Or.inl ⟨by rfl, ?_⟩) hHeld ?_
      rotate_left
      focus (rintro w ⟨hbs, s0, s1, s2, s3⟩; go_simp; try with_reducible rfl)
      (try simp only [Act.put, List.setIfInBounds_toArray, List.set_cons_zero, List.set_cons_succ])
      refine wpAnyH_take (i := 28) (oi := _) (v := ?_) (by simp only [List.getElem?_toArray, List.getElem?_cons_succ, List.getElem?_cons_zero]; rfl) (by kernel_rfl) (by kernel_rfl) (by kernel_rfl) (by intro _ _ _ h; exact h) (Or.inl ⟨by rfl, ?_⟩) hHeld ?_
      rotate_left
      focus (rintro w ⟨hbs, s0, s1, s2, s3⟩; go_simp; try with_reducible rfl)
      (try simp only [Act.put, List.setIfInBounds_toArray, List.set_cons_zero, List.set_cons_succ])
      refine wpAnyH_take (i := 29) (oi := _) (v := ?_) (by simp only [List.getElem?_toArray, List.getElem?_cons_succ, List.getElem?_cons_zero]; rfl) (by kernel_rfl) (by kernel_rfl) (by kernel_rfl) (by intro _ _ _ h; exact h) (Or.inl ⟨by rfl, ?_⟩) hHeld ?_
      rotate_left
      focus (rintro w ⟨hbs, s0, s1, s2, s3⟩; go_simp; try with_reducible rfl)
      (try simp only [Act.put, List.setIfInBounds_toArray, List.set_cons_zero, List.set_cons_succ])
      refine wpAnyH_done (by kernel_rfl) ?_ _
      have HB11 := Lib.hid (HB10.out.trans (hHeld.1.mono HB10.out.size))
      clear hHeld
      have HLV := Lib.hid (alives _ (tab_on HT.out HB11.out))
      go_wp2_with (go_at_call 14; refine HLV.out.mono ?_; rintro e w20 ⟨rfl, hbk⟩)
      go_ret
      exact ⟨rfl, hg ▸ HB.out.trans ((HB11.out.trans (hbk.mono HB11.out.size)).mono (by have := HB.out.size; omega))⟩
  · rw [hg2'] at HG4
    clear hg2' HS2
    rcases HS3.out with rfl | ⟨rfl, hg3, rfl, hRL⟩
    · clear HG5 HY5 HS3
      refine wp_region_held_drew (S := fun w' => Below W10.heap.size W10 w' ∧ w'.cell? ⟨g13, 0, none⟩ = some (.int .u32 (X2 : Int)) ∧ w'.cell? ⟨g13, 1, none⟩ = some (.int .u16 (Y2 : Int)) ∧ w'.cell? ⟨g15, 0, none⟩ = some (.int .u32 (X3 : Int)) ∧ w'.cell? ⟨g15, 1, none⟩ = some (.int .u16 (Y3 : Int))) (by kernel_rfl) ⟨((Below.refl W10.heap.size W10).drew), (blk_cell (blk_below BP.out ((Below.refl W10.heap.size W10).drew)) 0).trans rfl, (blk_cell (blk_below BP.out ((Below.refl W10.heap.size W10).drew)) 1).trans rfl, (blk_cell (blk_below BQ.out ((Below.refl W10.heap.size W10).drew)) 0).trans rfl, (blk_cell (blk_below BQ.out ((Below.refl W10.heap.size W10).drew)) 1).trans rfl⟩ (fun hHeld => ?_)
      refine wpAnyH_take (i := 0) (oi := _) (v := ?_) (by simp only [List.getElem?_toArray, List.getElem?_cons_succ, List.getElem?_cons_zero]; rfl) (by kernel_rfl) (by kernel_rfl) (by kernel_rfl) (by intro _ _ _ h; exact h) (Or.inl ⟨by rfl, ?_⟩) hHeld ?_
      rotate_left
      focus (rintro w ⟨hbs, s0, s1, s2, s3⟩; go_simp; try with_reducible rfl)
      (try simp only [Act.put, List.setIfInBounds_toArray, List.set_cons_zero, List.set_cons_succ])
      refine wpAnyH_take (i := 1) (oi := _) (v := .bool true) (by simp only [List.getElem?_toArray, List.getElem?_cons_succ, List.getElem?_cons_zero]; rfl) (by kernel_rfl) (by kernel_rfl) (by kernel_rfl) (by intro _ _ _ h; exact h) (Or.inl ⟨by rfl, fun w hSw => by go_simp; all_goals simp⟩) hHeld ?_
      (try simp only [Act.put, List.setIfInBounds_toArray, List.set_cons_zero, List.set_cons_succ])
      refine wpAnyH_take (i := 2) (oi := _) (v := ?_) (by simp only [List.getElem?_toArray, List.getElem?_cons_succ, List.getElem?_cons_zero]; rfl) (by kernel_rfl) (by kernel_rfl) (by kernel_rfl) (by intro _ _ _ h; exact h) (Or.inl ⟨by rfl, ?_⟩) hHeld ?_
      rotate_left
      focus (rintro w ⟨hbs, s0, s1, s2, s3⟩; go_simp; try with_reducible rfl)
      (try simp only [Act.put, List.setIfInBounds_toArray, List.set_cons_zero, List.set_cons_succ])
      refine wpAnyH_take (i := 3) (oi := _) (v := ?_) (by simp only [List.getElem?_toArray, List.getElem?_cons_succ, List.getElem?_cons_zero]; rfl) (by kernel_rfl) (by kernel_rfl) (by kernel_rfl) (by intro _ _ _ h; exact h) (Or.inl ⟨by rfl, ?_⟩) hHeld ?_
      rotate_left
      focus (rintro w ⟨hbs, s0, s1, s2, s3⟩; go_simp; try with_reducible rfl)
      (try simp only [Act.put, List.setIfInBounds_toArray, List.set_cons_zero, List.set_cons_succ])
      refine wpAnyH_ready (rs := [4]) (by kernel_rfl) (by simp) ?_
      refine AllReadyH.cons rfl (fun K hK => ?_) ?_
      rotate_left
      · exact AllReadyH.nil
      go_simp
      go_at_call 6
      refine (HG4.out _).mono ?_
      rintro e w11 ⟨rfl, hbk⟩
      go_wp2_with fail
      have hqw11 : Below W10.heap.size W10 w11 := hHeld.1.trans (hbk.mono hHeld.1.size)
      clear hbk
      refine hK.out _ _ ⟨hqw11, (blk_cell (blk_below BP.out hqw11) 0).trans rfl, (blk_cell (blk_below BP.out hqw11) 1).trans rfl, (blk_cell (blk_below BQ.out hqw11) 0).trans rfl, (blk_cell (blk_below BQ.out hqw11) 1).trans rfl⟩ (fun hHeld => ?_)
      clear hK K
      (try simp only [Act.put, List.setIfInBounds_toArray, List.set_cons_zero, List.set_cons_succ])
      refine wpAnyH_take (i := 5) (oi := _) (v := .bool false) (by simp only [List.getElem?_toArray, List.getElem?_cons_succ, List.getElem?_cons_zero]; rfl) (by kernel_rfl) (by kernel_rfl) (by kernel_rfl) (by intro _ _ _ h; exact h) (Or.inl ⟨by rfl, fun w hSw => by go_simp; all_goals simp⟩) hHeld ?_
      (try simp only [Act.put, List.setIfInBounds_toArray, List.set_cons_zero, List.set_cons_succ])
      refine wpAnyH_take (i := 6) (oi := _) (v := ?_) (by simp only [List.getElem?_toArray, List.getElem?_cons_succ, List.getElem?_cons_zero]; rfl) (by kernel_rfl) (by kernel_rfl) (by kernel_rfl) (by intro _ _ _ h; exact h) (Or.inl ⟨by rfl, ?_⟩) hHeld ?_
      rotate_left
      focus (rintro w ⟨hbs, s0, s1, s2, s3⟩; go_simp; try with_reducible rfl)
      (try simp only [Act.put, List.setIfInBounds_toArray, List.set_cons_zero, List.set_cons_succ])
      refine wpAnyH_take (i := 7) (oi := _) (v := ?_) (by simp only [List.getElem?_toArray, List.getElem?_cons_succ, List.getElem?_cons_zero]; rfl) (by kernel_rfl) (by kernel_rfl) (by kernel_rfl) (by intro _ _ _ h; exact h) (Or.inl ⟨by rfl, ?_⟩) hHeld ?_
      rotate_left
      focus (rintro w ⟨hbs, s0, s1, s2, s3⟩; go_simp; try with_reducible rfl)
      (try simp only [Act.put, List.setIfInBounds_toArray, List.set_cons_zero, List.set_cons_succ])
      refine wpAnyH_take (i := 9) (oi := _) (v := ?_) (by simp only [List.getElem?_toArray, List.getElem?_cons_succ, List.getElem?_cons_zero]; rfl) (by kernel_rfl) (by kernel_rfl) (by kernel_rfl) (by intro _ _ _ h; exact h) (Or.inl ⟨by rfl, ?_⟩) hHeld ?_
      rotate_left
      focus (rintro w ⟨hbs, s0, s1, s2, s3⟩; go_simp; try with_reducible rfl)
      (try simp only [Act.put, List.setIfInBounds_toArray, List.set_cons_zero, List.set_cons_succ])
      refine wpAnyH_ready (rs := [8]) (by kernel_rfl) (by simp) ?_
      refine AllReadyH.cons rfl (fun K hK => ?_) ?_
      rotate_left
      · exact AllReadyH.nil
      go_simp
      go_at_call 8
      refine (HT4.out _ (tab_on HT.out (HB10.out.trans (hHeld.1.mono HB10.out.size)))).mono ?_
      rintro e w12 ⟨rfl, hbk⟩
      go_wp2_with fail
      have hqw12 : Below W10.heap.size W10 w12 := hHeld.1.trans (hbk.mono hHeld.1.size)
      clear hbk
      refine hK.out _ _ ⟨hqw12, (blk_cell (blk_below BP.out hqw12) 0).trans rfl, (blk_cell (blk_below BP.out hqw12) 1).trans rfl, (blk_cell (blk_below BQ.out hqw12) 0).trans rfl, (blk_cell (blk_below BQ.out hqw12) 1).trans rfl⟩ (fun hHeld => ?_)
      clear hK K
      (try simp only [Act.put, List.setIfInBounds_toArray, List.set_cons_zero, List.set_cons_succ])
      refine wpAnyH_take (i := 10) (oi := _) (v := .bool false) (by simp only [List.getElem?_toArray, List.getElem?_cons_succ, List.getElem?_cons_zero]; rfl) (by kernel_rfl) (by kernel_rfl) (by kernel_rfl) (by intro _ _ _ h; exact h) (Or.inl ⟨by rfl, fun w hSw => by go_simp; all_goals simp⟩) hHeld ?_
      (try simp only [Act.put, List.setIfInBounds_toArray, List.set_cons_zero, List.set_cons_succ])
      refine wpAnyH_take (i := 11) (oi := _) (v := ?_) (by simp only [List.getElem?_toArray, List.getElem?_cons_succ, List.getElem?_cons_zero]; rfl) (by kernel_rfl) (by kernel_rfl) (by kernel_rfl) (by intro _ _ _ h; exact h) (Or.inl ⟨by rfl, ?_⟩) hHeld ?_
      rotate_left
      focus (rintro w ⟨hbs, s0, s1, s2, s3⟩; go_simp; try with_reducible rfl)
      (try simp only [Act.put, List.setIfInBounds_toArray, List.set_cons_zero, List.set_cons_succ])
      refine wpAnyH_take (i := 12) (oi := _) (v := ?_) (by simp only [List.getElem?_toArray, List.getElem?_cons_succ, List.getElem?_cons_zero]; rfl) (by kernel_rfl) (by kernel_rfl) (by kernel_rfl) (by intro _ _ _ h; exact h) (Or.inl ⟨by rfl, ?_⟩) hHeld ?_
      rotate_left
      focus (rintro w ⟨hbs, s0, s1, s2, s3⟩; go_simp; try with_reducible rfl)
      (try simp only [Act.put, List.setIfInBounds_toArray, List.set_cons_zero, List.set_cons_succ])
      refine wpAnyH_take (i := 13) (oi := _) (v := ?_) (by simp only [List.getElem?_toArray, List.getElem?_cons_succ, List.getElem?_cons_zero]; rfl) (by kernel_rfl) (by kernel_rfl) (by kernel_rfl) (by intro _ _ _ h; exact h) (Or.inl ⟨by rfl, ?_⟩) hHeld ?_
      rotate_left
      focus (rintro w ⟨hbs, s0, s1, s2, s3⟩; go_simp; try with_reducible rfl)
      (try simp only [Act.put, List.setIfInBounds_toArray, List.set_cons_zero, List.set_cons_succ])
      refine wpAnyH_take (i := 14) (oi := _) (v := ?_) (by simp only [List.getElem?_toArray, List.getElem?_cons_succ, List.getElem?_cons_zero]; rfl) (by kernel_rfl) (by kernel_rfl) (by kernel_rfl) (by intro _ _ _ h; exact h) (Or.inl ⟨by rfl, ?_⟩) hHeld ?_
      rotate_left
      focus (rintro w ⟨hbs, s0, s1, s2, s3⟩; go_simp; try with_reducible rfl)
      (try simp only [Act.put, List.setIfInBounds_toArray, List.set_cons_zero, List.set_cons_succ])
      refine wpAnyH_take (i := 15) (oi := _) (v := .bool false) (by simp only [List.getElem?_toArray, List.getElem?_cons_succ, List.getElem?_cons_zero]; rfl) (by kernel_rfl) (by kernel_rfl) (by kernel_rfl) (by intro _ _ _ h; exact h) (Or.inl ⟨by rfl, fun w hSw => by go_simp; all_goals simp⟩) hHeld ?_
      (try simp only [Act.put, List.setIfInBounds_toArray, List.set_cons_zero, List.set_cons_succ])
      refine wpAnyH_take (i := 16) (oi := _) (v := ?_) (by simp only [List.getElem?_toArray, List.getElem?_cons_succ, List.getElem?_cons_zero]; rfl) (by kernel_rfl) (by kernel_rfl) (by kernel_rfl) (by intro _ _ _ h; exact h) (Or.inl ⟨by rfl, ?_⟩) hHeld ?_
      rotate_left
      focus (rintro w ⟨hbs, s0, s1, s2, s3⟩; go_simp; try with_reducible rfl)
      (try simp only [Act.put, List.setIfInBounds_toArray, List.set_cons_zero, List.set_cons_succ])
      refine wpAnyH_take (i := 17) (oi := _) (v := undef) (by simp only [List.getElem?_toArray, List.getElem?_cons_succ, List.getElem?_cons_zero]; rfl) (by kernel_rfl) (by kernel_rfl) (by kernel_rfl) (by intro _ _ _ h; exact h) (Or.inr ⟨by rfl, rfl⟩) hHeld ?_
      (try simp only [Act.put, List.setIfInBounds_toArray, List.set_cons_zero, List.set_cons_succ])
      refine wpAnyH_take (i := 18) (oi := _) (v := undef) (by simp only [List.getElem?_toArray, List.getElem?_cons_succ, List.getElem?_cons_zero]; rfl) (by kernel_rfl) (by kernel_rfl) (by kernel_rfl) (by intro _ _ _ h; exact h) (Or.inr ⟨by rfl, rfl⟩) hHeld ?_
      (try simp only [Act.put, List.setIfInBounds_toArray, List.set_cons_zero, List.set_cons_succ])
      refine wpAnyH_take (i := 19) (oi := _) (v := undef) (by simp only [List.getElem?_toArray, List.getElem?_cons_succ, List.getElem?_cons_zero]; rfl) (by kernel_rfl) (by kernel_rfl) (by kernel_rfl) (by intro _ _ _ h; exact h) (Or.inr ⟨by rfl, rfl⟩) hHeld ?_
      (try simp only [Act.put, List.setIfInBounds_toArray, List.set_cons_zero, List.set_cons_succ])
      refine wpAnyH_take (i := 20) (oi := _) (v := undef) (by simp only [List.getElem?_toArray, List.getElem?_cons_succ, List.getElem?_cons_zero]; rfl) (by kernel_rfl) (by kernel_rfl) (by kernel_rfl) (by intro _ _ _ h; exact h) (Or.inr ⟨by rfl, rfl⟩) hHeld ?_
      (try simp only [Act.put, List.setIfInBounds_toArray, List.set_cons_zero, List.set_cons_succ])
      refine wpAnyH_take (i := 21) (oi := _) (v := undef) (by simp only [List.getElem?_toArray, List.getElem?_cons_succ, List.getElem?_cons_zero]; rfl) (by kernel_rfl) (by kernel_rfl) (by kernel_rfl) (by intro _ _ _ h; exact h) (Or.inr ⟨by rfl, rfl⟩) hHeld ?_
      (try simp only [Act.put, List.setIfInBounds_toArray, List.set_cons_zero, List.set_cons_succ])
      refine wpAnyH_take (i := 22) (oi := _) (v := undef) (by simp only [List.getElem?_toArray, List.getElem?_cons_succ, List.getElem?_cons_zero]; rfl) (by kernel_rfl) (by kernel_rfl) (by kernel_rfl) (by intro _ _ _ h; exact h) (Or.inr ⟨by rfl, rfl⟩) hHeld ?_
      (try simp only [Act.put, List.setIfInBounds_toArray, List.set_cons_zero, List.set_cons_succ])
      refine wpAnyH_take (i := 23) (oi := _) (v := undef) (by simp only [List.getElem?_toArray, List.getElem?_cons_succ, List.getElem?_cons_zero]; rfl) (by kernel_rfl) (by kernel_rfl) (by kernel_rfl) (by intro _ _ _ h; exact h) (Or.inr ⟨by rfl, rfl⟩) hHeld ?_
      (try simp only [Act.put, List.setIfInBounds_toArray, List.set_cons_zero, List.set_cons_succ])
      refine wpAnyH_take (i := 24) (oi := _) (v := undef) (by simp only [List.getElem?_toArray, List.getElem?_cons_succ, List.getElem?_cons_zero]; rfl) (by kernel_rfl) (by kernel_rfl) (by kernel_rfl) (by intro _ _ _ h; exact h) (Or.inr ⟨by rfl, rfl⟩) hHeld ?_
      (try simp only [Act.put, List.setIfInBounds_toArray, List.set_cons_zero, List.set_cons_succ])
      refine wpAnyH_take (i := 25) (oi := _) (v := undef) (by simp only [List.getElem?_toArray, List.getElem?_cons_succ, List.getElem?_cons_zero]; rfl) (by kernel_rfl) (by kernel_rfl) (by kernel_rfl) (by intro _ _ _ h; exact h) (Or.inr ⟨by rfl, rfl⟩) hHeld ?_
      (try simp only [Act.put, List.setIfInBounds_toArray, List.set_cons_zero, List.set_cons_succ])
      refine wpAnyH_take (i := 26) (oi := _) (v := undef) (by simp only [List.getElem?_toArray, List.getElem?_cons_succ, List.getElem?_cons_zero]; rfl) (by kernel_rfl) (by kernel_rfl) (by kernel_rfl) (by intro _ _ _ h; exact h) (Or.inr ⟨by rfl, rfl⟩) hHeld ?_
      (try simp only [Act.put, List.setIfInBounds_toArray, List.set_cons_zero, List.set_cons_succ])
      refine wpAnyH_take (i := 27) (oi := _) (v := undef) (by simp only [List.getElem?_toArray, List.getElem?_cons_succ, List.getElem?_cons_zero]; rfl) (by kernel_rfl) (by kernel_rfl) (by kernel_rfl) (by intro _ _ _ h; exact h) (Or.inr ⟨by rfl, rfl⟩) hHeld ?_
      (try simp only [Act.put, List.setIfInBounds_toArray, List.set_cons_zero, List.set_cons_succ])
      refine wpAnyH_take (i := 28) (oi := _) (v := ?_) (by simp only [List.getElem?_toArray, List.getElem?_cons_succ, List.getElem?_cons_zero]; rfl) (by kernel_rfl) (by kernel_rfl) (by kernel_rfl) (by intro _ _ _ h; exact h) (Or.inl ⟨by rfl, ?_⟩) hHeld ?_
      rotate_left
      focus (rintro w ⟨hbs, s0, s1, s2, s3⟩; go_simp; try with_reducible rfl)
      (try simp only [Act.put, List.setIfInBounds_toArray, List.set_cons_zero, List.set_cons_succ])
      refine wpAnyH_take (i := 29) (oi := _) (v := ?_) (by simp only [List.getElem?_toArray, List.getElem?_cons_succ, List.getElem?_cons_zero]; rfl) (by kernel_rfl) (by kernel_rfl) (by kernel_rfl) (by intro _ _ _ h; exact h) (Or.inl ⟨by rfl, ?_⟩) hHeld ?_
      rotate_left
      focus (rintro w ⟨hbs, s0, s1, s2, s3⟩; go_simp; try with_reducible rfl)
      (try simp only [Act.put, List.setIfInBounds_toArray, List.set_cons_zero, List.set_cons_succ])
      refine wpAnyH_done (by kernel_rfl) ?_ _
      have HB11 := Lib.hid (HB10.out.trans (hHeld.1.mono HB10.out.size))
      clear hHeld
      have HLV := Lib.hid (alives _ (tab_on HT.out HB11.out))
      go_wp2_with (go_at_call 14; refine HLV.out.mono ?_; rintro e w20 ⟨rfl, hbk⟩)
      go_ret
      exact ⟨rfl, hg ▸ HB.out.trans ((HB11.out.trans (hbk.mono HB11.out.size)).mono (by have := HB.out.size; omega))⟩
    · have HRL := Lib.hid hRL
      rw [hg3] at HG5
      clear hg3 hRL HS3
      refine wp_region_held_drew (S := fun w' => Below W10.heap.size W10 w' ∧ w'.cell? ⟨g13, 0, none⟩ = some (.int .u32 (X2 : Int)) ∧ w'.cell? ⟨g13, 1, none⟩ = some (.int .u16 (Y2 : Int)) ∧ w'.cell? ⟨g15, 0, none⟩ = some (.int .u32 (X3 : Int)) ∧ w'.cell? ⟨g15, 1, none⟩ = some (.int .u16 (Y3 : Int))) (by kernel_rfl) ⟨((Below.refl W10.heap.size W10).drew), (blk_cell (blk_below BP.out ((Below.refl W10.heap.size W10).drew)) 0).trans rfl, (blk_cell (blk_below BP.out ((Below.refl W10.heap.size W10).drew)) 1).trans rfl, (blk_cell (blk_below BQ.out ((Below.refl W10.heap.size W10).drew)) 0).trans rfl, (blk_cell (blk_below BQ.out ((Below.refl W10.heap.size W10).drew)) 1).trans rfl⟩ (fun hHeld => ?_)
      refine wpAnyH_take (i := 0) (oi := _) (v := ?_) (by simp only [List.getElem?_toArray, List.getElem?_cons_succ, List.getElem?_cons_zero]; rfl) (by kernel_rfl) (by kernel_rfl) (by kernel_rfl) (by intro _ _ _ h; exact h) (Or.inl ⟨by rfl, ?_⟩) hHeld ?_
      rotate_left
      focus (rintro w ⟨hbs, s0, s1, s2, s3⟩; go_simp; try with_reducible rfl)
      (try simp only [Act.put, List.setIfInBounds_toArray, List.set_cons_zero, List.set_cons_succ])
      refine wpAnyH_take (i := 1) (oi := _) (v := .bool true) (by simp only [List.getElem?_toArray, List.getElem?_cons_succ, List.getElem?_cons_zero]; rfl) (by kernel_rfl) (by kernel_rfl) (by kernel_rfl) (by intro _ _ _ h; exact h) (Or.inl ⟨by rfl, fun w hSw => by go_simp; all_goals simp⟩) hHeld ?_
      (try simp only [Act.put, List.setIfInBounds_toArray, List.set_cons_zero, List.set_cons_succ])
      refine wpAnyH_take (i := 2) (oi := _) (v := ?_) (by simp only [List.getElem?_toArray, List.getElem?_cons_succ, List.getElem?_cons_zero]; rfl) (by kernel_rfl) (by kernel_rfl) (by kernel_rfl) (by intro _ _ _ h; exact h) (Or.inl ⟨by rfl, ?_⟩) hHeld ?_
      rotate_left
      focus (rintro w ⟨hbs, s0, s1, s2, s3⟩; go_simp; try with_reducible rfl)
      (try simp only [Act.put, List.setIfInBounds_toArray, List.set_cons_zero, List.set_cons_succ])
      refine wpAnyH_take (i := 3) (oi := _) (v := ?_) (by simp only [List.getElem?_toArray, List.getElem?_cons_succ, List.getElem?_cons_zero]; rfl) (by kernel_rfl) (by kernel_rfl) (by kernel_rfl) (by intro _ _ _ h; exact h) (Or.inl ⟨by rfl, ?_⟩) hHeld ?_
      rotate_left
      focus (rintro w ⟨hbs, s0, s1, s2, s3⟩; go_simp; try with_reducible rfl)
      (try simp only [Act.put, List.setIfInBounds_toArray, List.set_cons_zero, List.set_cons_succ])
      refine wpAnyH_ready (rs := [4]) (by kernel_rfl) (by simp) ?_
      refine AllReadyH.cons rfl (fun K hK => ?_) ?_
      rotate_left
      · exact AllReadyH.nil
      go_simp
      go_at_call 6
      refine (HG4.out _).mono ?_
      rintro e w11 ⟨rfl, hbk⟩
      go_wp2_with fail
      have hqw11 : Below W10.heap.size W10 w11 := hHeld.1.trans (hbk.mono hHeld.1.size)
      clear hbk
      refine hK.out _ _ ⟨hqw11, (blk_cell (blk_below BP.out hqw11) 0).trans rfl, (blk_cell (blk_below BP.out hqw11) 1).trans rfl, (blk_cell (blk_below BQ.out hqw11) 0).trans rfl, (blk_cell (blk_below BQ.out hqw11) 1).trans rfl⟩ (fun hHeld => ?_)
      clear hK K
      (try simp only [Act.put, List.setIfInBounds_toArray, List.set_cons_zero, List.set_cons_succ])
      refine wpAnyH_take (i := 5) (oi := _) (v := .bool false) (by simp only [List.getElem?_toArray, List.getElem?_cons_succ, List.getElem?_cons_zero]; rfl) (by kernel_rfl) (by kernel_rfl) (by kernel_rfl) (by intro _ _ _ h; exact h) (Or.inl ⟨by rfl, fun w hSw => by go_simp; all_goals simp⟩) hHeld ?_
      (try simp only [Act.put, List.setIfInBounds_toArray, List.set_cons_zero, List.set_cons_succ])
      refine wpAnyH_take (i := 6) (oi := _) (v := ?_) (by simp only [List.getElem?_toArray, List.getElem?_cons_succ, List.getElem?_cons_zero]; rfl) (by kernel_rfl) (by kernel_rfl) (by kernel_rfl) (by intro _ _ _ h; exact h) (Or.inl ⟨by rfl, ?_⟩) hHeld ?_
      rotate_left
      focus (rintro w ⟨hbs, s0, s1, s2, s3⟩; go_simp; try with_reducible rfl)
      (try simp only [Act.put, List.setIfInBounds_toArray, List.set_cons_zero, List.set_cons_succ])
      refine wpAnyH_take (i := 7) (oi := _) (v := ?_) (by simp only [List.getElem?_toArray, List.getElem?_cons_succ, List.getElem?_cons_zero]; rfl) (by kernel_rfl) (by kernel_rfl) (by kernel_rfl) (by intro _ _ _ h; exact h) (Or.inl ⟨by rfl, ?_⟩) hHeld ?_
      rotate_left
      focus (rintro w ⟨hbs, s0, s1, s2, s3⟩; go_simp; try with_reducible rfl)
      (try simp only [Act.put, List.setIfInBounds_toArray, List.set_cons_zero, List.set_cons_succ])
      refine wpAnyH_take (i := 9) (oi := _) (v := ?_) (by simp only [List.getElem?_toArray, List.getElem?_cons_succ, List.getElem?_cons_zero]; rfl) (by kernel_rfl) (by kernel_rfl) (by kernel_rfl) (by intro _ _ _ h; exact h) (Or.inl ⟨by rfl, ?_⟩) hHeld ?_
      rotate_left
      focus (rintro w ⟨hbs, s0, s1, s2, s3⟩; go_simp; try with_reducible rfl)
      (try simp only [Act.put, List.setIfInBounds_toArray, List.set_cons_zero, List.set_cons_succ])
      refine wpAnyH_ready (rs := [8]) (by kernel_rfl) (by simp) ?_
      refine AllReadyH.cons rfl (fun K hK => ?_) ?_
      rotate_left
      · exact AllReadyH.nil
      go_simp
      go_at_call 8
      refine (HT4.out _ (tab_on HT.out (HB10.out.trans (hHeld.1.mono HB10.out.size)))).mono ?_
      rintro e w12 ⟨rfl, hbk⟩
      go_wp2_with fail
      have hqw12 : Below W10.heap.size W10 w12 := hHeld.1.trans (hbk.mono hHeld.1.size)
      clear hbk
      refine hK.out _ _ ⟨hqw12, (blk_cell (blk_below BP.out hqw12) 0).trans rfl, (blk_cell (blk_below BP.out hqw12) 1).trans rfl, (blk_cell (blk_below BQ.out hqw12) 0).trans rfl, (blk_cell (blk_below BQ.out hqw12) 1).trans rfl⟩ (fun hHeld => ?_)
      clear hK K
      (try simp only [Act.put, List.setIfInBounds_toArray, List.set_cons_zero, List.set_cons_succ])
      refine wpAnyH_take (i := 10) (oi := _) (v := .bool false) (by simp only [List.getElem?_toArray, List.getElem?_cons_succ, List.getElem?_cons_zero]; rfl) (by kernel_rfl) (by kernel_rfl) (by kernel_rfl) (by intro _ _ _ h; exact h) (Or.inl ⟨by rfl, fun w hSw => by go_simp; all_goals simp⟩) hHeld ?_
      (try simp only [Act.put, List.setIfInBounds_toArray, List.set_cons_zero, List.set_cons_succ])
      refine wpAnyH_take (i := 11) (oi := _) (v := ?_) (by simp only [List.getElem?_toArray, List.getElem?_cons_succ, List.getElem?_cons_zero]; rfl) (by kernel_rfl) (by kernel_rfl) (by kernel_rfl) (by intro _ _ _ h; exact h) (Or.inl ⟨by rfl, ?_⟩) hHeld ?_
      rotate_left
      focus (rintro w ⟨hbs, s0, s1, s2, s3⟩; go_simp; try with_reducible rfl)
      (try simp only [Act.put, List.setIfInBounds_toArray, List.set_cons_zero, List.set_cons_succ])
      refine wpAnyH_take (i := 12) (oi := _) (v := ?_) (by simp only [List.getElem?_toArray, List.getElem?_cons_succ, List.getElem?_cons_zero]; rfl) (by kernel_rfl) (by kernel_rfl) (by kernel_rfl) (by intro _ _ _ h; exact h) (Or.inl ⟨by rfl, ?_⟩) hHeld ?_
      rotate_left
      focus (rintro w ⟨hbs, s0, s1, s2, s3⟩; go_simp; try with_reducible rfl)
      (try simp only [Act.put, List.setIfInBounds_toArray, List.set_cons_zero, List.set_cons_succ])
      refine wpAnyH_take (i := 13) (oi := _) (v := ?_) (by simp only [List.getElem?_toArray, List.getElem?_cons_succ, List.getElem?_cons_zero]; rfl) (by kernel_rfl) (by kernel_rfl) (by kernel_rfl) (by intro _ _ _ h; exact h) (Or.inl ⟨by rfl, ?_⟩) hHeld ?_
      rotate_left
      focus (rintro w ⟨hbs, s0, s1, s2, s3⟩; go_simp; try with_reducible rfl)
      (try simp only [Act.put, List.setIfInBounds_toArray, List.set_cons_zero, List.set_cons_succ])
      refine wpAnyH_take (i := 14) (oi := _) (v := ?_) (by simp only [List.getElem?_toArray, List.getElem?_cons_succ, List.getElem?_cons_zero]; rfl) (by kernel_rfl) (by kernel_rfl) (by kernel_rfl) (by intro _ _ _ h; exact h) (Or.inl ⟨by rfl, ?_⟩) hHeld ?_
      rotate_left
      focus (rintro w ⟨hbs, s0, s1, s2, s3⟩; go_simp; try with_reducible rfl)
      (try simp only [Act.put, List.setIfInBounds_toArray, List.set_cons_zero, List.set_cons_succ])
      refine wpAnyH_take (i := 15) (oi := _) (v := .bool true) (by simp only [List.getElem?_toArray, List.getElem?_cons_succ, List.getElem?_cons_zero]; rfl) (by kernel_rfl) (by kernel_rfl) (by kernel_rfl) (by intro _ _ _ h; exact h) (Or.inl ⟨by rfl, fun w hSw => by go_simp; all_goals simp⟩) hHeld ?_
      (try simp only [Act.put, List.setIfInBounds_toArray, List.set_cons_zero, List.set_cons_succ])
      refine wpAnyH_take (i := 16) (oi := _) (v := ?_) (by simp only [List.getElem?_toArray, List.getElem?_cons_succ, List.getElem?_cons_zero]; rfl) (by kernel_rfl) (by kernel_rfl) (by kernel_rfl) (by intro _ _ _ h; exact h) (Or.inl ⟨by rfl, ?_⟩) hHeld ?_
      rotate_left
      focus (rintro w ⟨hbs, s0, s1, s2, s3⟩; go_simp; try with_reducible rfl)
      (try simp only [Act.put, List.setIfInBounds_toArray, List.set_cons_zero, List.set_cons_succ])
      refine wpAnyH_take (i := 17) (oi := _) (v := ?_) (by simp only [List.getElem?_toArray, List.getElem?_cons_succ, List.getElem?_cons_zero]; rfl) (by kernel_rfl) (by kernel_rfl) (by kernel_rfl) (by intro _ _ _ h; exact h) (Or.inl ⟨by rfl, ?_⟩) hHeld ?_
      rotate_left
      focus (rintro w ⟨hbs, s0, s1, s2, s3⟩; go_simp; try with_reducible rfl)
      (try simp only [Act.put, List.setIfInBounds_toArray, List.set_cons_zero, List.set_cons_succ])
      refine wpAnyH_ready (rs := [18]) (by kernel_rfl) (by simp) ?_
      refine AllReadyH.cons rfl (fun K hK => ?_) ?_
      rotate_left
      · exact AllReadyH.nil
      go_simp
      go_at_call 6
      refine (HG5.out _).mono ?_
      rintro e w13 ⟨rfl, hbk⟩
      go_wp2_with fail
      have hqw13 : Below W10.heap.size W10 w13 := hHeld.1.trans (hbk.mono hHeld.1.size)
      clear hbk
      refine hK.out _ _ ⟨hqw13, (blk_cell (blk_below BP.out hqw13) 0).trans rfl, (blk_cell (blk_below BP.out hqw13) 1).trans rfl, (blk_cell (blk_below BQ.out hqw13) 0).trans rfl, (blk_cell (blk_below BQ.out hqw13) 1).trans rfl⟩ (fun hHeld => ?_)
      clear hK K
      (try simp only [Act.put, List.setIfInBounds_toArray, List.set_cons_zero, List.set_cons_succ])
      refine wpAnyH_take (i := 19) (oi := _) (v := .bool false) (by simp only [List.getElem?_toArray, List.getElem?_cons_succ, List.getElem?_cons_zero]; rfl) (by kernel_rfl) (by kernel_rfl) (by kernel_rfl) (by intro _ _ _ h; exact h) (Or.inl ⟨by rfl, fun w hSw => by go_simp; all_goals simp⟩) hHeld ?_
      (try simp only [Act.put, List.setIfInBounds_toArray, List.set_cons_zero, List.set_cons_succ])
      refine wpAnyH_take (i := 20) (oi := _) (v := ?_) (by simp only [List.getElem?_toArray, List.getElem?_cons_succ, List.getElem?_cons_zero]; rfl) (by kernel_rfl) (by kernel_rfl) (by kernel_rfl) (by intro _ _ _ h; exact h) (Or.inl ⟨by rfl, ?_⟩) hHeld ?_
      rotate_left
      focus (rintro w ⟨hbs, s0, s1, s2, s3⟩; go_simp; try with_reducible rfl)
      (try simp only [Act.put, List.setIfInBounds_toArray, List.set_cons_zero, List.set_cons_succ])
      refine wpAnyH_take (i := 21) (oi := _) (v := ?_) (by simp only [List.getElem?_toArray, List.getElem?_cons_succ, List.getElem?_cons_zero]; rfl) (by kernel_rfl) (by kernel_rfl) (by kernel_rfl) (by intro _ _ _ h; exact h) (Or.inl ⟨by rfl, ?_⟩) hHeld ?_
      rotate_left
      focus (rintro w ⟨hbs, s0, s1, s2, s3⟩; go_simp; try with_reducible rfl)
      (try simp only [Act.put, List.setIfInBounds_toArray, List.set_cons_zero, List.set_cons_succ])
      refine wpAnyH_take (i := 24) (oi := _) (v := ?_) (by simp only [List.getElem?_toArray, List.getElem?_cons_succ, List.getElem?_cons_zero]; rfl) (by kernel_rfl) (by kernel_rfl) (by kernel_rfl) (by intro _ _ _ h; exact h) (Or.inl ⟨by rfl, ?_⟩) hHeld ?_
      rotate_left
      focus (rintro w ⟨hbs, s0, s1, s2, s3⟩; go_simp; try with_reducible rfl)
      (try simp only [Act.put, List.setIfInBounds_toArray, List.set_cons_zero, List.set_cons_succ])
      refine wpAnyH_take (i := 25) (oi := _) (v := .string (strOfNums (bL X3 Y3))) (by simp only [List.getElem?_toArray, List.getElem?_cons_succ, List.getElem?_cons_zero]; rfl) (by kernel_rfl) (by kernel_rfl) (by kernel_rfl) (by intro _ _ _ h; exact h) (Or.inl ⟨by rfl, fun w hSw => by have hcv := str_arg6 (c := cap) (HRL.out.below (HB10.out.trans (hSw.1.mono HB10.out.size))) rfl; go_simp⟩) hHeld ?_
      (try simp only [Act.put, List.setIfInBounds_toArray, List.set_cons_zero, List.set_cons_succ])
      refine wpAnyH_ready (rs := [22]) (by kernel_rfl) (by simp) ?_
      refine AllReadyH.cons rfl (fun K hK => ?_) ?_
      rotate_left
      · exact AllReadyH.nil
      go_simp
      go_at_call 10
      refine (HY5.out _).mono ?_
      rintro e w14 ⟨A7, c7, rfl, hc7, ho7, hbk⟩
      go_wp2_with fail
      have HO7 := Lib.hid ho7
      clear ho7
      have hqw14 : Below W10.heap.size W10 w14 := hHeld.1.trans (hbk.mono hHeld.1.size)
      clear hbk
      refine hK.out _ _ ⟨hqw14, (blk_cell (blk_below BP.out hqw14) 0).trans rfl, (blk_cell (blk_below BP.out hqw14) 1).trans rfl, (blk_cell (blk_below BQ.out hqw14) 0).trans rfl, (blk_cell (blk_below BQ.out hqw14) 1).trans rfl⟩ (fun hHeld => ?_)
      clear hK K
      (try simp only [Act.put, List.setIfInBounds_toArray, List.set_cons_zero, List.set_cons_succ])
      refine wpAnyH_ready (rs := [23]) (by kernel_rfl) (by simp) ?_
      refine AllReadyH.cons rfl (fun K hK => ?_) AllReadyH.nil
      have hcv := str_own6 HO7.out
      go_simp
      clear hcv
      refine hK.out _ _ hHeld (fun hHeld => ?_)
      clear hK K
      (try simp only [Act.put, List.setIfInBounds_toArray, List.set_cons_zero, List.set_cons_succ])
      refine wpAnyH_take (i := 26) (oi := _) (v := .bool false) (by simp only [List.getElem?_toArray, List.getElem?_cons_succ, List.getElem?_cons_zero]; rfl) (by kernel_rfl) (by kernel_rfl) (by kernel_rfl) (by intro _ _ _ h; exact h) (Or.inl ⟨by rfl, fun w hSw => by go_simp; all_goals simp⟩) hHeld ?_
      (try simp only [Act.put, List.setIfInBounds_toArray, List.set_cons_zero, List.set_cons_succ])
      refine wpAnyH_take (i := 27) (oi := _) (v := ?_) (by simp only [List.getElem?_toArray, List.getElem?_cons_succ, List.getElem?_cons_zero]; rfl) (by kernel_rfl) (by kernel_rfl) (by kernel_rfl) (by intro _ _ _ h; exact h) (Or.inl ⟨by rfl, ?_⟩) hHeld ?_
      rotate_left
      focus (rintro w ⟨hbs, s0, s1, s2, s3⟩; go_simp; try with_reducible rfl)
      (try simp only [Act.put, List.setIfInBounds_toArray, List.set_cons_zero, List.set_cons_succ])
      refine wpAnyH_take (i := 28) (oi := _) (v := ?_) (by simp only [List.getElem?_toArray, List.getElem?_cons_succ, List.getElem?_cons_zero]; rfl) (by kernel_rfl) (by kernel_rfl) (by kernel_rfl) (by intro _ _ _ h; exact h) (Or.inl ⟨by rfl, ?_⟩) hHeld ?_
      rotate_left
      focus (rintro w ⟨hbs, s0, s1, s2, s3⟩; go_simp; try with_reducible rfl)
      (try simp only [Act.put, List.setIfInBounds_toArray, List.set_cons_zero, List.set_cons_succ])
      refine wpAnyH_take (i := 29) (oi := _) (v := ?_) (by simp only [List.getElem?_toArray, List.getElem?_cons_succ, List.getElem?_cons_zero]; rfl) (by kernel_rfl) (by kernel_rfl) (by kernel_rfl) (by intro _ _ _ h; exact h) (Or.inl ⟨by rfl, ?_⟩) hHeld ?_
      rotate_left
      focus (rintro w ⟨hbs, s0, s1, s2, s3⟩; go_simp; try with_reducible rfl)
      (try simp only [Act.put, List.setIfInBounds_toArray, List.set_cons_zero, List.set_cons_succ])
      refine wpAnyH_done (by kernel_rfl) ?_ _
      have HB11 := Lib.hid (HB10.out.trans (hHeld.1.mono HB10.out.size))
      clear hHeld
      have HLV := Lib.hid (alives _ (tab_on HT.out HB11.out))
      go_wp2_with (go_at_call 14; refine HLV.out.mono ?_; rintro e w20 ⟨rfl, hbk⟩)
      go_ret
      exact ⟨rfl, hg ▸ HB.out.trans ((HB11.out.trans (hbk.mono HB11.out.size)).mono (by have := HB.out.size; omega))⟩
end Go.Proofs.YtnkbbmfhdabbkaaDoor
