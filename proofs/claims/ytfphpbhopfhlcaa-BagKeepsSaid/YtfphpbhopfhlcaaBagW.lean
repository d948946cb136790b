/-
  The walk of BagKeeps.
-/
import Derived.Test.YtfphpbhopfhlcaaBagK
namespace Go.Proofs.Ytfphpbhopfhlcaa.D
open Go.RowKit
set_option linter.unusedVariables false
set_option linter.unusedSimpArgs false
set_option maxRecDepth 20000 in
set_option maxHeartbeats 10000000 in
theorem keeps_walk (a0 : Int) (A : Option Addr) (n cap : Nat) (F : Nat → OpB) (s : Dg) (w : World) (HO : ReadsOp w A n F) (hn : n ≤ maxLen) (hs : s.s.size ≤ maxLen) :
    Calls Try.prog 5 #[.int .i64 a0, .slice A n cap, .agg #[.int .u32 s.h1, .int .u16 s.p1, .int .u32 s.h2, .int .u16 s.p2, .string s.s]] w fun e w' => e = .returned (.bool true) ∧ Below w.heap.size w w' := by
  have hbA := (Below.refl w.heap.size w).alloc (Nat.le_refl _) (B49 s)
  have HB0 : Hid (At5 (w.alloc (B49 s)) w.heap.size 0 s) := new_at5 w s 49
  have HL := Lib.hid (rlong A n cap F _ (readsOp_below HO hbA) hn)
  have HOO := Lib.hid HO
  have hs2 : s.s.size ≤ 9223372036854775807 := hs
  have HBA := Lib.hid hbA
  clear HO hbA hs
  go_enter Try.func5, Try.ntmps5
  go_wp2_with fail
  refine HL.out.mono ?_
  rintro e w1 ⟨lb, rfl, hlb, hg1⟩
  have HB1 := Lib.hid (at5_below HB0.out hg1)
  have HG1 := Lib.hid (HBA.out.trans (hg1.mono HBA.out.size))
  have HLV := Lib.hid (bag_lives w1)
  obtain ⟨⟨q0, q1, q2, q3, q4⟩, -⟩ := HB1.out
  clear hg1 q0 q1 q2 q3
  have lives : ∀ w', Below w1.heap.size w1 w' → Below w.heap.size w w' := fun w' h => HG1.out.trans (h.mono HG1.out.size)
  have LV := Lib.hid lives
  clear lives
  cases lb with
  | true =>
    go_wp2_with (go_at_call 18; refine HLV.out.mono ?_; rintro e w3 ⟨rfl, hb3⟩)
    go_ret
    exact ⟨rfl, LV.out _ hb3⟩
  | false =>
    have hn60 := hlb rfl
    clear hlb
    by_cases c1 : a0 < 1
    · go_wp2_with (go_at_call 18; refine HLV.out.mono ?_; rintro e w3 ⟨rfl, hb3⟩)
      go_ret
      exact ⟨rfl, LV.out _ hb3⟩
    by_cases c2 : 1024 < a0
    · go_wp2_with (go_at_call 18; refine HLV.out.mono ?_; rintro e w3 ⟨rfl, hb3⟩)
      go_ret
      exact ⟨rfl, LV.out _ hb3⟩
    by_cases c3 : (1000 : Int) < (s.s.size : Int)
    · go_wp2_with (go_at_call 18; refine HLV.out.mono ?_; rintro e w3 ⟨rfl, hb3⟩)
      go_ret
      exact ⟨rfl, LV.out _ hb3⟩
    obtain ⟨most, rfl⟩ := Int.eq_ofNat_of_zero_le (show 0 ≤ a0 by omega)
    obtain ⟨X, hX⟩ : ∃ X : Nat → Prop, X = fun k => k < w1.heap.size := ⟨_, rfl⟩
    have XE : Hid (∀ k, X k ↔ k < w1.heap.size) := fun k => by rw [hX]
    have XS : Hid (X w.heap.size) := by rw [hX]; exact at5_lt HB1.out
    have HN := Lib.hid (bnew_yes X most w1 (by omega) (by omega) (fun k h => (XE.out k).1 h))
    clear hX
    go_wp2_with fail
    refine HN.out.mono ?_
    rintro e w2 ⟨g, rfl, hb2, hg2⟩
    have HBAG := Lib.hid hb2
    have HK2 : Hid (Kept X w1 w2) := Kept.of_below hg2
    clear hb2 hg2
    go_wp2
    have XB0 : Hid (BagS X w2 g most [] 0) := HBAG.out
    go_loopw [8, 42] (fun m x wr => ∃ (k : Nat) (L : List Dg) (lost : Int), k ≤ n ∧ m = .int .i64 (cnt s L) ∧ x = .int .i64 k ∧ 0 ≤ lost ∧ lost ≤ k ∧ BagS X wr g most L lost ∧ Kept X w1 wr) (fun _ x _ => n - (intOf x).toNat)
    case atStart => exact ⟨0, [], 0, by omega, rfl, rfl, by omega, by omega, HBAG.out, HK2.out⟩
    case round =>
      obtain ⟨k, L, lost, hk, rfl, rfl, hl0, hl1, hbag, hkr⟩ := hrel
      have HB := Lib.hid hbag
      have HKR := Lib.hid hkr
      clear hbag hkr
      by_cases hlt : k < n
      · obtain ⟨b, off, rfl, hops⟩ := HOO.out (by omega)
        have hopw := opAt_below (hops k hlt) (LV.out w1 (Below.refl _ _))
        have hop := opAt_kept hopw HKR.out ((XE.out b).2 (World.block_lt_of_cell? _ _ hopw.1))
        generalize F k = o at *
        have hsz : o.d.s.size ≤ maxLen := hop.2.2.2.2.2.2.2
        obtain ⟨h0, h1, h2, h3, h4, h5, h6, -⟩ := hop
        clear hops hopw
        go_upto_block 2 with fail
        have hba := (Below.refl wr.heap.size wr).alloc (Nat.le_refl _) (.cells #[Value.int .i64 o.k, Value.int .i64 o.i, Value.int .u32 o.d.h1, Value.int .u16 o.d.p1, Value.int .u32 o.d.h2, Value.int .u16 o.d.p2, Value.string o.d.s] 54)
        have hgl := bag_lt HB.out
        have hwid : BagS (fun k => X k ∨ k = wr.heap.size) (wr.alloc (.cells #[Value.int .i64 o.k, Value.int .i64 o.i, Value.int .u32 o.d.h1, Value.int .u16 o.d.p1, Value.int .u32 o.d.h2, Value.int .u16 o.d.p2, Value.string o.d.s] 54)) g most L lost :=
          bag_widen HB.out hba (fun k hk => hk.elim .inl (fun e => .inr (by omega)))
        have hXk : ∀ k, (X k ∨ k = wr.heap.size) → k < (wr.alloc (.cells #[Value.int .i64 o.k, Value.int .i64 o.i, Value.int .u32 o.d.h1, Value.int .u16 o.d.p1, Value.int .u32 o.d.h2, Value.int .u16 o.d.p2, Value.string o.d.s] 54)).heap.size := fun k hk => by
          have := HKR.out.size
          simp
          exact hk.elim (fun h => by have := (XE.out k).1 h; omega) (fun h => by omega)
        have hkw : Kept X w1 (wr.alloc (.cells #[Value.int .i64 o.k, Value.int .i64 o.i, Value.int .u32 o.d.h1, Value.int .u16 o.d.p1, Value.int .u32 o.d.h2, Value.int .u16 o.d.p2, Value.string o.d.s] 54)) := HKR.out.trans (Kept.of_below hba)
        have hopa : OpAt (wr.alloc (.cells #[Value.int .i64 o.k, Value.int .i64 o.i, Value.int .u32 o.d.h1, Value.int .u16 o.d.p1, Value.int .u32 o.d.h2, Value.int .u16 o.d.p2, Value.string o.d.s] 54)) wr.heap.size 0 o := by
          refine ⟨?_, ?_, ?_, ?_, ?_, ?_, ?_, hsz⟩ <;> simp
        clear h0 h1 h2 h3 h4 h5 h6 hba
        generalize wr.alloc _ = W0 at *
        generalize wr.heap.size = s10 at *
        have HWID := Lib.hid hwid
        have HXK := Lib.hid hXk
        have HKW := Lib.hid hkw
        have HOP := Lib.hid hopa
        clear hwid hXk hkw hopa
        go_cut [8, 10, 11, 12, 13, 14, 15, 16, 17, 18, 42] from 42 to 130 (fun m z10 z11 z12 z13 z14 z15 z16 z17 z18 x wc => ∃ (L : List Dg) (lost : Int), m = .int .i64 (cnt s L) ∧ x = .int .i64 k ∧ 0 ≤ lost ∧ lost ≤ k + 1 ∧ BagS X wc g most L lost ∧ Kept X w1 wc)
        case first =>
          have hcl := cnt_le s L
          have hll := bag_len HB.out
          obtain ⟨h0, h1, h2, h3, h4, h5, h6, -⟩ := HOP.out
          by_cases hk0 : o.k = 0
          · have hput := bag_any_put _ g most L lost o.d W0 HWID.out HXK.out ⟨by omega, by omega⟩ hsz
            have hE : putE most L o.d = 0 ∨ putE most L o.d ≠ 0 := by omega
            have HPUT := Lib.hid hput
            clear hput
            rcases hE with hE | hE
            · rw [hE] at HPUT
              go_wp2_with fail
              refine HPUT.out.mono ?_
              rintro e w3 ⟨rfl, hb3, hk3⟩
              obtain ⟨h0, h1, h2, h3, h4, h5, h6, -⟩ := opAt_kept HOP.out hk3 (.inr rfl)
              obtain ⟨⟨q0, q1, q2, q3, q4⟩, -⟩ := kept_at5 HB1.out (HKW.out.trans (hk3.mono (fun k h => .inl h))) XS.out
              have hbn := bag_narrow (X := X) hb3 (fun k h => .inl h)
              have hkn : Kept X w1 w3 := HKW.out.trans (hk3.mono (fun k h => .inl h))
              have hc : cnt s (putL most L o.d) = cnt s L + if eqB o.d s = true then 1 else 0 := by rw [putL_ok hE, cnt_snoc]
              have hlo : putN most L o.d lost = lost := putN_ok hE
              rw [hlo] at hbn
              have HC := Lib.hid hc
              have HBN := Lib.hid hbn
              have HKN := Lib.hid hkn
              have HS10 : Hid (0 ≤ lost ∧ lost ≤ (k : Int) + 1) := ⟨hl0, by omega⟩
              clear hc hbn hkn hb3 hk3 hlo
              go_wp2
              all_goals go_meet
              all_goals exact ⟨_, _, by first | (rw [HC.out, if_neg (by simp [eqB, *])]; rfl) | (rw [HC.out, if_pos (by simp [eqB, *])]; rfl), rfl, HS10.out.1, HS10.out.2, HBN.out, HKN.out⟩
            · have hpl := putL_no hE
              have hln := putN_le most L o.d lost
              generalize putE most L o.d = pe at *
              generalize putN most L o.d lost = ln at *
              rw [hpl] at HPUT
              go_wp2_with fail
              refine HPUT.out.mono ?_
              rintro e w3 ⟨rfl, hb3, hk3⟩
              have HBN := Lib.hid (bag_narrow (X := X) hb3 (fun k h => .inl h))
              have HKN : Hid (Kept X w1 w3) := HKW.out.trans (hk3.mono (fun k h => .inl h))
              have HS10 : Hid (0 ≤ ln ∧ ln ≤ (k : Int) + 1) := ⟨by omega, by omega⟩
              clear hb3 hk3 hln
              go_wp2
              go_meet
              exact ⟨L, ln, rfl, rfl, HS10.out.1, HS10.out.2, HBN.out, HKN.out⟩
          · by_cases hk1 : o.k = 1
            · have ht := btake_any _ g most L lost o.i W0 HWID.out HXK.out
              have hcut : atOk L o.i = true ∨ atOk L o.i = false := by cases atOk L o.i <;> simp
              rcases hcut with hok | hok
              · obtain ⟨i0, i1⟩ := of_decide_eq_true hok
                obtain ⟨ii, hii⟩ := Int.eq_ofNat_of_zero_le i0
                have hcl' : cutL L o.i = L.eraseIdx ii := by rw [cutL, if_pos hok, hii]; rfl
                have hav : atV L o.i = L.getD ii d0 := by rw [atV, if_pos hok, hii]; rfl
                have hce := cnt_erase s L ii (by omega)
                rw [hok, hcl', hav] at ht
                unfold dv cs5 at ht
                have HT := Lib.hid ht
                have HCE : Hid (cnt s (L.eraseIdx ii) + (if eqB (L.getD ii d0) s = true then 1 else 0) = cnt s L) := hce
                generalize L.getD ii d0 = x at *
                clear ht hok i0 i1 hcl' hav hce hii
                go_wp2_with fail
                refine HT.out.mono ?_
                rintro e w3 ⟨rfl, hb3, hk3⟩
                have hba := (Below.refl w3.heap.size w3).alloc (Nat.le_refl _) (B49 x)
                have hkn : Kept X w1 (w3.alloc (B49 x)) := (HKW.out.trans (hk3.mono (fun k h => .inl h))).trans (Kept.of_below hba)
                have HBN := Lib.hid (bag_below (bag_narrow (X := X) hb3 (fun k h => .inl h)) hba)
                obtain ⟨⟨q0, q1, q2, q3, q4⟩, -⟩ := kept_at5 HB1.out hkn XS.out
                have hx5 : At5 (w3.alloc (B49 x)) w3.heap.size 0 x := new_at5 w3 x 49
                obtain ⟨⟨y0, y1, y2, y3, y4⟩, -⟩ := hx5
                have HKN := Lib.hid hkn
                have HS10 : Hid (0 ≤ lost ∧ lost ≤ (k : Int) + 1) := ⟨hl0, by omega⟩
                have hcb : cnt s (L.eraseIdx ii) ≤ cnt s L := by have := HCE.out; omega
                clear hb3 hk3 hkn hba
                go_upto_region 16 with fail
                generalize w3.alloc _ = w4 at *
                generalize w3.heap.size = s11 at *
                go_wp2
                all_goals go_meet
                all_goals
                  have hce := HCE.out
                  first
                  | (rw [if_neg (by simp [eqB, *])] at hce; exact ⟨_, _, by rw [← hce]; rfl, rfl, HS10.out.1, HS10.out.2, HBN.out, HKN.out⟩)
                  | (rw [if_pos (by simp [eqB, *])] at hce; exact ⟨_, _, ret_int2 (by omega), rfl, HS10.out.1, HS10.out.2, HBN.out, HKN.out⟩)
              · have hcl' : cutL L o.i = L := by rw [cutL, hok]; rfl
                have hav : atV L o.i = d0 := by rw [atV, hok]; rfl
                rw [hok, hcl', hav] at ht
                unfold dv cs5 at ht
                have HT := Lib.hid ht
                clear ht hok hcl' hav
                go_wp2_with fail
                refine HT.out.mono ?_
                rintro e w3 ⟨rfl, hb3, hk3⟩
                have hba := (Below.refl w3.heap.size w3).alloc (Nat.le_refl _) (B49 d0)
                have HKN : Hid (Kept X w1 (w3.alloc (B49 d0))) := (HKW.out.trans (hk3.mono (fun k h => .inl h))).trans (Kept.of_below hba)
                have HBN := Lib.hid (bag_below (bag_narrow (X := X) hb3 (fun k h => .inl h)) hba)
                have HS10 : Hid (0 ≤ lost ∧ lost ≤ (k : Int) + 1) := ⟨hl0, by omega⟩
                clear hb3 hk3 hba
                go_wp2
                go_meet
                exact ⟨_, _, rfl, rfl, HS10.out.1, HS10.out.2, HBN.out, HKN.out⟩
            · by_cases hk2 : o.k = 2
              · have ht := bat_any _ g most L lost o.i W0 HWID.out
                have hE : (atOk L o.i = true ∧ L.length < most ∧ dblE most L o.i = 0 ∧ dblL most L o.i = L ++ [atV L o.i]) ∨ (dblE most L o.i ≠ 0 ∧ dblL most L o.i = L) := by
                  cases hok : atOk L o.i with
                  | true =>
                    by_cases hm : L.length < most
                    · exact .inl ⟨rfl, hm, by rw [dblE, if_pos hok, pushE, if_pos hm], by rw [dblL, if_pos hok, pushL, if_pos hm, atV, if_pos hok]⟩
                    · exact .inr ⟨by rw [dblE, if_pos hok, pushE, if_neg hm]; decide, by rw [dblL, if_pos hok, pushL, if_neg hm]⟩
                  | false => exact .inr ⟨by rw [dblE, hok]; simp, by rw [dblL, hok]; rfl⟩
                unfold dv cs5 at ht
                have HT := Lib.hid ht
                clear ht
                have HDB : Hid (∀ (W : World) (s11 : Nat), BagS (fun k => (X k ∨ k = s10) ∨ k = s11) W g most L lost → (∀ k, ((X k ∨ k = s10) ∨ k = s11) → k < W.heap.size) → Calls Try.prog 23 #[.pointer (some ⟨g, 0, none⟩), .int .i64 o.i] W fun e w' => e = .returned (.int .i64 (dblE most L o.i)) ∧ BagS (fun k => (X k ∨ k = s10) ∨ k = s11) w' g most (dblL most L o.i) lost ∧ Kept (fun k => (X k ∨ k = s10) ∨ k = s11) W w') :=
                  fun W s11 h hx => bdouble_any _ g most L lost o.i W h hx
                have HCS : Hid (cnt s (L ++ [atV L o.i]) = cnt s L + if eqB (atV L o.i) s = true then 1 else 0) := cnt_snoc s L _
                generalize atV L o.i = x at *
                generalize atOk L o.i = ok at *
                generalize dblE most L o.i = de at *
                generalize dblL most L o.i = dl at *
                go_wp2_with fail
                refine HT.out.mono ?_
                rintro e w3 ⟨rfl, hg3⟩
                have hba := (Below.refl w3.heap.size w3).alloc (Nat.le_refl _) (B49 x)
                have hb3 := bag_below HWID.out hg3
                have hg3l := bag_lt hb3
                have hwd : BagS (fun k => (X k ∨ k = s10) ∨ k = w3.heap.size) (w3.alloc (B49 x)) g most L lost := bag_widen hb3 hba (fun k hk => hk.elim .inl (fun e => .inr (by omega)))
                have hXX : ∀ k, ((X k ∨ k = s10) ∨ k = w3.heap.size) → k < (w3.alloc (B49 x)).heap.size := fun k hk => by
                  have := hg3.size
                  simp
                  exact hk.elim (fun h => by have := HXK.out k h; omega) (fun h => by omega)
                have hkn : Kept X w1 (w3.alloc (B49 x)) := (HKW.out.trans (Kept.of_below hg3)).trans (Kept.of_below hba)
                have hop3 := opAt_below (opAt_below HOP.out hg3) hba
                have hx5 : At5 (w3.alloc (B49 x)) w3.heap.size 0 x := new_at5 w3 x 49
                go_upto_region 20 with fail
                generalize w3.alloc _ = w4 at *
                generalize w3.heap.size = s11 at *
                have HD := Lib.hid (HDB.out w4 s11 hwd hXX)
                have HKN := Lib.hid hkn
                have HX5 := Lib.hid hx5
                have HOP3 := Lib.hid hop3
                clear hwd hXX hkn hx5 hb3 hba hg3 HDB
                obtain ⟨p0, p1, -⟩ := hop3
                go_wp2_with fail
                refine HD.out.mono ?_
                rintro e w5 ⟨rfl, hb5, hk5⟩
                have hkn5 : Kept X w1 w5 := HKN.out.trans (hk5.mono (fun k h => .inl (.inl h)))
                obtain ⟨⟨q0, q1, q2, q3, q4⟩, -⟩ := kept_at5 HB1.out hkn5 XS.out
                obtain ⟨⟨y0, y1, y2, y3, y4⟩, -⟩ := kept_at5 HX5.out hk5 (.inr rfl)
                have HBN := Lib.hid (bag_narrow (X := X) hb5 (fun k h => .inl (.inl h)))
                have HKN5 := Lib.hid hkn5
                have HS10 : Hid (0 ≤ lost ∧ lost ≤ (k : Int) + 1) := ⟨hl0, by omega⟩
                clear hb5 hk5 hkn5
                rcases hE with ⟨-, hm, rfl, rfl⟩ | ⟨hde, rfl⟩
                · go_wp2
                  all_goals go_meet
                  all_goals exact ⟨_, _, by first | (rw [HCS.out, if_neg (by simp [eqB, *])]; rfl) | (rw [HCS.out, if_pos (by simp [eqB, *])]; rfl), rfl, HS10.out.1, HS10.out.2, HBN.out, HKN5.out⟩
                · go_wp2
                  go_meet
                  exact ⟨_, _, rfl, rfl, HS10.out.1, HS10.out.2, HBN.out, HKN5.out⟩
              · have HBN := Lib.hid (bag_narrow (X := X) HWID.out (fun k h => .inl h))
                have HS10 : Hid (0 ≤ lost ∧ lost ≤ (k : Int) + 1) := ⟨hl0, by omega⟩
                go_wp2
                go_meet
                exact ⟨_, _, rfl, rfl, HS10.out.1, HS10.out.2, HBN.out, HKW.out⟩
        case rest =>
          obtain ⟨L2, lost2, rfl, rfl, hm0, hm1, hbag2, hkc⟩ := hcut
          have HBC := Lib.hid hbag2
          have HKC := Lib.hid hkc
          have HLEN := Lib.hid (blen X g most L2 lost2 wc hbag2)
          have hll2 := bag_len hbag2
          have hcl2 := cnt_le s L2
          have HBX := Lib.hid (kept_at5 HB1.out hkc XS.out)
          clear hbag2 hkc HOP HWID HXK HKW HB HKR
          go_wp2_with (go_at_call 24; refine HLEN.out.mono ?_; rintro e w5 ⟨rfl, rfl⟩)
          go_loopw [15, 103] (fun t x wr => ∃ i : Nat, i ≤ L2.length ∧ t = .int .i64 (cnt s (L2.take i)) ∧ x = .int .i64 i ∧ Below wc.heap.size wc wr) (fun _ x _ => L2.length - (intOf x).toNat)
          case atStart => exact ⟨0, by omega, rfl, rfl, Below.refl _ _⟩
          case round =>
            obtain ⟨i, hi, rfl, rfl, hbi⟩ := hrel
            have HBI := Lib.hid hbi
            clear hbi
            by_cases hil : i < L2.length
            · have hok : atOk L2 (i : Int) = true := decide_eq_true ⟨by omega, by omega⟩
              have hav : atV L2 (i : Int) = L2.getD i d0 := by rw [atV, if_pos hok]; rfl
              have ht := bat_any X g most L2 lost2 i wr (bag_below HBC.out HBI.out)
              have HCT := Lib.hid (cnt_take s L2 i hil)
              rw [hok, hav] at ht
              unfold dv cs5 at ht
              have HT := Lib.hid ht
              generalize L2.getD i d0 = x at *
              clear ht hok hav
              go_wp2_with fail
              refine HT.out.mono ?_
              rintro e w6 ⟨rfl, hg6⟩
              have hba := (Below.refl w6.heap.size w6).alloc (Nat.le_refl _) (B49 x)
              have hb7 := HBI.out.trans ((hg6.trans (hba.mono hg6.size)).mono HBI.out.size)
              have hx5 : At5 (w6.alloc (B49 x)) w6.heap.size 0 x := new_at5 w6 x 49
              have hbx := at5_below HBX.out hb7
              go_upto_region 27 with fail
              generalize w6.alloc _ = w7 at *
              generalize w6.heap.size = s17 at *
              have HB7 := Lib.hid hb7
              obtain ⟨⟨q0, q1, q2, q3, q4⟩, -⟩ := hbx
              obtain ⟨⟨y0, y1, y2, y3, y4⟩, -⟩ := hx5
              clear hg6 hba hb7
              have hct1 := cnt_le s (L2.take i)
              have hct2 : (L2.take i).length ≤ L2.length := by rw [List.length_take]; omega
              go_wp2
              all_goals
                go_roundw
                case rel => exact ⟨i + 1, by omega, by first | (rw [HCT.out, if_neg (by simp [eqB, *])]; rfl) | (rw [HCT.out, if_pos (by simp [eqB, *])]; rfl), by go_num, HB7.out⟩
                case measure => simp [intOf]; omega
            · obtain rfl : i = L2.length := by omega
              rw [List.take_length]
              have HLEN2 := Lib.hid (blen X g most L2 lost2 wr (bag_below HBC.out HBI.out))
              have hb9 := bag_below HBC.out HBI.out
              have HB9 := Lib.hid hb9
              have HK9 : Hid (Kept X w1 wr) := HKC.out.trans (Kept.of_below HBI.out)
              clear hb9
              go_wp2_with (go_at_call 24; refine HLEN2.out.mono ?_; rintro e w5 ⟨rfl, rfl⟩)
              go_roundw
              case rel => exact ⟨k + 1, L2, lost2, by omega, rfl, by go_num, hm0, by omega, HB9.out, HK9.out⟩
              case measure => simp [intOf]; omega
      · have HLV2 := Lib.hid (bag_lives wr)
        have hbb : Below w.heap.size w wr := LV.out wr (HKR.out.below (fun k h => (XE.out k).2 h) (Nat.le_refl _))
        have HBB := Lib.hid hbb
        clear hbb
        go_wp2_with (go_at_call 18; refine HLV2.out.mono ?_; rintro e w3 ⟨rfl, hb3⟩)
        go_ret
        exact ⟨rfl, HBB.out.trans (hb3.mono HBB.out.size)⟩
end Go.Proofs.Ytfphpbhopfhlcaa.D
