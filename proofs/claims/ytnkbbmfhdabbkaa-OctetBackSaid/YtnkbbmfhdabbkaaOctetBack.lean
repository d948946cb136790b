/-
  signpost's OctetBack: for every input the law returns true. No condition.
-/
import Derived.Test.YtnkbbmfhdabbkaaRows
import Derived.WalkKit
import Derived.ProofKit
import Derived.OpenShut
import Derived.ShutString
import Derived.ChangeOld
import Derived.Below
import Derived.Test.YtnkbbmfhdabbkaaOctL
import Derived.Deep.DrawnRows
import Derived.Deep.RegionHeld3
namespace Go.Proofs.Ytnkbbmfhdabbkaa.octetBack
open Go.ChangeShapes Go.WideShapes Go.ChangeAt Go.RowKit
open Go.ChangeMaps (open_string shut_string)
open Go.Proofs.YtnkbbmfhdabbkaaW.PrintWords
set_option linter.unusedSimpArgs false
set_option linter.unusedVariables false

theorem own : ownKnob Try.prog.godebug = none := by kernel_rfl
theorem laidOut : laidOutB Try.prog = true := by kernel_rfl

theorem walk_far (A0 A1 A2 A3 : Option Addr) (n0 c0 n1 c1 n2 c2 n3 c3 : Nat) (w : World) (h : (50 : Int) < (n0 : Int) ∨ (50 : Int) < (n2 : Int) ∨ (4000 : Int) < (n3 : Int)) :
    Calls Try.prog 6 #[.slice A0 n0 c0, .slice A1 n1 c1, .slice A2 n2 c2, .slice A3 n3 c3] w fun e w' => e = .returned (.bool true) ∧ Below w.heap.size w w' := by
  have hg := Below.refl w.heap.size w
  by_cases h1 : (50 : Int) < (n0 : Int)
  · clear h
    go_enter Try.func6, Try.ntmps6
    go_wp2_with (go_at_call 9; refine (based (lives_any _) (by assumption)).mono ?_; rintro e w' ⟨rfl, hg⟩)
    go_ret
    exact ⟨rfl, by assumption⟩
  · by_cases h2 : (50 : Int) < (n2 : Int)
    · clear h
      go_enter Try.func6, Try.ntmps6
      go_wp2_with (go_at_call 9; refine (based (lives_any _) (by assumption)).mono ?_; rintro e w' ⟨rfl, hg⟩)
      go_ret
      exact ⟨rfl, by assumption⟩
    · have h3 : (4000 : Int) < (n3 : Int) := by omega
      clear h
      go_enter Try.func6, Try.ntmps6
      go_wp2_with (go_at_call 9; refine (based (lives_any _) (by assumption)).mono ?_; rintro e w' ⟨rfl, hg⟩)
      go_ret
      exact ⟨rfl, by assumption⟩

/-- A slice of bytes that reads as l. -/
def Sl (w : World) (v : Value) (l : List Int) : Prop := ∃ A c, v = .slice A l.length c ∧ ReadsInt w .u8 A l.length l ∧ l.length ≤ c
theorem sl_nil (w : World) : Sl w (.slice none 0 0) [] := ⟨none, 0, rfl, ReadsInt.nil _ _, Nat.le_refl _⟩
theorem sl_own {w : World} {base : Nat} {v : Value} {l : List Int} (h : w.ownsRow base 5 1 v l.length (nums .u8 l)) : Sl w v l := by
  obtain ⟨A, c, rfl, hc, hr⟩ := own_reads_cap h
  exact ⟨A, c, rfl, hr, hc⟩
theorem put_m (o : List Int) (n : Int) (m : Nat) (h1 : 1 ≤ m) (h8 : m ≤ 8) : putL o n m = o ++ be n m := by unfold putL; rw [if_pos ⟨by omega, by omega⟩, Int.toNat_natCast]
theorem textL_in (o : List Int) (s : ByteArray) (h : s.size ≤ 1024) : textL o s = o ++ (be s.size 2 ++ bytesOf s) := by unfold textL; rw [if_pos h, List.append_assoc]
theorem textE_in (s : ByteArray) (h : s.size ≤ 1024) : textE s = 0 := by unfold textE; rw [if_pos h]
theorem take_snoc2 {α : Type} (l : List α) (k : Nat) (d : α) (h : k < l.length) : l.take (k + 1) = l.take k ++ [l.getD k d] := by
  rw [List.take_succ_eq_append_getElem h, List.getD_eq_getElem?_getD, List.getElem?_eq_getElem h]; rfl
theorem drop_cons2 {α : Type} (l : List α) (k : Nat) (d : α) (h : k < l.length) : l.drop k = l.getD k d :: l.drop (k + 1) := by
  rw [List.drop_eq_getElem_cons h, List.getD_eq_getElem?_getD, List.getElem?_eq_getElem h]; rfl
theorem getD_mem2 {α : Type} (l : List α) (k : Nat) (d : α) (h : k < l.length) : l.getD k d ∈ l := by
  rw [List.getD_eq_getElem?_getD, List.getElem?_eq_getElem h]; exact List.getElem_mem h

theorem shl_shr (n : Int) (m : Nat) (h0 : 0 ≤ n) (h1 : 1 ≤ m) (h8 : m ≤ 8) : IntKind.u64.wrap (n * 2 ^ (64 - 8 * m)) / 2 ^ (64 - 8 * m) = n % 256 ^ m := by
  have : m = 1 ∨ m = 2 ∨ m = 3 ∨ m = 4 ∨ m = 5 ∨ m = 6 ∨ m = 7 ∨ m = 8 := by omega
  rcases this with rfl | rfl | rfl | rfl | rfl | rfl | rfl | rfl <;> simp only [IntKind.wrap, IntKind.signed, IntKind.bits, Bool.false_and, Bool.false_eq_true, if_false] <;> simp <;> omega

set_option maxRecDepth 20000 in
set_option maxHeartbeats 1500000 in
theorem walk_near (A0 A1 A2 A3 : Option Addr) (c0 c1 c2 c3 : Nat) (L W : List Int) (ss : List ByteArray) (b : List Int) (w : World)
    (HL : ReadsInt w .u64 A0 L.length L) (HW : ReadsInt w .i64 A1 W.length W) (HS : ReadsStr w A2 ss.length c2 ss) (HB : ReadsInt w .u8 A3 b.length b) (hcb : b.length ≤ c3)
    (hL : ∀ x ∈ L, 0 ≤ x ∧ x ≤ 18446744073709551615) (hW : ∀ x ∈ W, -9223372036854775808 ≤ x ∧ x ≤ 9223372036854775807) (hb : Bytes b)
    (h50 : L.length ≤ 50) (t50 : ss.length ≤ 50) (b40 : b.length ≤ 4000) :
    Calls Try.prog 6 #[.slice A0 L.length c0, .slice A1 W.length c1, .slice A2 ss.length c2, .slice A3 b.length c3] w fun e w' => e = .returned (.bool true) ∧ Below w.heap.size w w' := by
  have XL := Lib.hid HL
  have XW := Lib.hid HW
  have XS := Lib.hid HS
  have XB := Lib.hid HB
  have XhL := Lib.hid hL
  have XhW := Lib.hid hW
  have Xhb := Lib.hid hb
  have hWl := HW.2.1
  clear HL HW HS HB hL hW hb
  go_enter Try.func6, Try.ntmps6
  go_wp2
  go_loopw [9, 40] (fun v i wr => ∃ k : Nat, k ≤ L.length ∧ i = .int .i64 k ∧ Sl wr v (X.encN W 0 (L.take k)) ∧ Below w.heap.size w wr) (fun _ i _ => L.length - (intOf i).toNat)
  case atStart => exact ⟨0, Nat.zero_le _, rfl, sl_nil _, by go_grown⟩
  case round =>
    obtain ⟨k, hk, rfl, ⟨A, c, rfl, hr, hc⟩, hg⟩ := hrel
    have hol : (X.encN W 0 (L.take k)).length ≤ 400 := by have := X.encN_len W 0 (L.take k); simp at this; omega
    generalize hO : X.encN W 0 (L.take k) = o at *
    have XO := Lib.hid hO
    have XR := Lib.hid hr
    have XG := Lib.hid hg
    clear hO hr hg
    by_cases hlt : k < L.length
    · obtain ⟨ad, rfl, hcell⟩ := (XL.out.below XG.out).at_ k (by omega) (by omega)
      have hn := XhL.out _ (getD_mem2 L k 0 hlt)
      have hm := wdt_bd W k
      have hE : X.encN W 0 (L.take (k + 1)) = o ++ be (L.getD k 0) (wdt W k) := by
        rw [take_snoc2 L k 0 hlt, X.encN_snoc, XO.out]
        simp [Nat.min_eq_left hk]
      simp only [rd, Int.toNat_natCast] at hcell
      have XC := Lib.hid (width_any A1 c1 W k wr (XW.out.below XG.out) (by omega) XhW.out)
      generalize hmm : wdt W k = m at *
      generalize L.getD k 0 = n at *
      have XE := Lib.hid hE
      clear hE hmm
      go_wp2_with (first
        | (go_at_call 26; go_loud (refine XC.out.mono ?_); rintro e w1 ⟨rfl, rfl⟩)
        | (go_at_call 14; go_loud (refine (put_any A c o n (m : Int) _ XR.out (by omega) hn.1 hn.2).mono ?_); rintro e w1 ⟨v1, rfl, ho1, hb1⟩; rw [put_m o n m hm.1 hm.2] at ho1; have YO := Lib.hid ho1; have YB := Lib.hid hb1; clear ho1 hb1))
      go_roundw
      case rel => exact ⟨k + 1, by omega, by go_num, by rw [XE.out]; exact sl_own YO.out, XG.out.trans (YB.out.mono XG.out.size)⟩
      case measure => simp [intOf]; omega
    · obtain rfl : k = L.length := by omega
      rw [List.take_length] at XO
      clear hlt hk
      go_wp2_with fail
      go_loopw [9, 54] (fun v i wr => ∃ k : Nat, k ≤ ss.length ∧ i = .int .i64 k ∧ Sl wr v (o ++ X.encT (ss.take k)) ∧ (∀ s ∈ ss.take k, s.size ≤ 1024) ∧ Below w.heap.size w wr) (fun _ i _ => ss.length - (intOf i).toNat)
      case atStart => exact ⟨0, Nat.zero_le _, rfl, ⟨A, c, by simp [X.encT], by simpa [X.encT] using XR.out, by simpa [X.encT] using hc⟩, by simp, XG.out⟩
      clear XR XG hc
      case round =>
        obtain ⟨k, hk, rfl, ⟨A, c, rfl, hr, hc⟩, hsz, hg⟩ := hrel
        have htl : (o ++ X.encT (ss.take k)).length ≤ 60000 := by have := X.encT_len (ss.take k) hsz; simp at this ⊢; omega
        generalize hO2 : o ++ X.encT (ss.take k) = o2 at *
        have XO2 := Lib.hid hO2
        have XR := Lib.hid hr
        have XG := Lib.hid hg
        have XZ := Lib.hid hsz
        clear hO2 hr hg hsz
        by_cases hlt : k < ss.length
        · obtain ⟨ad, rfl, hcell⟩ := (XS.out.below XG.out).2.2.2.1 (by omega)
          replace hcell := hcell k hlt
          have hmx := XS.out.2.2.2.2 _ (getD_mem2 ss k ByteArray.empty hlt)
          have hE : ss.take (k + 1) = ss.take k ++ [ss.getD k ByteArray.empty] := take_snoc2 ss k _ hlt
          generalize ss.getD k ByteArray.empty = s at *
          have XE := Lib.hid hE
          have XM := Lib.hid hmx
          clear hE hmx
          by_cases hs : s.size ≤ 1024
          · have XT := Lib.hid (textE_in s hs)
            have XU := Lib.hid (textL_in o2 s hs)
            go_wp2_with (go_at_call 12; go_loud (refine (text_any A c o2 s _ XR.out (by omega) (by omega)).mono ?_); rintro e w1 ⟨v1, rfl, ho1, hb1⟩; rw [XT.out]; rw [XU.out] at ho1; have YO := Lib.hid ho1; have YB := Lib.hid hb1; clear ho1 hb1)
            go_roundw
            case rel =>
              refine ⟨k + 1, by omega, by go_num, ?_, ?_, XG.out.trans (YB.out.mono XG.out.size)⟩
              · rw [XE.out, X.encT_snoc, ← List.append_assoc, XO2.out]; exact sl_own YO.out
              · rw [XE.out]
                intro x hx
                rcases List.mem_append.1 hx with hx | hx
                · exact XZ.out x hx
                · simp at hx; rw [hx]; exact hs
            case measure => simp [intOf]; omega
          · go_wp2_with (go_at_call 9; refine (based (lives_any _) XG.out).mono ?_; rintro e w' ⟨rfl, hg⟩)
            go_ret
            exact ⟨rfl, hg⟩
        · obtain rfl : k = ss.length := by omega
          rw [List.take_length] at XO2 XZ
          clear hlt hk
          go_wp2_with fail
          refine (ropen_any A c o2 _ XR.out (by omega)).mono ?_
          rintro e w1 ⟨g1, rfl, hg1, hr1, hb1⟩
          have YR1 := Lib.hid hr1
          have YG1 := Lib.hid (XG.out.trans (hb1.mono XG.out.size))
          have hlt1 := rdr_lt hr1
          have hg1w := Nat.le_trans XG.out.size hg1
          clear hr1 hb1
          go_wp2_with fail
          refine (X.ropen_any (X := g1) A3 c3 b _ (XB.out.below YG1.out) (by omega) hlt1).mono ?_
          rintro e w2 ⟨g2, rfl, hg2, hr2, hb2⟩
          have YR2 := Lib.hid hr2
          have YR1 : Hid (X.Rdr g2 w2 g1 o2 false) := X.rdr_grown (rdr_from YR1.out hg2) hb2
          have YG2 := Lib.hid (YG1.out.trans (hb2.mono YG1.out.size))
          have hlt2 := X.rdr_lt hr2
          have hlt12 := hb2.size
          clear hr2 hb2 YG1
          go_wp2_with fail
          go_loopw [18, 84] (fun v i wr => ∃ (k : Nat) (p l2 : List Int) (bad : Bool), k ≤ L.length ∧ i = .int .i64 k ∧ SlO w2.heap.size wr v p ∧ p.length ≤ 8 * k ∧ X.Again b l2 bad p ∧ X.Rdr g2 wr g1 (X.encN W k (L.drop k) ++ X.encT ss) false ∧ X.Rdr g1 wr g2 l2 bad ∧ Below w.heap.size w wr ∧ w2.heap.size ≤ wr.heap.size) (fun _ i _ => L.length - (intOf i).toNat)
          case atStart => exact ⟨0, [], b, false, Nat.zero_le _, rfl, slo_nil _ _, Nat.zero_le _, ⟨Xhb.out, Nat.le_refl _, fun _ => rfl⟩, by rw [List.drop_zero, XO.out, XO2.out]; exact YR1.out, YR2.out, YG2.out, Nat.le_refl _⟩
          clear YR1 YR2 YG2 XR hc
          case round =>
            obtain ⟨k, p, l2, bad, hk, rfl, ⟨Ap, cp, rfl, hrp, hcp, hxp⟩, hpl, hag, hq1, hq2, hg, hsz⟩ := hrel
            have XRP := Lib.hid hrp
            have XXP := Lib.hid hxp
            have XAG := Lib.hid hag
            have XQ1 := Lib.hid hq1
            have XQ2 := Lib.hid hq2
            have XG := Lib.hid hg
            clear hrp hxp hag hq1 hq2 hg
            by_cases hlt : k < L.length
            · obtain ⟨ad, rfl, hcell⟩ := (XL.out.below XG.out).at_ k (by omega) (by omega)
              have hn := XhL.out _ (getD_mem2 L k 0 hlt)
              have hm := wdt_bd W k
              have hE : X.encN W k (L.drop k) ++ X.encT ss = be (L.getD k 0) (wdt W k) ++ (X.encN W (k + 1) (L.drop (k + 1)) ++ X.encT ss) := by
                rw [drop_cons2 L k 0 hlt, X.encN, List.append_assoc]
              rw [hE] at XQ1
              clear hE
              have hBT := bytes_append (X.bytes_be (L.getD k 0) (wdt W k)) (bytes_append (X.bytes_encN W (k + 1) (L.drop (k + 1))) (X.bytes_encT ss))
              simp only [rd, Int.toNat_natCast] at hcell
              have XC := Lib.hid (width_any A1 c1 W k wr (XW.out.below XG.out) (by omega) XhW.out)
              generalize hTl : X.encN W (k + 1) (L.drop (k + 1)) ++ X.encT ss = T at *
              have XTl := Lib.hid hTl
              generalize wdt W k = m at *
              generalize L.getD k 0 = n at *
              obtain ⟨e1, e2, e3⟩ := X.read_num n m T hn.1 hm.1 hm.2
              have XN := Lib.hid (X.rnum_any g1 (be n m ++ T) false (m : Int) wr XQ1.out hBT)
              unfold X.NumRes at XN
              rw [e1, e2, e3] at XN
              have XM := Lib.hid hm
              have Xhn := Lib.hid hn
              clear hTl e1 e2 e3 hBT
              go_wp2_with (go_at_call 26; go_loud (refine XC.out.mono ?_); rintro e w1 ⟨rfl, rfl⟩)
              refine XN.out.mono ?_
              rintro e w3 ⟨rfl, hq, hgr⟩
              have YQ1 := Lib.hid hq
              have YGR := Lib.hid hgr
              clear hq hgr
              have hsh := shl_shr n m Xhn.out.1 XM.out.1 XM.out.2
              generalize hmod : n % 256 ^ m = z at *
              clear hmod
              have h12 : g1 ≠ g2 := by omega
              have YQ2 : Hid (X.Rdr g1 w3 g2 l2 bad) := X.rdr_apart XQ2.out (Ne.symm h12) YGR.out
              have YP : Hid (SlO w2.heap.size w3 (.slice Ap p.length cp) p) := slo_grown ⟨Ap, cp, rfl, XRP.out, hcp, XXP.out⟩ YGR.out (by omega)
              have YG3 : Hid (Below w.heap.size w w3) := pw_below_grown XG.out (some g1) XG.out.size YGR.out (fun k e => by rw [← Option.some.inj e]; exact hg1w)
              have hs3 := YGR.out.size
              obtain ⟨ag1, ag2, ag3, ag4⟩ := X.again_num XAG.out m XM.out.1 XM.out.2
              have YN := Lib.hid (X.rnum_any g2 l2 bad (m : Int) w3 YQ2.out XAG.out.1)
              unfold X.NumRes at YN
              generalize X.numV l2 bad (m : Int) = y at *
              generalize X.numL l2 bad (m : Int) = l3 at *
              generalize (!X.numOk l2 bad (m : Int)) = bad3 at *
              generalize hP3 : putL p y (m : Int) = p3 at *
              have XP3 := Lib.hid hP3
              clear hP3
              have YAG := Lib.hid ag1
              clear ag1 h12
              go_wp2_with fail
              refine YN.out.mono ?_
              rintro e w4 ⟨rfl, hq, hgr⟩
              have ZQ2 := Lib.hid hq
              have hne : g1 ≠ g2 := by omega
              have ZQ1 : Hid (X.Rdr g2 w4 g1 T false) := X.rdr_apart (show X.Rdr g2 w3 g1 T false from YQ1.out) hne hgr
              have hzp := slo_grown YP.out hgr hlt2
              obtain ⟨A', c', hv, hr', hc', _⟩ := hzp
              injection hv with hv1 _ hv2
              subst hv1 hv2
              have ZR := Lib.hid hr'
              have ZG : Hid (Below w.heap.size w w4) := pw_below_grown YG3.out (some g2) YG3.out.size hgr (fun k e => by rw [← Option.some.inj e]; omega)
              have hs4 := hgr.size
              clear hq hgr hr' hne hsh
              have ZP := Lib.hid (put_any Ap cp p y (m : Int) w4 ZR.out (by omega) ag3 ag4)
              rw [XP3.out] at ZP
              go_wp2_with fail
              refine ZP.out.mono ?_
              rintro e w5 ⟨v5, rfl, ho5, hb5⟩
              have YO := Lib.hid ho5
              have YB := Lib.hid hb5
              have hs5 := hb5.size
              clear ho5 hb5
              go_wp2_with fail
              go_roundw
              case rel => exact ⟨k + 1, p3, l3, bad3, by omega, by go_num, slo_own YO.out (by omega), by omega, YAG.out, by rw [XTl.out]; exact X.rdr_grown ZQ1.out YB.out, X.rdr_grown ZQ2.out YB.out, ZG.out.trans (YB.out.mono ZG.out.size), by omega⟩
              case measure => simp [intOf]; omega
            · obtain rfl : k = L.length := by omega
              rw [List.drop_length] at XQ1
              have XQ1 : Hid (X.Rdr g2 wr g1 (X.encT ss) false) := XQ1.out
              clear hlt hk
              go_wp2_with fail
              go_loopw [18, 116] (fun v i wr => ∃ (k : Nat) (p l2 : List Int) (bad : Bool), k ≤ ss.length ∧ i = .int .i64 k ∧ SlO w2.heap.size wr v p ∧ p.length ≤ 8 * 50 + 1026 * k ∧ X.Again b l2 bad p ∧ X.Rdr g2 wr g1 (X.encT (ss.drop k)) false ∧ X.Rdr g1 wr g2 l2 bad ∧ Below w.heap.size w wr ∧ w2.heap.size ≤ wr.heap.size) (fun _ i _ => ss.length - (intOf i).toNat)
              case atStart => exact ⟨0, p, l2, bad, Nat.zero_le _, rfl, ⟨Ap, cp, rfl, XRP.out, hcp, XXP.out⟩, by omega, XAG.out, XQ1.out, XQ2.out, XG.out, hsz⟩
              clear XRP hcp XXP XAG XQ1 XQ2 XG hpl
              case round =>
                obtain ⟨k, p, l2, bad, hk, rfl, ⟨Ap, cp, rfl, hrp, hcp, hxp⟩, hpl, hag, hq1, hq2, hg, hsz⟩ := hrel
                have XRP := Lib.hid hrp
                have XXP := Lib.hid hxp
                have XAG := Lib.hid hag
                have XQ1 := Lib.hid hq1
                have XQ2 := Lib.hid hq2
                have XG := Lib.hid hg
                clear hrp hxp hag hq1 hq2 hg
                by_cases hlt : k < ss.length
                · obtain ⟨ad, rfl, hcell⟩ := (XS.out.below XG.out).2.2.2.1 (by omega)
                  replace hcell := hcell k hlt
                  have hs := XZ.out _ (getD_mem2 ss k ByteArray.empty hlt)
                  have hE : X.encT (ss.drop k) = (be (ss.getD k ByteArray.empty).size 2 ++ bytesOf (ss.getD k ByteArray.empty)) ++ X.encT (ss.drop (k + 1)) := by
                    rw [drop_cons2 ss k ByteArray.empty hlt, X.encT]
                  rw [hE] at XQ1
                  clear hE
                  have hTb := X.encT_len (ss.drop (k + 1)) (fun s hs => XZ.out s (List.mem_of_mem_drop hs))
                  rw [List.length_drop] at hTb
                  have hBT := bytes_append (bytes_append (X.bytes_be (ss.getD k ByteArray.empty).size 2) (X.bytes_bytesOf (ss.getD k ByteArray.empty))) (X.bytes_encT (ss.drop (k + 1)))
                  generalize hTl : X.encT (ss.drop (k + 1)) = T at *
                  have XTl := Lib.hid hTl
                  generalize ss.getD k ByteArray.empty = s at *
                  obtain ⟨e1, e2, e3⟩ := X.read_text s T hs
                  have XN := Lib.hid (X.rtext_any g1 ((be s.size 2 ++ bytesOf s) ++ T) false 1024 wr XQ1.out hBT (by simp only [List.length_append, be_length, bytesOf_length]; omega))
                  unfold X.TxtRes at XN
                  rw [e1, e2, e3, X.str_bytesOf] at XN
                  clear hTl e1 e2 e3 hBT
                  go_wp2_with fail
                  refine XN.out.mono ?_
                  rintro e w3 ⟨rfl, hq, hgr⟩
                  have YQ1 := Lib.hid hq
                  have YGR := Lib.hid hgr
                  clear hq hgr
                  have h12 : g1 ≠ g2 := by omega
                  have YQ2 : Hid (X.Rdr g1 w3 g2 l2 bad) := X.rdr_apart XQ2.out (Ne.symm h12) YGR.out
                  have YP : Hid (SlO w2.heap.size w3 (.slice Ap p.length cp) p) := slo_grown ⟨Ap, cp, rfl, XRP.out, hcp, XXP.out⟩ YGR.out (by omega)
                  have YG3 : Hid (Below w.heap.size w w3) := pw_below_grown XG.out (some g1) XG.out.size YGR.out (fun k e => by rw [← Option.some.inj e]; exact hg1w)
                  have hs3 := YGR.out.size
                  obtain ⟨ag1, ag2, ag3⟩ := X.again_text XAG.out
                  have hl2 := XAG.out.2.1
                  have YN := Lib.hid (X.rtext_any g2 l2 bad 1024 w3 YQ2.out XAG.out.1 (by omega))
                  unfold X.TxtRes at YN
                  generalize strOfNums (X.txtV l2 bad 1024) = y at *
                  generalize X.txtL l2 bad 1024 = l3 at *
                  generalize X.txtB l2 bad 1024 = bad3 at *
                  generalize hP3 : textL p y = p3 at *
                  have XP3 := Lib.hid hP3
                  have XT3 := Lib.hid (textE_in y ag3)
                  have YAG := Lib.hid ag1
                  clear ag1 h12 hP3
                  go_wp2_with fail
                  refine YN.out.mono ?_
                  rintro e w4 ⟨rfl, hq, hgr⟩
                  have ZQ2 := Lib.hid hq
                  have hne : g1 ≠ g2 := by omega
                  have ZQ1 : Hid (X.Rdr g2 w4 g1 T false) := X.rdr_apart YQ1.out hne hgr
                  have hzp := slo_grown YP.out hgr hlt2
                  obtain ⟨A', c', hv, hr', hc', _⟩ := hzp
                  injection hv with hv1 _ hv2
                  subst hv1 hv2
                  have ZR := Lib.hid hr'
                  have ZG : Hid (Below w.heap.size w w4) := pw_below_grown YG3.out (some g2) YG3.out.size hgr (fun k e => by rw [← Option.some.inj e]; omega)
                  have hs4 := hgr.size
                  clear hq hgr hr' hne
                  have ZP := Lib.hid (text_any Ap cp p y w4 ZR.out (by omega) (by omega))
                  unfold OwnT at ZP
                  rw [XP3.out, XT3.out] at ZP
                  go_wp2_with fail
                  refine ZP.out.mono ?_
                  rintro e w5 ⟨v5, rfl, ho5, hb5⟩
                  have YO := Lib.hid ho5
                  have YB := Lib.hid hb5
                  have hs5 := hb5.size
                  clear ho5 hb5
                  go_wp2_with fail
                  go_roundw
                  case rel => exact ⟨k + 1, p3, l3, bad3, by omega, by go_num, slo_own YO.out (by omega), by omega, YAG.out, by rw [XTl.out]; exact X.rdr_grown ZQ1.out YB.out, X.rdr_grown ZQ2.out YB.out, ZG.out.trans (YB.out.mono ZG.out.size), by omega⟩
                  case measure => simp [intOf]; omega
                · obtain rfl : k = ss.length := by omega
                  rw [List.drop_length] at XQ1
                  have D1 := Lib.hid (X.rdone g1 [] false wr XQ1.out)
                  have D2 := Lib.hid (X.rdone g2 l2 bad wr XQ2.out)
                  clear hlt hk
                  by_cases hd : bad = true ∨ 0 < l2.length
                  · have hd2 : X.doneE l2 bad = 10 := by unfold X.doneE; rw [if_pos hd]
                    rw [hd2] at D2
                    clear hd hd2
                    go_wp2_with fail
                    refine D1.out.mono ?_
                    rintro e w3 ⟨rfl, rfl⟩
                    have hd1 : X.doneE [] false = 0 := rfl
                    rw [hd1]
                    clear hd1
                    go_wp2_with fail
                    refine D2.out.mono ?_
                    rintro e w3 ⟨rfl, rfl⟩
                    go_wp2_with (go_at_call 9; refine (based (lives_any _) XG.out).mono ?_; rintro e w' ⟨rfl, hg⟩)
                    go_ret
                    exact ⟨rfl, hg⟩
                  · have hd2 : X.doneE l2 bad = 0 := by unfold X.doneE; rw [if_neg hd]
                    rw [hd2] at D2
                    have hb0 : bad = false := by cases bad with | true => exact absurd (Or.inl rfl) hd | false => rfl
                    have hl0 : l2 = [] := List.eq_nil_of_length_eq_zero (by omega)
                    have hpb := XAG.out.2.2 hb0
                    rw [hl0, List.append_nil] at hpb
                    subst hpb
                    have sP := string_of_reads (src := 22) (dst := 9) (c := cp) Try.underlying22 Try.underlying5 Try.underlying9 XRP.out
                    have sB := string_of_reads (src := 22) (dst := 9) (c := c3) Try.underlying22 Try.underlying5 Try.underlying9 (XB.out.below XG.out)
                    generalize strOfNums p = ST at *
                    clear hd hd2 hb0 hl0
                    go_wp2_with fail
                    refine D1.out.mono ?_
                    rintro e w3 ⟨rfl, rfl⟩
                    have hd1 : X.doneE [] false = 0 := rfl
                    rw [hd1]
                    clear hd1
                    go_wp2_with fail
                    refine D2.out.mono ?_
                    rintro e w3 ⟨rfl, rfl⟩
                    go_wp2_with (go_at_call 9; refine (based (lives_any _) XG.out).mono ?_; rintro e w' ⟨rfl, hg⟩)
                    go_ret
                    exact ⟨rfl, hg⟩

theorem walk (a0 : Option Addr) (len0 cap0 : Nat) (z0 : List Int) (a1 : Option Addr) (len1 cap1 : Nat) (z1 : List Int) (a2 : Option Addr) (len2 cap2 : Nat) (z2 : List ByteArray) (a3 : Option Addr) (len3 cap3 : Nat) (z3 : List Int) (w : World)
    (w0 : IsRow .u64 w a0 len0 cap0 z0) (w1 : IsRow .i64 w a1 len1 cap1 z1) (w2 : ReadsStr w a2 len2 cap2 z2) (w3 : IsRow .u8 w a3 len3 cap3 z3) :
    Calls Try.prog 6 #[.slice a0 len0 cap0, .slice a1 len1 cap1, .slice a2 len2 cap2, .slice a3 len3 cap3] w fun e w' => e = .returned (.bool true) ∧ Below w.heap.size w w' := by
  have hc3 : len3 ≤ cap3 := by rcases w3 with ⟨_, rfl, rfl, _⟩ | ⟨x, _, h, _⟩ <;> omega
  obtain ⟨l0, rfl, R0, m0, b0⟩ := ReadsInt.ofRow w0
  obtain ⟨l1, rfl, R1, m1, b1⟩ := ReadsInt.ofRow w1
  obtain ⟨l3, rfl, R3, m3, b3⟩ := ReadsInt.ofRow w3
  obtain rfl : z2.length = len2 := w2.1
  by_cases h : (50 : Int) < (l0.length : Int) ∨ (50 : Int) < (z2.length : Int) ∨ (4000 : Int) < (l3.length : Int)
  · exact walk_far _ _ _ _ _ _ _ _ _ _ _ _ _ h
  · exact walk_near a0 a1 a2 a3 cap0 cap1 cap2 cap3 l0 l1 z2 l3 w R0 R1 w2 R3 hc3 (fun x hx => bounds_u64 (b0 x hx)) (fun x hx => bounds_i64 (b1 x hx)) (fun x hx => bounds_u8 (b3 x hx)) (by omega) (by omega) (by omega)

set_option maxRecDepth 100000 in
theorem lifted (os : Os) (started : os.Started) (H : Type) (enc : TypeId × Value → H) :
    ReturnsInHanded {} Try.checked os 6 .any (Rows.octetBackSpec.pre6 enc Try.prog Try.f6 Rows.octetBackRow.domain false) (Rows.octetBackSpec.post enc Try.prog Try.f6 false true false false) := by
  refine returnsInHanded_of_change (C := Try.checked) own started (by kernel_rfl) Try.func6
    (ChangeSpec.witness6 (enc := enc) (C := Try.checked) false ⟨#[], #[.slice none 0 0, .slice none 0 0, .slice none 0 0, .slice none 0 0], []⟩ 8 (by kernel_rfl) (by kernel_rfl) (by kernel_rfl) (by kernel_rfl)) ?_
  intro W base args ds gs before hval0 hW hcnd _
  have hval : ∀ (j : Nat) t v, Try.f6.params[j]? = some t → args[j]? = some v → Value.okWide Try.prog W .any base t v := hval0
  have hW' := hW
  obtain ⟨p, q, hA0, hV, rfl, hfz, hnd⟩ := hW
  have hA : DataW.TrodAll enc Try.prog W 0 (fun _ => true) true Try.f6.params.toList args.toList ds p := hA0
  rw [Try.params6] at hA hval
  obtain ⟨v0, vs0, d0, ds0, p0, q0, hargs, rfl, rfl, h0, r0⟩ := trodAll_cons hA
  obtain ⟨v1, vs1, d1, ds1, p1, q1, rfl, rfl, rfl, h1, r1⟩ := trodAll_cons r0
  obtain ⟨v2, vs2, d2, ds2, p2, q2, rfl, rfl, rfl, h2, r2⟩ := trodAll_cons r1
  obtain ⟨v3, vs3, d3, ds3, p3, q3, rfl, rfl, rfl, h3, r3⟩ := trodAll_cons r2
  obtain ⟨rfl, rfl, rfl⟩ := trodAll_nil r3
  obtain rfl : args = #[v0, v1, v2, v3] := by cases args; simp_all
  obtain ⟨rfl, rfl⟩ := trodVars_none hV
  have k0 := h0
  have lt0 : ∀ x ∈ p0, x.block < W.heap.size := by obtain ⟨m, hm⟩ := k0; exact DataW.trod_lt m _ _ _ hm
  have k1 := h1
  have lt1 : ∀ x ∈ p1, x.block < W.heap.size := by obtain ⟨m, hm⟩ := k1; exact DataW.trod_lt m _ _ _ hm
  have k2 := h2
  have lt2 : ∀ x ∈ p2, x.block < W.heap.size := by obtain ⟨m, hm⟩ := k2; exact DataW.trod_lt m _ _ _ hm
  have k3 := h3
  have lt3 : ∀ x ∈ p3, x.block < W.heap.size := by obtain ⟨m, hm⟩ := k3; exact DataW.trod_lt m _ _ _ hm
  obtain ⟨a0, len0, cap0, rfl⟩ := okWide_slice Try.underlying47 (hval 0 47 v0 rfl rfl)
  obtain ⟨z0, w0⟩ : ∃ zs, IsRow .u64 W a0 len0 cap0 zs := by
    obtain ⟨fuel, hf⟩ := h0
    rcases open_ints Try.underlying47 Try.underlying23 (by kernel_rfl) hf with ⟨hcs, _⟩ | ⟨x, l, c, zs, hcs, _, hl, hm, hz, _, hcell, hwz⟩
    · simp [Value.cells] at hcs
      obtain ⟨rfl, rfl, rfl⟩ := hcs
      exact ⟨[], .inl ⟨rfl, rfl, rfl, rfl⟩⟩
    · simp [Value.cells] at hcs
      obtain ⟨rfl, rfl, rfl⟩ := hcs
      exact ⟨zs, .inr ⟨_, rfl, hl, hm, by simpa using hz, hcell, hwz⟩⟩
  obtain ⟨a1, len1, cap1, rfl⟩ := okWide_slice Try.underlying48 (hval 1 48 v1 rfl rfl)
  obtain ⟨z1, w1⟩ : ∃ zs, IsRow .i64 W a1 len1 cap1 zs := by
    obtain ⟨fuel, hf⟩ := h1
    rcases open_ints Try.underlying48 Try.underlying3 (by kernel_rfl) hf with ⟨hcs, _⟩ | ⟨x, l, c, zs, hcs, _, hl, hm, hz, _, hcell, hwz⟩
    · simp [Value.cells] at hcs
      obtain ⟨rfl, rfl, rfl⟩ := hcs
      exact ⟨[], .inl ⟨rfl, rfl, rfl, rfl⟩⟩
    · simp [Value.cells] at hcs
      obtain ⟨rfl, rfl, rfl⟩ := hcs
      exact ⟨zs, .inr ⟨_, rfl, hl, hm, by simpa using hz, hcell, hwz⟩⟩
  obtain ⟨a2, len2, cap2, rfl⟩ := okWide_slice Try.underlying49 (hval 2 49 v2 rfl rfl)
  obtain ⟨z2, w2⟩ : ∃ zs, ReadsStr W a2 len2 cap2 zs := open_strs Try.underlying49 Try.underlying9 (by kernel_rfl) h2
  obtain ⟨a3, len3, cap3, rfl⟩ := okWide_slice Try.underlying22 (hval 3 22 v3 rfl rfl)
  obtain ⟨z3, w3⟩ : ∃ zs, IsRow .u8 W a3 len3 cap3 zs := by
    obtain ⟨fuel, hf⟩ := h3
    rcases open_ints Try.underlying22 Try.underlying5 (by kernel_rfl) hf with ⟨hcs, _⟩ | ⟨x, l, c, zs, hcs, _, hl, hm, hz, _, hcell, hwz⟩
    · simp [Value.cells] at hcs
      obtain ⟨rfl, rfl, rfl⟩ := hcs
      exact ⟨[], .inl ⟨rfl, rfl, rfl, rfl⟩⟩
    · simp [Value.cells] at hcs
      obtain ⟨rfl, rfl, rfl⟩ := hcs
      exact ⟨zs, .inr ⟨_, rfl, hl, hm, by simpa using hz, hcell, hwz⟩⟩
  clear hA0 hval0
  refine (walk a0 len0 cap0 z0 a1 len1 cap1 z1 a2 len2 cap2 z2 a3 len3 cap3 z3 W w0 w1 w2 w3).mono fun e W' ⟨he, bel⟩ => ?_
  subst he
  exact ⟨_, rfl, _, _, _, [], _, [], hW', trodAll_mk1 (shut_bool Try.underlying4 _), (trodAll_cons_mk (Below.trod laidOut (by kernel_rfl) (of_decide_eq_true (by kernel_rfl)) k0 bel lt0) (trodAll_cons_mk (Below.trod laidOut (by kernel_rfl) (of_decide_eq_true (by kernel_rfl)) k1 bel lt1) (trodAll_cons_mk (Below.trod laidOut (by kernel_rfl) (of_decide_eq_true (by kernel_rfl)) k2 bel lt2) (trodAll_cons_mk (Below.trod laidOut (by kernel_rfl) (of_decide_eq_true (by kernel_rfl)) k3 bel lt3) trodAll_mk0)))), rfl, bel.frame _, fun h => by cases h⟩

theorem over : Rows.octetBackRow.holds Try.pinned (OpenSpec.ofChange Rows.octetBackSpec) :=
  OpenClaim.holds_of_wide 6 Try.f6 rfl rfl rfl rfl rfl rfl rfl ⟨rfl, rfl, rfl, rfl, rfl⟩ rfl rfl rfl rfl rfl (by kernel_rfl) Try.func6 (by kernel_rfl)
    (of_decide_eq_true (by kernel_rfl)) (by unfold Func.isWrapper; first | (rw [if_pos (by decide +kernel)]; kernel_rfl) | (rw [if_neg (by decide +kernel)]; exact ⟨rfl, rfl⟩))
    (fun os started H enc _ => lifted os started H enc)

/-- THE STATEMENT. -/
theorem proved : Rows.OctetBackSaid := over
#print axioms proved
end Go.Proofs.Ytnkbbmfhdabbkaa.octetBack
