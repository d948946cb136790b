/-
  span: Nearer.
-/
import Derived.Test.YtcgfednoolkhkaaSpD
import Derived.Test.YtcgfednoolkhkaaWWords
namespace Go.Proofs.Ytcgfednoolkhkaa
open Go.RowKit Go.Proofs.YtcgfednoolkhkaaW.PrintWords
set_option linter.unusedVariables false
set_option linter.unusedSimpArgs false
set_option maxRecDepth 20000
theorem info3 : (Try.prog.info? 3).map (fun i => (i.zero, i.size, i.bytes)) = some (some (.int .i64 0), 1, 8) := by kernel_rfl
def nearN (far : List Nat) (k : Nat) : List Nat := (List.range k).filter fun j => decide (bit far j = 1)
def nearK (far : List Nat) (k : Nat) : List Int := (nearN far k).map fun (j : Nat) => (j : Int)
theorem near_yes (far : List Nat) (k : Nat) (h : bit far k = 1) : nearK far (k + 1) = nearK far k ++ [(k : Int)] := by simp [nearK, nearN, List.range_succ, h]
theorem near_no (far : List Nat) (k : Nat) (h : ¬ bit far k = 1) : nearK far (k + 1) = nearK far k := by simp [nearK, nearN, List.range_succ, h]
theorem near_len (far : List Nat) (k : Nat) : (nearK far k).length ≤ k := by
  simp only [nearK, nearN, List.length_map]
  exact Nat.le_trans (List.length_filter_le _ _) (by simp)
theorem own_below {w w' : World} {base e size n : Nat} {v : Value} {xs : List Value} (h : w.ownsRow base e size v n xs) (hb : Below w.heap.size w w') : w'.ownsRow base e size v n xs := by
  refine ⟨h.1, ?_⟩
  rcases h.2 with hn | ⟨g, cap, cur, rfl, hbg, hgg, rest⟩
  · exact .inl hn
  · refine .inr ⟨g, cap, cur, rfl, hbg, ?_, rest⟩
    have hlt : g < w.heap.size := (Array.getElem?_eq_some_iff.1 hgg).1
    exact (hb.block g hlt).trans hgg
theorem rnearer (o t : List Nat) (w : World) (ho : Id o) (ht : Id t) :
    Calls Try.prog 25 #[idv o, idv t] w fun e w' => ∃ v, e = .returned v ∧ w'.ownsRow w.heap.size 3 1 v (nearK (xorL o t) 160).length (Go.Proofs.YtcgfednoolkhkaaW.PrintWords.nums .i64 (nearK (xorL o t) 160)) ∧ Below w.heap.size w w' := by
  have hA1 := idAt_new w o
  have hA2 : IdAt ((w.alloc (.cells (idc o).toArray 41)).alloc (.cells (idc t).toArray 41)) w.heap.size o := idAt_below hA1 ((Below.refl _ _).alloc (Nat.le_refl _) _)
  have hB2 : IdAt ((w.alloc (.cells (idc o).toArray 41)).alloc (.cells (idc t).toArray 41)) (w.heap.size + 1) t := by simpa using idAt_new (w.alloc (.cells (idc o).toArray 41)) t
  have hb2 : Below w.heap.size w ((w.alloc (.cells (idc o).toArray 41)).alloc (.cells (idc t).toArray 41)) := ((Below.refl _ w).alloc (Nat.le_refl _) _).alloc (by simp) _
  have XA := Lib.hid hA2
  have XB := Lib.hid hB2
  have XW := Lib.hid hb2
  have HC := Lib.hid (rxor o t ((w.alloc (.cells (idc o).toArray 41)).alloc (.cells (idc t).toArray 41)) ho ht)
  have HX := Lib.hid (id_xor ho ht)
  have ho20 := ho.1
  have ht20 := ht.1
  have hx20 := (id_xor ho ht).1
  generalize xorL o t = far at *
  clear hA1 hA2 hB2 hb2 ho ht
  unfold idv at *
  generalize hCa : (idc o).toArray = Ca at *
  generalize hCb : (idc t).toArray = Cb at *
  go_enter Try.func25, Try.ntmps25
  go_upto_region 1 with fail
  obtain ⟨W2, hW2⟩ : ∃ W2, W2 = (w.alloc (.cells Ca 41)).alloc (.cells Cb 41) := ⟨_, rfl⟩
  rw [← hW2] at XA XB XW HC ⊢
  clear hW2
  go_wp2_with (first
    | (refine wpList_load_id rfl (.tmp 2) rfl w.heap.size rfl o XA.out ho20 ?_)
    | (refine wpList_load_id rfl (.tmp 3) rfl (w.heap.size + 1) rfl t XB.out ht20 ?_)
    | (go_at_call 42; unfold idv; rw [hCa, hCb]; refine HC.out.mono ?_; rintro e w1 ⟨rfl, hb1⟩)
    | (refine wpList_store_id rfl (.tmp 5) (.tmp 9) rfl w1.heap.size rfl zero20 far rfl (idAt_zero w1) rfl hx20 ?_; intro w5 hA5 hg5))
  have hw1 := XW.out.trans (hb1.mono XW.out.size)
  have hw5 : Below w.heap.size w w5 := (hw1.alloc hw1.size Z41).grown hg5 (by simp; exact Nat.le_succ_of_le hw1.size) (fun k e => by cases e; exact hw1.size)
  generalize w1.heap.size = fb at *
  have H5 := Lib.hid hw5
  have HA5 := Lib.hid hA5
  clear hb1 hw1 hw5 hg5 hA5 XA XB XW HC
  clear hCa hCb
  go_loopw [4, 10] (fun v x wr => ∃ k : Nat, k ≤ 160 ∧ x = .int .i64 k ∧ wr.ownsRow w5.heap.size 3 1 v (nearK far k).length (Go.Proofs.YtcgfednoolkhkaaW.PrintWords.nums .i64 (nearK far k)) ∧ Below w5.heap.size w5 wr) (fun v x _ => 160 - (intOf x).toNat)
  case atStart => exact ⟨0, by omega, rfl, by simpa [nearK, nearN, Go.Proofs.YtcgfednoolkhkaaW.PrintWords.nums] using World.ownsRow_nil w5 _ 3 1, Below.refl _ _⟩
  case round =>
    obtain ⟨k, hk, rfl, hro, hrb⟩ := hrel
    have HO := Lib.hid hro
    have HB := Lib.hid hrb
    clear hro hrb
    by_cases hlt : k < 160
    · have HC := Lib.hid (rbit_yes far k wr HX.out hlt)
      by_cases hbit : bit far k = 1
      · rw [hbit] at HC
        have HY := Lib.hid (near_yes far k hbit)
        have HN := Lib.hid (near_len far k)
        generalize nearK far k = xs at *
        clear hbit
        go_wp2_with (first
          | (refine wpList_load_id rfl (.tmp 5) rfl fb rfl far (idAt_below HA5.out HB.out) hx20 ?_)
          | (go_at_call 43; refine HC.out.mono ?_; rintro e w6 ⟨rfl, hb6⟩; replace HO := Lib.hid (own_below HO.out hb6); replace HB := Lib.hid (HB.out.trans (hb6.mono HB.out.size)); clear hb6)
          | (at_builtin; go_loud (refine print_append_num (w0 := w5) w5.heap.size rfl (.tmp 17) (.tmp 19) 43 3 .i64 8 rfl Try.underlying43 info3 (by decide) u4 xs (k : Int) rfl rfl HO.out HB.out HB.out.size (by have := HN.out; omega) ?_); intro v2 w2 hown2 hbl2 hg2 hat2))
        go_roundw
        case rel => exact ⟨k + 1, by omega, by go_num, by rw [HY.out]; exact hown2, hbl2⟩
        case measure => simp [intOf]; omega
      · have hb1 : bit far k = 0 := by have := bit_le far k; omega
        rw [hb1] at HC
        have HY := Lib.hid (near_no far k hbit)
        clear hbit hb1
        go_wp2_with (first
          | (refine wpList_load_id rfl (.tmp 5) rfl fb rfl far (idAt_below HA5.out HB.out) hx20 ?_)
          | (go_at_call 43; refine HC.out.mono ?_; rintro e w6 ⟨rfl, hb6⟩; replace HO := Lib.hid (own_below HO.out hb6); replace HB := Lib.hid (HB.out.trans (hb6.mono HB.out.size)); clear hb6))
        go_roundw
        case rel => exact ⟨k + 1, by omega, by go_num, by rw [HY.out]; exact HO.out, HB.out⟩
        case measure => simp [intOf]; omega
    · obtain rfl : k = 160 := by omega
      go_wp2
      go_ret
      refine ⟨_, rfl, ?_, H5.out.trans (HB.out.mono H5.out.size)⟩
      have h := HO.out
      refine ⟨h.1, ?_⟩
      rcases h.2 with hn | ⟨g, cap, cur, e1, hbg, rest⟩
      · exact .inl hn
      · exact .inr ⟨g, cap, cur, e1, Nat.le_trans H5.out.size hbg, rest⟩
end Go.Proofs.Ytcgfednoolkhkaa
