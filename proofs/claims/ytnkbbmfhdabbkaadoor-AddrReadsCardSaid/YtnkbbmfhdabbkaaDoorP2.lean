/-
  Plain law: the reference's Parse and Read answer as addr's.
-/
import Derived.Test.YtnkbbmfhdabbkaaDoorP1
import Derived.Test.YtnkbbmfhdabbkaaDoorK
import Derived.Test.YtnkbbmfhdabbkaaDoorQPar
import Derived.Test.YtnkbbmfhdabbkaaDoorQRd
namespace Go.Proofs.YtnkbbmfhdabbkaaDoor
open Go.RowKit Go.Proofs.YtnkbbmfhdabbkaaDoorW.PrintWords
set_option linter.unusedVariables false
set_option linter.unusedSimpArgs false
set_option maxRecDepth 10000
theorem dec_len : ∀ (k n : Nat), n < 10 ^ (k + 1) → (Lib.decDigits n).length ≤ k + 1
  | k, n, h => by
    by_cases hn : n < 10
    · rw [Lib.decDigits_one hn]; simp
    · cases k with
      | zero => omega
      | succ k =>
        have ih := dec_len k (n / 10) (by rw [Nat.pow_succ] at h; omega)
        rw [Lib.decDigits, dif_neg hn, List.length_append, List.length_singleton]
        omega
theorem aText_21 (h p : Nat) (hp : p < 65536) : (aText h p).length ≤ 21 := by
  have b0 := dec_len 2 _ (show hb h 0 < 10 ^ 3 from by have := hb_lt h 0; omega)
  have b1 := dec_len 2 _ (show hb h 1 < 10 ^ 3 from by have := hb_lt h 1; omega)
  have b2 := dec_len 2 _ (show hb h 2 < 10 ^ 3 from by have := hb_lt h 2; omega)
  have b3 := dec_len 2 _ (show hb h 3 < 10 ^ 3 from by have := hb_lt h 3; omega)
  have b4 := dec_len 4 p (by omega)
  rw [aText_eq]
  simp only [List.length_append, List.length_cons]
  omega
theorem rgood_f (h p : Nat) (k : Nat) : PA.signpostref06_Good.f (h : Int) (p : Int) = some (gd h p) := by
  unfold PA.signpostref06_Good.f gd
  by_cases h1 : (h : Int) = 0
  · simp [h1]
  · have e1 : ((h : Int) == 0) = false := beq_eq_false_iff_ne.2 h1
    rw [if_neg h1]
    simp only [bne, e1, Bool.not_false, Bool.true_and]
theorem rtext_fk (h p : Nat) (hh : h < 4294967296) (hp : p < 65536) : ∀ k, PA.signpostref06_Text.f (12 + k) (h : Int) (p : Int) = some (str (aText h p))
  | 0 => rtext_f h p hh hp
  | k + 1 => PA.signpostref06_Text.mono _ _ (12 + k) _ (rtext_fk h p hh hp k)
theorem rp_step (k x i v : Nat) (s : ByteArray) (t : List Int) (hi : i < 4) (ht : t.length = 5) (hr : rd t (i : Int) = (v : Int)) (hx : x < 16777216) :
    PA.signpostref06_Parse.l0 (k + 1) s t (x : Int) (i : Int) = if 255 < v then some (0, 0, 10) else PA.signpostref06_Parse.l0 k s t ((x * 256 + v : Nat) : Int) ((i + 1 : Nat) : Int) := by
  rw [PA.signpostref06_Parse.l0, if_pos (by omega), if_pos (by omega), if_pos (by omega), hr]
  by_cases hv : 255 < v
  · rw [if_pos (by omega), if_pos hv]
  · rw [if_neg (by omega), if_neg hv, wrap_small _ (by omega) (by omega)]
    congr 1
    omega
theorem rp_last (k x v : Nat) (L : List UInt8) (t : List Int) (ht : t.length = 5) (hr : rd t 4 = (v : Int)) (hx : x < 4294967296) :
    PA.signpostref06_Parse.l0 (12 + k + 1) (str L) t (x : Int) ((4 : Nat) : Int) = if 65535 < v then some (0, 0, 10) else if aText x v = L ∧ gd x v = true then some ((x : Int), (v : Int), 0) else some (0, 0, 10) := by
  rw [PA.signpostref06_Parse.l0, if_neg (by omega), if_pos (by omega), hr]
  by_cases hv : 65535 < v
  · rw [if_pos (by omega), if_pos hv]
  · have hw : IntKind.u16.wrap (v : Int) = (v : Int) := by rw [IntKind.wrap_u16]; omega
    rw [if_neg (by omega), if_neg hv, hw, rtext_fk x v hx (by omega), Option.bind_some, rgood_f x v 0, Option.bind_some]
    have e : ((str (aText x v)).toList = (str L).toList) ↔ aText x v = L := by
      rw [ByteArray.toList_eq, ByteArray.toList_eq]
      simp [str]
    by_cases h1 : aText x v = L
    · rw [if_pos (e.2 h1)]
      cases hg : gd x v
      · rw [if_neg (by simp), if_neg (by simp)]
      · rw [if_pos rfl, if_pos ⟨h1, rfl⟩]
    · rw [if_neg (fun h => h1 (e.1 h)), if_neg (fun h => h1 h.1)]
/-- The five numbers told. -/
theorem rp_five (k a b c d e : Nat) (L : List UInt8) :
    PA.signpostref06_Parse.l0 (12 + k + 1 + 1 + 1 + 1 + 1) (str L) [(a : Int), (b : Int), (c : Int), (d : Int), (e : Int)] 0 0 = some (0, 0, 10) ∨
    (a < 256 ∧ b < 256 ∧ c < 256 ∧ d < 256 ∧ e < 65536 ∧ PA.signpostref06_Parse.l0 (12 + k + 1 + 1 + 1 + 1 + 1) (str L) [(a : Int), (b : Int), (c : Int), (d : Int), (e : Int)] 0 0 =
      if aText (((a * 256 + b) * 256 + c) * 256 + d) e = L ∧ gd (((a * 256 + b) * 256 + c) * 256 + d) e = true then some (((((a * 256 + b) * 256 + c) * 256 + d : Nat) : Int), (e : Int), 0) else some (0, 0, 10)) := by
  generalize hT : [(a : Int), (b : Int), (c : Int), (d : Int), (e : Int)] = T
  have h5 : T.length = 5 := by rw [← hT]; rfl
  have r0 : rd T ((0 : Nat) : Int) = (a : Int) := by rw [← hT]; rfl
  have r1 : rd T ((1 : Nat) : Int) = (b : Int) := by rw [← hT]; rfl
  have r2 : rd T ((2 : Nat) : Int) = (c : Int) := by rw [← hT]; rfl
  have r3 : rd T ((3 : Nat) : Int) = (d : Int) := by rw [← hT]; rfl
  have r4 : rd T 4 = (e : Int) := by rw [← hT]; rfl
  clear hT
  have s0 := rp_step (12 + k + 1 + 1 + 1 + 1) 0 0 a (str L) T (by omega) h5 r0 (by omega)
  have s0' : PA.signpostref06_Parse.l0 (12 + k + 1 + 1 + 1 + 1 + 1) (str L) T 0 0 = _ := s0
  rw [s0']
  clear s0 s0'
  by_cases ha : 255 < a
  · rw [if_pos ha]; exact .inl rfl
  rw [if_neg ha, rp_step (12 + k + 1 + 1 + 1) (0 * 256 + a) (0 + 1) b (str L) T (by omega) h5 r1 (by omega)]
  by_cases hb' : 255 < b
  · rw [if_pos hb']; exact .inl rfl
  rw [if_neg hb', rp_step (12 + k + 1 + 1) ((0 * 256 + a) * 256 + b) (0 + 1 + 1) c (str L) T (by omega) h5 r2 (by omega)]
  by_cases hc : 255 < c
  · rw [if_pos hc]; exact .inl rfl
  rw [if_neg hc, rp_step (12 + k + 1) (((0 * 256 + a) * 256 + b) * 256 + c) (0 + 1 + 1 + 1) d (str L) T (by omega) h5 r3 (by omega)]
  by_cases hd : 255 < d
  · rw [if_pos hd]; exact .inl rfl
  rw [if_neg hd, show (0 * 256 + a) = a from by omega]
  have sl := rp_last k (((a * 256 + b) * 256 + c) * 256 + d) e L T h5 r4 (by omega)
  have sl' : PA.signpostref06_Parse.l0 (12 + k + 1) (str L) T ((((a * 256 + b) * 256 + c) * 256 + d : Nat) : Int) ((0 + 1 + 1 + 1 + 1 : Nat) : Int) = _ := sl
  rw [sl']
  clear sl sl'
  by_cases he : 65535 < e
  · rw [if_pos he]; exact .inl rfl
  rw [if_neg he]
  exact .inr ⟨by omega, by omega, by omega, by omega, by omega, rfl⟩
theorem nat_of {x : Int} (h : 0 ≤ x) : ∃ n : Nat, x = (n : Int) := ⟨x.toNat, by omega⟩
theorem rparse_eq (k : Nat) (L : List UInt8) (hL : L.length ≤ 100000) (hk : 2 * L.length + 18 ≤ k) :
    PA.signpostref06_Parse.f k (str L) = some (0, 0, 10) ∨ ∃ h p : Nat, h < 4294967296 ∧ p < 65536 ∧ gd h p = true ∧ L = aText h p ∧ PA.signpostref06_Parse.f k (str L) = some ((h : Int), (p : Int), 0) := by
  unfold PA.signpostref06_Parse.f
  by_cases h21 : ((str L).size : Int) > 21
  · rw [if_pos h21]; exact .inl rfl
  rw [if_neg h21, ns_f L hL k (by omega), Option.bind_some]
  have hbd := numsL_bd L [] none (fun x hx => by cases hx)
  generalize numsL L [] none = T at *
  by_cases h5 : (T.length : Int) = 5
  · rw [if_pos h5]
    obtain ⟨a, b, c, d, e, rfl⟩ : ∃ a b c d e, T = [a, b, c, d, e] := by
      rcases T with _ | ⟨a, _ | ⟨b, _ | ⟨c, _ | ⟨d, _ | ⟨e, _ | ⟨f, t⟩⟩⟩⟩⟩⟩ <;> simp at h5
      · exact ⟨a, b, c, d, e, rfl⟩
      · omega
    obtain ⟨a, rfl⟩ := nat_of (hbd a (by simp)).1
    obtain ⟨b, rfl⟩ := nat_of (hbd b (by simp)).1
    obtain ⟨c, rfl⟩ := nat_of (hbd c (by simp)).1
    obtain ⟨d, rfl⟩ := nat_of (hbd d (by simp)).1
    obtain ⟨e, rfl⟩ := nat_of (hbd e (by simp)).1
    obtain ⟨j, rfl⟩ : ∃ j, k = 12 + j + 1 + 1 + 1 + 1 + 1 := ⟨k - 17, by omega⟩
    rcases rp_five j a b c d e L with h | ⟨ha, hb', hc, hd, he, h⟩
    · exact .inl h
    · rw [h]
      by_cases hg : aText (((a * 256 + b) * 256 + c) * 256 + d) e = L ∧ gd (((a * 256 + b) * 256 + c) * 256 + d) e = true
      · rw [if_pos hg]
        exact .inr ⟨_, e, by omega, he, hg.2, hg.1.symm, rfl⟩
      · rw [if_neg hg]; exact .inl rfl
  · rw [if_neg h5]; exact .inl rfl
theorem rp_told (j a b c d e : Nat) (L : List UInt8) (ha : a < 256) (hb' : b < 256) (hc : c < 256) (hd : d < 256) (he : e < 65536) (hL : aText (((a * 256 + b) * 256 + c) * 256 + d) e = L) (hg : gd (((a * 256 + b) * 256 + c) * 256 + d) e = true) :
    PA.signpostref06_Parse.l0 (12 + j + 1 + 1 + 1 + 1 + 1) (str L) [(a : Int), (b : Int), (c : Int), (d : Int), (e : Int)] 0 0 = some (((((a * 256 + b) * 256 + c) * 256 + d : Nat) : Int), (e : Int), 0) := by
  generalize hT : [(a : Int), (b : Int), (c : Int), (d : Int), (e : Int)] = T
  have h5 : T.length = 5 := by rw [← hT]; rfl
  have r0 : rd T ((0 : Nat) : Int) = (a : Int) := by rw [← hT]; rfl
  have r1 : rd T ((1 : Nat) : Int) = (b : Int) := by rw [← hT]; rfl
  have r2 : rd T ((2 : Nat) : Int) = (c : Int) := by rw [← hT]; rfl
  have r3 : rd T ((3 : Nat) : Int) = (d : Int) := by rw [← hT]; rfl
  have r4 : rd T 4 = (e : Int) := by rw [← hT]; rfl
  clear hT
  have s0 := rp_step (12 + j + 1 + 1 + 1 + 1) 0 0 a (str L) T (by omega) h5 r0 (by omega)
  have s0' : PA.signpostref06_Parse.l0 (12 + j + 1 + 1 + 1 + 1 + 1) (str L) T 0 0 = _ := s0
  rw [s0']
  clear s0 s0'
  rw [if_neg (by omega), rp_step (12 + j + 1 + 1 + 1) (0 * 256 + a) (0 + 1) b (str L) T (by omega) h5 r1 (by omega)]
  rw [if_neg (by omega), rp_step (12 + j + 1 + 1) ((0 * 256 + a) * 256 + b) (0 + 1 + 1) c (str L) T (by omega) h5 r2 (by omega)]
  rw [if_neg (by omega), rp_step (12 + j + 1) (((0 * 256 + a) * 256 + b) * 256 + c) (0 + 1 + 1 + 1) d (str L) T (by omega) h5 r3 (by omega)]
  rw [if_neg (by omega), show (0 * 256 + a) = a from by omega]
  have sl := rp_last j (((a * 256 + b) * 256 + c) * 256 + d) e L T h5 r4 (by omega)
  have sl' : PA.signpostref06_Parse.l0 (12 + j + 1) (str L) T ((((a * 256 + b) * 256 + c) * 256 + d : Nat) : Int) ((0 + 1 + 1 + 1 + 1 : Nat) : Int) = _ := sl
  rw [sl', if_neg (by omega), if_pos ⟨hL, hg⟩]
theorem rparse_ok (k h p : Nat) (hh : h < 4294967296) (hp : p < 65536) (hg : gd h p = true) (hk : 2 * (aText h p).length + 18 ≤ k) :
    PA.signpostref06_Parse.f k (str (aText h p)) = some ((h : Int), (p : Int), 0) := by
  have hl := aText_21 h p hp
  obtain ⟨j, rfl⟩ : ∃ j, k = 12 + j + 1 + 1 + 1 + 1 + 1 := ⟨k - 17, by omega⟩
  unfold PA.signpostref06_Parse.f
  rw [if_neg (by rw [str_size]; omega), ns_f _ (by omega) _ (by omega), Option.bind_some, numsL_text h p hp, if_pos (show (([(hb h 0 : Int), (hb h 1 : Int), (hb h 2 : Int), (hb h 3 : Int), (p : Int)] : List Int).length : Int) = 5 from rfl)]
  have hs := hb_sum h hh
  have := rp_told j (hb h 0) (hb h 1) (hb h 2) (hb h 3) p (aText h p) (hb_lt h 0) (hb_lt h 1) (hb_lt h 2) (hb_lt h 3) hp (by rw [hs]) (by rw [hs]; exact hg)
  rw [hs] at this
  exact this
/-- The two Parses are one. -/
theorem parses (s : ByteArray) (hs : s.size ≤ 1000) : ∃ (X Y : Nat) (E : Int), (∀ w, Calls Tryd.prog 15 #[.string s] w fun e w' => e = .returned (adr X Y E) ∧ Below w.heap.size w w') ∧ (∀ w, Calls Tryd.prog 16 #[.string s] w fun e w' => e = .returned (adr X Y E) ∧ Below w.heap.size w w') := by
  obtain ⟨L, rfl⟩ : ∃ L, s = str L := ⟨s.data.toList, by apply ByteArray.ext; simp [str]⟩
  rw [str_size] at hs
  rcases parse_sound 3000 L (by omega) (by omega) with hf | ⟨h, p, hh, hp, hg, rfl, hf⟩
  · rcases rparse_eq 3000 L (by omega) (by omega) with hr | ⟨h, p, hh, hp, hg, rfl, hr⟩
    · exact ⟨0, 0, 10, fun w => PA.addr_Parse.calls 3000 _ _ _ _ w hf, fun w => PA.signpostref06_Parse.calls 3000 _ _ _ _ w hr⟩
    · have hc := parse_ok h p 3000 hh hp (by omega) (by omega)
      rw [if_pos hg, hf] at hc
      simp at hc
  · have hl := aText_21 h p hp
    exact ⟨h, p, 0, fun w => PA.addr_Parse.calls 3000 _ _ _ _ w hf, fun w => PA.signpostref06_Parse.calls 3000 _ _ _ _ w (rparse_ok 3000 h p hh hp hg (by omega))⟩
/-! ### Read -/
theorem get_step (k j n y v : Nat) (x1 : Int) (l : List Int) (hl : l.length = 6) (hx : x1 = 0 ∨ x1 = 4) (hj : j < n) (h6 : x1 + (j : Int) < 6) (hr : rd l (x1 + (j : Int)) = (v : Int)) (hv : v < 256) (hy : y < 4294967296) :
    PA.signpostref01_Get.l0 (k + 1) l x1 (n : Int) (y : Int) (j : Int) = PA.signpostref01_Get.l0 k l x1 (n : Int) ((y * 256 + v : Nat) : Int) ((j + 1 : Nat) : Int) := by
  have hw : wrap64 (x1 + (j : Int)) = x1 + (j : Int) := wrap_small _ (by omega) (by omega)
  rw [PA.signpostref01_Get.l0, if_pos (by omega), hw, if_pos (by omega), if_pos (by omega), hr, wrap_small _ (by omega) (by omega)]
  congr 1
  · rw [IntKind.wrap_u64, IntKind.wrap_u64, IntKind.wrap_u64]; omega
theorem get_done (k n y : Nat) (x1 : Int) (l : List Int) : PA.signpostref01_Get.l0 (k + 1) l x1 (n : Int) (y : Int) (n : Int) = some ((y : Int), true) := by
  rw [PA.signpostref01_Get.l0, if_neg (by omega)]
theorem get_open (k n : Nat) (x1 : Int) (l : List Int) (hl : l.length = 6) (hx : x1 = 0 ∨ x1 = 4) (hn : 1 ≤ n) (h6 : x1 + (n : Int) ≤ 6) : PA.signpostref01_Get.f (k + 1) l x1 (n : Int) = PA.signpostref01_Get.l0 k l x1 (n : Int) ((0 : Nat) : Int) ((0 : Nat) : Int) := by
  have hw : wrap64 ((l.length : Int) - x1) = (l.length : Int) - x1 := wrap_small _ (by omega) (by omega)
  unfold PA.signpostref01_Get.f
  rw [if_neg (by omega), if_neg (by omega), if_neg (by omega), if_neg (by omega), hw, decide_eq_false (by omega), PA.signpostref01_Get.j0, if_neg (by decide)]
  rfl
theorem rread_f (l : List Int) (hB : Bytes l) : PA.signpostref06_Read.f 9 l = if rdOk l = true then some ((rdH l : Int), (rdP l : Int), 0) else some (0, 0, 10) := by
  unfold PA.signpostref06_Read.f
  by_cases h6 : (l.length : Int) = 6
  · have h6' : l.length = 6 := by omega
    rw [if_pos h6]
    obtain ⟨a, b, c, d, e, f, rfl⟩ : ∃ a b c d e f, l = [a, b, c, d, e, f] := by
      rcases l with _ | ⟨a, _ | ⟨b, _ | ⟨c, _ | ⟨d, _ | ⟨e, _ | ⟨f, _ | ⟨g, t⟩⟩⟩⟩⟩⟩⟩ <;> simp at h6'
      exact ⟨a, b, c, d, e, f, rfl⟩
    have ha := hB a (by simp)
    have hb' := hB b (by simp)
    have hc := hB c (by simp)
    have hd := hB d (by simp)
    have he := hB e (by simp)
    have hf := hB f (by simp)
    obtain ⟨a, rfl⟩ := nat_of ha.1
    obtain ⟨b, rfl⟩ := nat_of hb'.1
    obtain ⟨c, rfl⟩ := nat_of hc.1
    obtain ⟨d, rfl⟩ := nat_of hd.1
    obtain ⟨e, rfl⟩ := nat_of he.1
    obtain ⟨f, rfl⟩ := nat_of hf.1
    have eH : rdH [(a : Int), b, c, d, e, f] = ((a * 256 + b) * 256 + c) * 256 + d := by
      unfold rdH num
      simp only [List.take_succ_cons, List.take_zero, List.foldl_cons, List.foldl_nil]
      omega
    have eP : rdP [(a : Int), b, c, d, e, f] = e * 256 + f := by
      unfold rdP num
      simp only [List.take_succ_cons, List.take_zero, List.drop_succ_cons, List.drop_zero, List.foldl_cons, List.foldl_nil]
      omega
    have eO : rdOk [(a : Int), b, c, d, e, f] = gd (((a * 256 + b) * 256 + c) * 256 + d) (e * 256 + f) := by
      unfold rdOk; rw [eH, eP]; simp
    rw [eO, eH, eP]
    generalize hT : [(a : Int), (b : Int), (c : Int), (d : Int), (e : Int), (f : Int)] = T at *
    have r0 : rd T ((0 : Int) + ((0 : Nat) : Int)) = (a : Int) := by rw [← hT]; rfl
    have r1 : rd T ((0 : Int) + ((1 : Nat) : Int)) = (b : Int) := by rw [← hT]; rfl
    have r2 : rd T ((0 : Int) + ((2 : Nat) : Int)) = (c : Int) := by rw [← hT]; rfl
    have r3 : rd T ((0 : Int) + ((3 : Nat) : Int)) = (d : Int) := by rw [← hT]; rfl
    have r4 : rd T ((4 : Int) + ((0 : Nat) : Int)) = (e : Int) := by rw [← hT]; rfl
    have r5 : rd T ((4 : Int) + ((1 : Nat) : Int)) = (f : Int) := by rw [← hT]; rfl
    clear hT eO eH eP
    have ha2 : a < 256 := by omega
    have hb2 : b < 256 := by omega
    have hc2 : c < 256 := by omega
    have hd2 : d < 256 := by omega
    have he2 : e < 256 := by omega
    have hf2 : f < 256 := by omega
    clear ha hb' hc hd he hf hB h6
    have g1 : PA.signpostref01_Get.f 9 T 0 4 = some (((((a * 256 + b) * 256 + c) * 256 + d : Nat) : Int), true) := by
      refine (get_open 8 4 0 T h6' (.inl rfl) (by omega) (by omega)).trans ?_
      rw [get_step 7 0 4 0 a 0 T h6' (.inl rfl) (by omega) (by omega) r0 ha2 (by omega), get_step 6 (0 + 1) 4 _ b 0 T h6' (.inl rfl) (by omega) (by omega) r1 hb2 (by omega), get_step 5 (0 + 1 + 1) 4 _ c 0 T h6' (.inl rfl) (by omega) (by omega) r2 hc2 (by omega),
        get_step 4 (0 + 1 + 1 + 1) 4 _ d 0 T h6' (.inl rfl) (by omega) (by omega) r3 hd2 (by omega), show 0 * 256 + a = a from by omega]
      exact get_done 3 4 _ 0 T
    have g2 : PA.signpostref01_Get.f 9 T 4 2 = some (((e * 256 + f : Nat) : Int), true) := by
      refine (get_open 8 2 4 T h6' (.inr rfl) (by omega) (by omega)).trans ?_
      rw [get_step 7 0 2 0 e 4 T h6' (.inr rfl) (by omega) (by omega) r4 he2 (by omega), get_step 6 (0 + 1) 2 _ f 4 T h6' (.inr rfl) (by omega) (by omega) r5 hf2 (by omega), show 0 * 256 + e = e from by omega]
      exact get_done 5 2 _ 4 T
    have w1 : ((((a * 256 + b) * 256 + c) * 256 + d : Nat) : Int) % 4294967296 = ((((a * 256 + b) * 256 + c) * 256 + d : Nat) : Int) := by omega
    have w2 : IntKind.u16.wrap ((e * 256 + f : Nat) : Int) = ((e * 256 + f : Nat) : Int) := by rw [IntKind.wrap_u16]; omega
    rw [g1, Option.bind_some, g2, Option.bind_some, w1, w2, rgood_f _ _ 0, Option.bind_some]
  · have : rdOk l = false := by
      unfold rdOk
      rw [beq_eq_false_iff_ne.2 (show l.length ≠ 6 by omega)]; rfl
    rw [if_neg h6, this]
    rfl
/-- The two Reads are one. -/
theorem rread (A : Option Addr) (c : Nat) (l : List Int) (w : World) (HR : ReadsInt w .u8 A l.length l) (hc : l.length ≤ c) (hB : Bytes l) :
    Calls Tryd.prog 18 #[.slice A l.length c] w fun e w' => e = .returned (rdRes l) ∧ Below w.heap.size w w' := by
  have hf := rread_f l hB
  have hk : Kd.C (Kd.int .u8) w A l.length l := Kd.C_of_reads (d := 0) HR
  unfold rdRes
  by_cases hg : rdOk l = true
  · rw [if_pos hg] at hf ⊢
    exact PA.signpostref06_Read.calls 9 A c l _ _ _ w hk hc hf
  · rw [if_neg hg] at hf ⊢
    exact PA.signpostref06_Read.calls 9 A c l _ _ _ w hk hc hf
end Go.Proofs.YtnkbbmfhdabbkaaDoor
