/-
  Plain facts: numbers and texts put one behind the other are read again.
-/
import Derived.Test.YtnkbbmfhdabbkaaRdX3
import Derived.Test.YtnkbbmfhdabbkaaHdrL
import Derived.Test.YtnkbbmfhdabbkaaWid
namespace Go.Proofs.Ytnkbbmfhdabbkaa.X
open Go.RowKit Go.Proofs.YtnkbbmfhdabbkaaW.PrintWords
set_option linter.unusedVariables false
set_option linter.unusedSimpArgs false

theorem be_succ (n : Int) (m : Nat) : be n (m + 1) = be (n / 256) m ++ [n % 256] := by
  show beTo n (m + 1) (m + 1) = _
  rw [beTo_succ]
  congr 1
  · refine List.map_congr_left fun j hj => ?_
    have hj := List.mem_range.1 hj
    unfold byteAt
    rw [show 8 * (m + 1 - 1 - j) = 8 + 8 * (m - 1 - j) by omega, Int.pow_add, show (2 : Int) ^ 8 = 256 by decide, Int.ediv_ediv_of_nonneg (by decide)]
  · unfold byteAt
    rw [show 8 * (m + 1 - 1 - m) = 0 by omega, Int.pow_zero, Int.ediv_one]
theorem num_be (n : Int) (m : Nat) (hn : 0 ≤ n) : num (be n m) = n % 256 ^ m := by
  induction m generalizing n with
  | zero => rw [Int.pow_zero, Int.emod_one]; rfl
  | succ m ih =>
    rw [be_succ, num_snoc, ih _ (by omega), Int.pow_succ]
    have hp : (0 : Int) < 256 ^ m := Int.pow_pos (by decide)
    generalize (256 : Int) ^ m = P at *
    rw [Int.emod_def n (P * 256), Int.emod_def (n / 256) P, Int.mul_comm P 256, ← Int.ediv_ediv_of_nonneg (by decide : (0 : Int) ≤ 256), Int.mul_assoc]
    omega
theorem be_num (l : List Int) (hB : Bytes l) : be (num l) l.length = l := by
  suffices H : ∀ (k : Nat) (l : List Int), l.length = k → Bytes l → be (num l) k = l from H _ l rfl hB
  intro k
  induction k with
  | zero => intro l hl _; obtain rfl := List.eq_nil_of_length_eq_zero hl; rfl
  | succ k ih =>
    intro l hl hB
    have hne : l ≠ [] := by intro e; rw [e] at hl; simp at hl
    have e := List.dropLast_concat_getLast hne
    have hx := hB (l.getLast hne) (List.getLast_mem hne)
    have hb : Bytes l.dropLast := fun x hx => hB x (List.dropLast_subset _ hx)
    have hll : l.dropLast.length = k := by simp [hl]
    generalize l.dropLast = t at *
    generalize l.getLast hne = x at *
    rw [← e, num_snoc, be_succ, show (num t * 256 + x) / 256 = num t by omega, show (num t * 256 + x) % 256 = x by omega, ih t hll hb]
theorem bytes_be (n : Int) (m : Nat) : Bytes (be n m) := by
  intro x hx
  obtain ⟨j, _, rfl⟩ := List.mem_map.1 hx
  unfold byteAt
  omega

/-- Numbers at the list's widths, from place i on. -/
def encN (W : List Int) : Nat → List Int → List Int
  | _, [] => []
  | i, n :: t => be n (wdt W i) ++ encN W (i + 1) t
/-- Texts. -/
def encT : List ByteArray → List Int
  | [] => []
  | s :: t => (be s.size 2 ++ bytesOf s) ++ encT t
theorem encN_snoc (W : List Int) (i : Nat) (ns : List Int) (n : Int) : encN W i (ns ++ [n]) = encN W i ns ++ be n (wdt W (i + ns.length)) := by
  induction ns generalizing i with
  | nil => simp [encN]
  | cons x t ih => simp only [List.cons_append, encN, ih, List.append_assoc, List.length_cons]; rw [show i + 1 + t.length = i + (t.length + 1) by omega]
theorem encT_snoc (ss : List ByteArray) (s : ByteArray) : encT (ss ++ [s]) = encT ss ++ (be s.size 2 ++ bytesOf s) := by
  induction ss with
  | nil => simp [encT]
  | cons x t ih => simp only [List.cons_append, encT, ih, List.append_assoc]
theorem encN_len (W : List Int) (i : Nat) (ns : List Int) : (encN W i ns).length ≤ 8 * ns.length := by
  induction ns generalizing i with
  | nil => simp [encN]
  | cons x t ih => have := ih (i + 1); have := wdt_bd W i; simp only [encN, List.length_append, be_length, List.length_cons]; omega
theorem bytes_encN (W : List Int) (i : Nat) (ns : List Int) : Bytes (encN W i ns) := by
  induction ns generalizing i with
  | nil => intro x hx; simp [encN] at hx
  | cons x t ih => exact bytes_append (bytes_be _ _) (ih _)
theorem bytes_bytesOf (s : ByteArray) : Bytes (bytesOf s) := by
  intro x hx
  obtain ⟨b, _, rfl⟩ := List.mem_map.1 hx
  have := b.toNat_lt
  omega
theorem str_bytesOf (s : ByteArray) : strOfNums (bytesOf s) = s := by
  have : (strOfNums (bytesOf s)).data = s.data := by
    apply Array.toList_inj.1
    rw [strOfNums_data, bytesOf, List.map_map]
    conv => rhs; rw [← List.map_id s.data.toList]
    refine List.map_congr_left fun b _ => ?_
    simp
  exact congrArg ByteArray.mk this
theorem bytesOf_str (l : List Int) (hB : Bytes l) : bytesOf (strOfNums l) = l := by
  rw [bytesOf, strOfNums_data, List.map_map]
  conv => rhs; rw [← List.map_id l]
  refine List.map_congr_left fun x hx => ?_
  have := hB x hx
  show ((UInt8.ofNat x.toNat).toNat : Int) = x
  rw [UInt8.toNat_ofNat']
  omega
theorem bytes_encT (ss : List ByteArray) : Bytes (encT ss) := by
  induction ss with
  | nil => intro x hx; simp [encT] at hx
  | cons s t ih => exact bytes_append (bytes_append (bytes_be _ _) (bytes_bytesOf _)) ih
theorem encT_len (ss : List ByteArray) (h : ∀ s ∈ ss, s.size ≤ 1024) : (encT ss).length ≤ 1026 * ss.length := by
  induction ss with
  | nil => simp [encT]
  | cons s t ih =>
    have h1 := ih (fun x hx => h x (by simp [hx]))
    have h2 := h s (by simp)
    simp only [encT, List.length_append, be_length, bytesOf_length, List.length_cons]; omega

/-- What is put is read. -/
theorem read_num (n : Int) (m : Nat) (T : List Int) (hn : 0 ≤ n) (h1 : 1 ≤ m) (h8 : m ≤ 8) :
    numV (be n m ++ T) false m = n % 256 ^ m ∧ numL (be n m ++ T) false m = T ∧ numOk (be n m ++ T) false m = true := by
  have hok : numOk (be n m ++ T) false m = true := decide_eq_true ⟨rfl, by omega, by omega, by simp only [List.length_append, be_length]; omega⟩
  refine ⟨?_, ?_, hok⟩
  · unfold numV; rw [hok, if_pos rfl, Int.toNat_natCast, List.take_append_of_le_length (by rw [be_length]; omega), List.take_of_length_le (by rw [be_length]; omega), num_be n m hn]
  · unfold numL; rw [hok, if_pos rfl, Int.toNat_natCast, List.drop_left' (be_length n m)]
theorem read_text (s : ByteArray) (T : List Int) (hs : s.size ≤ 1024) :
    txtV ((be s.size 2 ++ bytesOf s) ++ T) false 1024 = bytesOf s ∧ txtL ((be s.size 2 ++ bytesOf s) ++ T) false 1024 = T ∧ txtB ((be s.size 2 ++ bytesOf s) ++ T) false 1024 = false := by
  obtain ⟨e1, e2, e3⟩ := read_num s.size 2 (bytesOf s ++ T) (by omega) (by omega) (by omega)
  have e4 : ((s.size : Int) % 256 ^ 2) = s.size := by rw [show (256 : Int) ^ 2 = 65536 by decide]; omega
  rw [e4] at e1
  have hok : txtOk (be s.size 2 ++ (bytesOf s ++ T)) false 1024 = true := decide_eq_true ⟨e3, by rw [show ((2 : Nat) : Int) = 2 from rfl] at e1; rw [e1]; omega, by rw [show ((2 : Nat) : Int) = 2 from rfl] at e1; rw [e1]; omega⟩
  have htk : takeOk (bytesOf s ++ T) false (s.size : Int) = true := decide_eq_true ⟨rfl, by omega, by simp only [List.length_append, bytesOf_length]; omega⟩
  rw [show ((2 : Nat) : Int) = 2 from rfl] at e1 e2
  rw [List.append_assoc]
  unfold txtV txtL txtB
  rw [hok, e1, e2]
  simp only [if_true]
  unfold takeV takeL
  rw [htk]
  simp only [if_true, Int.toNat_natCast, Bool.not_true, and_true]
  exact ⟨List.take_left' (bytesOf_length s), List.drop_left' (bytesOf_length s)⟩

/-- What is read and put again: the state of the second reader and of what is put. -/
def Again (b l : List Int) (bad : Bool) (o : List Int) : Prop := Bytes l ∧ l.length ≤ b.length ∧ (bad = false → o ++ l = b)
theorem again_num {b l o : List Int} {bad : Bool} (h : Again b l bad o) (m : Nat) (h1 : 1 ≤ m) (h8 : m ≤ 8) :
    Again b (numL l bad m) (!numOk l bad m) (putL o (numV l bad m) m) ∧ (putL o (numV l bad m) m).length ≤ o.length + 8 ∧ 0 ≤ numV l bad m ∧ numV l bad m ≤ 18446744073709551615 := by
  have hp : ∀ x, putL o x m = o ++ be x m := fun x => by unfold putL; rw [if_pos ⟨by omega, by omega⟩, Int.toNat_natCast]
  rw [hp]
  cases hok : numOk l bad m with
  | true =>
    obtain ⟨rfl, _, _, hl⟩ := of_decide_eq_true hok
    have e1 : numV l false m = num (l.take m) := by unfold numV; rw [hok, if_pos rfl, Int.toNat_natCast]
    have e2 : numL l false m = l.drop m := by unfold numL; rw [hok, if_pos rfl, Int.toNat_natCast]
    have hb := bytes_take h.1 m
    have hlen : (l.take m).length = m := by simp; omega
    have hbe := be_num _ hb
    rw [hlen] at hbe
    have hbd := num_bd _ hb
    rw [hlen] at hbd
    have hpw : (256 : Int) ^ m ≤ 256 ^ 8 := by
      have : m = 1 ∨ m = 2 ∨ m = 3 ∨ m = 4 ∨ m = 5 ∨ m = 6 ∨ m = 7 ∨ m = 8 := by omega
      rcases this with rfl | rfl | rfl | rfl | rfl | rfl | rfl | rfl <;> decide
    rw [show (256 : Int) ^ 8 = 18446744073709551616 by decide] at hpw
    rw [e1, e2]
    refine ⟨⟨bytes_drop h.1 m, by have := h.2.1; simp; omega, fun _ => ?_⟩, by simp only [List.length_append, be_length]; omega, hbd.1, by omega⟩
    rw [hbe, List.append_assoc, List.take_append_drop]
    exact h.2.2 rfl
  | false =>
    have e1 : numV l bad m = 0 := by unfold numV; rw [hok]; rfl
    have e2 : numL l bad m = [] := by unfold numL; rw [hok]; rfl
    rw [e1, e2]
    exact ⟨⟨fun x hx => by simp at hx, by simp, fun h => by simp at h⟩, by simp only [List.length_append, be_length]; omega, by omega, by omega⟩
theorem textL_nil (o : List Int) : textL o (strOfNums []) = o ++ be 0 2 := by
  unfold textL
  rw [strOfNums_size, if_pos (by simp)]
  simp [bytesOf, strOfNums]
theorem again_bad {b : List Int} {bd : Bool} (o : List Int) (hb : bd = true) : Again b [] bd o := ⟨fun x hx => by simp at hx, by simp, fun h => by rw [hb] at h; simp at h⟩
theorem again_text {b l o : List Int} {bad : Bool} (h : Again b l bad o) :
    Again b (txtL l bad 1024) (txtB l bad 1024) (textL o (strOfNums (txtV l bad 1024))) ∧ (textL o (strOfNums (txtV l bad 1024))).length ≤ o.length + 1026 ∧ (strOfNums (txtV l bad 1024)).size ≤ 1024 := by
  have none : txtV l bad 1024 = [] → txtL l bad 1024 = [] → txtB l bad 1024 = true → Again b (txtL l bad 1024) (txtB l bad 1024) (textL o (strOfNums (txtV l bad 1024))) ∧ (textL o (strOfNums (txtV l bad 1024))).length ≤ o.length + 1026 ∧ (strOfNums (txtV l bad 1024)).size ≤ 1024 := by
    intro e1 e2 e3
    rw [e1, e2, textL_nil]
    exact ⟨again_bad _ e3, by simp only [List.length_append, be_length]; omega, by rw [strOfNums_size]; simp⟩
  cases hok : txtOk l bad 1024 with
  | false => exact none (by unfold txtV; rw [hok]; rfl) (by unfold txtL; rw [hok]; rfl) (by unfold txtB; rw [hok]; rfl)
  | true =>
    have e1 : txtV l bad 1024 = takeV (numL l bad 2) false (numV l bad 2) := by unfold txtV; rw [hok]; rfl
    have e2 : txtL l bad 1024 = takeL (numL l bad 2) false (numV l bad 2) := by unfold txtL; rw [hok]; rfl
    have e3 : txtB l bad 1024 = !takeOk (numL l bad 2) false (numV l bad 2) := by unfold txtB; rw [hok]; rfl
    obtain ⟨hn, _, hv⟩ := of_decide_eq_true hok
    have hA := again_num h 2 (by omega) (by omega)
    rw [show ((2 : Nat) : Int) = 2 from rfl, hn] at hA
    obtain ⟨⟨hb, hlb, ho⟩, _, v0, _⟩ := hA
    have ho := ho rfl
    unfold putL at ho
    rw [if_pos (by omega), show (2 : Int).toNat = 2 from rfl] at ho
    generalize numL l bad 2 = l1 at *
    generalize numV l bad 2 = v at *
    obtain ⟨n, rfl⟩ := Int.eq_ofNat_of_zero_le v0
    cases htk : takeOk l1 false (n : Int) with
    | false => exact none (by rw [e1]; unfold takeV; rw [htk]; rfl) (by rw [e2]; unfold takeL; rw [htk]; rfl) (by rw [e3, htk]; rfl)
    | true =>
      obtain ⟨_, _, hl⟩ := of_decide_eq_true htk
      have f1 : takeV l1 false (n : Int) = l1.take n := by unfold takeV; rw [htk, if_pos rfl, Int.toNat_natCast]
      have f2 : takeL l1 false (n : Int) = l1.drop n := by unfold takeL; rw [htk, if_pos rfl, Int.toNat_natCast]
      have hlen : (l1.take n).length = n := by simp; omega
      rw [e1, e2, e3, f1, f2, htk]
      have hT : textL o (strOfNums (l1.take n)) = o ++ be n 2 ++ l1.take n := by
        unfold textL
        rw [strOfNums_size, hlen, if_pos (by omega), bytesOf_str _ (bytes_take hb n)]
      rw [hT]
      refine ⟨⟨bytes_drop hb n, by simp; omega, fun _ => ?_⟩, by simp only [List.length_append, be_length, hlen]; omega, by rw [strOfNums_size, hlen]; omega⟩
      rw [List.append_assoc, List.take_append_drop]
      exact ho
end Go.Proofs.Ytnkbbmfhdabbkaa.X
namespace Go.Proofs.Ytnkbbmfhdabbkaa
open Go.RowKit Go.Proofs.YtnkbbmfhdabbkaaW.PrintWords
set_option linter.unusedVariables false
/-- A reader lies apart from a block that is not there yet. -/
theorem rdr_from {w : World} {Y g : Nat} {l : List Int} {bad : Bool} (h : Rdr w g l bad) (hY : w.heap.size ≤ Y) : X.Rdr Y w g l bad := by
  obtain ⟨A, c, h0, h1, h2, f0, f2, hr, hc⟩ := h
  refine ⟨A, c, h0, h1, h2, f0, f2, hr, hc, fun ad e hn e2 => ?_⟩
  obtain ⟨ad', e', hcell⟩ := hr.2.2 hn
  rw [e] at e'
  obtain rfl := Option.some.inj e'
  have := World.block_lt_of_cell? _ _ (hcell 0 hn)
  rw [X.add_block] at this
  omega
/-- A slice of bytes that reads as l, in a block from G on. -/
def SlO (G : Nat) (w : World) (v : Value) (l : List Int) : Prop := ∃ A c, v = .slice A l.length c ∧ ReadsInt w .u8 A l.length l ∧ l.length ≤ c ∧ ∀ ad, A = some ad → 0 < l.length → G ≤ ad.block
theorem slo_nil (G : Nat) (w : World) : SlO G w (.slice none 0 0) [] := ⟨none, 0, rfl, ReadsInt.nil _ _, Nat.le_refl _, fun ad h => by cases h⟩
theorem slo_own {w : World} {base G : Nat} {v : Value} {l : List Int} (h : w.ownsRow base 5 1 v l.length (nums .u8 l)) (hG : G ≤ base) : SlO G w v l := by
  have hb := own_base h
  obtain ⟨A, c, rfl, hc, hr⟩ := own_reads_cap h
  exact ⟨A, c, rfl, hr, hc, fun ad e _ => Nat.le_trans hG (hb ad.block (by rw [e]; rfl))⟩
theorem reads_grown {w w' : World} {k : IntKind} {A : Option Addr} {n g : Nat} {xs : List Int} (h : ReadsInt w k A n xs) (hg : w.grownBy w' (some g)) (hA : ∀ ad, A = some ad → 0 < n → ad.block ≠ g) : ReadsInt w' k A n xs :=
  ⟨h.1, h.2.1, fun hn => by
    obtain ⟨ad, e, hc⟩ := h.2.2 hn
    refine ⟨ad, e, fun j hj => ?_⟩
    have hv := hc j hj
    have hb := hg.block (ad.add j).block (World.block_lt_of_cell? _ _ hv) (fun e2 => hA ad e hn (by rw [X.add_block] at e2; exact (Option.some.inj e2).symm ▸ rfl))
    unfold World.cell? at hv ⊢
    rw [hb]; exact hv⟩
theorem slo_grown {w w' : World} {G g : Nat} {v : Value} {l : List Int} (h : SlO G w v l) (hg : w.grownBy w' (some g)) (hG : g < G) : SlO G w' v l := by
  obtain ⟨A, c, e, hr, hc, hx⟩ := h
  exact ⟨A, c, e, reads_grown hr hg (fun ad e hn e2 => by have := hx ad e hn; omega), hc, hx⟩
end Go.Proofs.Ytnkbbmfhdabbkaa
