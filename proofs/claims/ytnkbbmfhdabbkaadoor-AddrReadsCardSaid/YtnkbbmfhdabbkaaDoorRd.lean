/-
  octet's reader, opened and read: as at the other seat.
-/
import Derived.Test.YtnkbbmfhdabbkaaDoorE
import Derived.Laws.BitsLemmas
namespace Go.Proofs.YtnkbbmfhdabbkaaDoor
open Go.RowKit Go.Proofs.YtnkbbmfhdabbkaaDoorW.PrintWords
set_option linter.unusedVariables false
set_option linter.unusedSimpArgs false
theorem info5 : (Tryd.prog.info? 5).map (fun i => (i.zero, i.size, i.bytes)) = some (some (.int .u8 0), 1, 1) := by kernel_rfl
theorem may_any (n : Int) (w : World) : Calls Tryd.prog 30 #[.int .i64 n] w fun e w' => e = .returned (.bool (decide (1 ≤ n ∧ n ≤ 8))) ∧ w = w' := by
  have hd : decide (1 ≤ n ∧ n ≤ 8) = decide (1 ≤ n ∧ n ≤ 8) := rfl
  by_cases h1 : 1 ≤ n
  · by_cases h2 : n ≤ 8
    · rw [decide_eq_true ⟨h1, h2⟩]
      go_enter Tryd.func30, Tryd.ntmps30
      go_wp2
      go_ret
      exact ⟨rfl, rfl⟩
    · rw [decide_eq_false (by omega)]
      go_enter Tryd.func30, Tryd.ntmps30
      go_wp2
      go_ret
      exact ⟨rfl, rfl⟩
  · rw [decide_eq_false (by omega)]
    go_enter Tryd.func30, Tryd.ntmps30
    go_wp2
    go_ret
    exact ⟨rfl, rfl⟩

def num (l : List Int) : Int := l.foldl (fun a x => a * 256 + x) 0
theorem num_snoc (l : List Int) (x : Int) : num (l ++ [x]) = num l * 256 + x := by unfold num; rw [List.foldl_append]; rfl
theorem take_getD (l : List Int) (k : Nat) (h : k < l.length) : l.take (k + 1) = l.take k ++ [l.getD k 0] := by
  rw [List.take_succ_eq_append_getElem h, List.getD_eq_getElem?_getD, List.getElem?_eq_getElem h]; rfl
def Bytes (l : List Int) : Prop := ∀ x ∈ l, 0 ≤ x ∧ x ≤ 255
theorem num_bd (l : List Int) (h : Bytes l) : 0 ≤ num l ∧ num l < 256 ^ l.length := by
  suffices H : ∀ (n : Nat) (l : List Int), l.length = n → Bytes l → 0 ≤ num l ∧ num l < 256 ^ n by exact H _ l rfl h
  intro n
  induction n with
  | zero => intro l hl _; obtain rfl := List.eq_nil_of_length_eq_zero hl; exact ⟨Int.le_refl _, by decide⟩
  | succ n ih =>
    intro l hl hb
    obtain ⟨ys, x, rfl⟩ : ∃ ys x, l = ys ++ [x] := ⟨l.take n, l.getD n 0, by
      rw [← take_getD l n (by omega), List.take_of_length_le (by omega)]⟩
    have := ih ys (by simpa using hl) fun y hy => hb y (by simp [hy])
    have hx := hb x (by simp)
    rw [num_snoc, Int.pow_succ]
    omega
theorem num_lt {l : List Int} (h : Bytes l) {k : Nat} (hk : l.length ≤ k) (hk8 : k ≤ 7) : num l < 72057594037927936 := by
  have h1 := (num_bd l h).2
  have h2 : ∀ n, n < 8 → (256 : Int) ^ n ≤ 72057594037927936 := by decide
  have := h2 l.length (by omega)
  omega
theorem pow64 : (2 : Int) ^ 64 = 18446744073709551616 := by decide
theorem pow8 : (2 : Int) ^ 8 = 256 := by decide
theorem wraps_u64 (m : Int) (h : 0 ≤ m) (h' : m < 2 ^ 64) : IntKind.u64.wrap m = m := IntWalk.u64_in m ⟨h, by rw [pow64] at h'; omega⟩
theorem or_byte {n x : Int} (h0 : 0 ≤ n) (h1 : n < 72057594037927936) (g0 : 0 ≤ x) (g1 : x ≤ 255) : Go.bits .or .u64 (n * 256) x = n * 256 + x :=
  bits_join .u64 64 (by decide) wraps_u64 8 (n * 256) x (by omega) (by rw [pow8]; omega) (by rw [pow64]; omega) g0 (by rw [pow8]; omega) (by rw [pow64]; omega)
theorem getD_bytes {l : List Int} (h : Bytes l) (k : Nat) : 0 ≤ l.getD k 0 ∧ l.getD k 0 ≤ 255 := by
  rw [List.getD_eq_getElem?_getD]
  rcases Nat.lt_or_ge k l.length with hk | hk
  · rw [List.getElem?_eq_getElem hk]; exact h _ (List.getElem_mem _)
  · rw [List.getElem?_eq_none hk]; exact ⟨Int.le_refl _, by decide⟩
theorem bytes_take {l : List Int} (h : Bytes l) (k : Nat) : Bytes (l.take k) := fun x hx => h x (List.mem_of_mem_take hx)
theorem bytes_drop {l : List Int} (h : Bytes l) (k : Nat) : Bytes (l.drop k) := fun x hx => h x (List.mem_of_mem_drop hx)

def okG (n : Nat) (at_ wd : Int) : Bool := decide (1 ≤ wd ∧ wd ≤ 8 ∧ 0 ≤ at_ ∧ at_ ≤ n ∧ wd ≤ n - at_)
def getV (l : List Int) (at_ wd : Int) : Int := if okG l.length at_ wd = true then num ((l.drop at_.toNat).take wd.toNat) else 0

/-- A row that is read, its address written out. -/
theorem reads_at {w : World} {k : IntKind} {A : Option Addr} {n : Nat} {xs : List Int} (h : ReadsInt w k A n xs) (hn : 0 < n) :
    ∃ b off, A = some ⟨b, off, none⟩ ∧ ∀ j, j < n → w.cell? ⟨b, off + j, none⟩ = some (.int k (xs.getD j 0)) := by
  obtain ⟨ad, e, hc⟩ := h.2.2 hn
  have hl := h.1
  subst hl
  obtain ⟨b, off, rfl, hcc⟩ := ints_at hc hn
  exact ⟨b, off, e, hcc⟩

theorem get_good (A : Option Addr) (c : Nat) (l : List Int) (a m : Nat) (w : World) (HR : ReadsInt w .u8 A l.length l) (hc : l.length ≤ c) (hB : Bytes l) (h1 : 1 ≤ m) (h8 : m ≤ 8) (ha : a + m ≤ l.length) :
    Calls Tryd.prog 35 #[.slice A l.length c, .int .i64 (a : Int), .int .i64 (m : Int)] w fun e w' => e = .returned (.tuple #[.int .u64 (num ((l.drop a).take m)), .bool true]) ∧ w = w' := by
  have hmax : l.length ≤ 9223372036854775807 := HR.2.1
  obtain ⟨i0, hi, hz0, hz1, hz2⟩ := info_parts info5
  obtain ⟨A', hrun, hread, hcap⟩ := print_mid_int (P := Tryd.prog) (k := .u8) 31 5 Tryd.underlying31 hi hz1 A c l (a : Int) ((a : Int) + (m : Int)) (by omega) (by omega) (by omega) hc
  have hys : (l.take ((a : Int) + (m : Int)).toNat).drop (a : Int).toNat = (l.drop a).take m := by
    rw [show ((a : Int) + (m : Int)).toNat = a + m from by omega, Int.toNat_natCast, List.drop_take, show a + m - a = m from by omega]
  have hyl : ((l.drop a).take m).length = m := by simp; omega
  rw [hys] at hrun hread hcap
  have hyb : Bytes ((l.drop a).take m) := bytes_take (bytes_drop hB a) m
  generalize (l.drop a).take m = ys at *
  have HRR := Lib.hid (hread w HR)
  have hd : decide (1 ≤ (m : Int) ∧ (m : Int) ≤ 8) = true := decide_eq_true (by omega)
  rw [hyl] at hrun HRR hcap
  clear hread HR hys hz0 hz2 hi
  go_enter Tryd.func35, Tryd.ntmps35
  go_wp2_with (go_at_call 30; refine (may_any _ _).mono ?_; rintro e w' ⟨rfl, rfl⟩)
  go_loop [8, 39] (fun n i => ∃ k : Nat, k ≤ m ∧ i = .int .i64 k ∧ n = .int .u64 (num (ys.take k))) (fun _ i => m - (intOf i).toNat)
  case atStart => exact ⟨0, Nat.zero_le _, rfl, rfl⟩
  case round =>
    obtain ⟨k, hk, rfl, rfl⟩ := hrel
    by_cases hlt : k < m
    · obtain ⟨b, off, rfl, hcell⟩ := reads_at HRR.out (by omega)
      have hck := hcell k hlt
      have hx := getD_bytes hyb k
      have hn := num_bd _ (bytes_take hyb k)
      have hn1 := num_lt (bytes_take hyb k) (k := k) (by simp; omega) (by omega)
      have hsn : num (ys.take (k + 1)) = num (ys.take k) * 256 + ys.getD k 0 := by rw [take_getD ys k (by omega), num_snoc]
      have hor := or_byte hn.1 hn1 hx.1 hx.2
      have HS := Lib.hid hsn
      clear hcell hsn
      generalize num (ys.take k) = v at *
      generalize ys.getD k 0 = x at *
      go_wp2
      go_round
      case rel => exact ⟨k + 1, by omega, by go_num, by rw [HS.out]⟩
      case measure => simp [intOf]; omega
    · go_wp2
      obtain rfl : k = m := by omega
      have ht : ys.take k = ys := List.take_of_length_le (by omega)
      rw [ht]
      go_ret2
      exact ⟨rfl, rfl⟩
theorem set_other2 {w : World} {a b : Addr} {u v : Value} (h : w.cell? b = some v) (hne : a ≠ b) : (w.setCell a u).cell? b = some v := (World.cell?_setCell_other _ _ _ _ hne).trans h
theorem set_same2 {w : World} {a : Addr} {u v : Value} (h : w.cell? a = some v) : (w.setCell a u).cell? a = some u := World.cell?_setCell_same _ _ _ h
/-- A store over a value that is no number leaves rows of numbers as they read. -/
theorem reads_set {w : World} {k : IntKind} {A : Option Addr} {n : Nat} {xs : List Int} {p : Addr} {v : Value} (h : ReadsInt w k A n xs) (hp : w.cell? p = some v) (hv : ∀ x, v ≠ .int k x) (u : Value) :
    ReadsInt (w.setCell p u) k A n xs :=
  ⟨h.1, h.2.1, fun hn => by
    obtain ⟨ad, e, hc⟩ := h.2.2 hn
    refine ⟨ad, e, fun j hj => set_other2 (hc j hj) fun e => ?_⟩
    have := hc j hj
    rw [← e, hp] at this
    exact hv _ (Option.some.inj this)⟩

theorem grown_set (w : World) (g j : Nat) (u : Value) : w.grownBy (w.setCell ⟨g, j, none⟩ u) (some g) :=
  ⟨rfl, rfl, rfl, by simp [World.setCell], fun i _ hne => Below.heap_setCell _ _ _ _ (fun e => hne (by rw [e]))⟩
/-- The reader at block g: what is left, and whether it is bad. -/
def Rdr (W : World) (g : Nat) (l : List Int) (bad : Bool) : Prop :=
  ∃ A c, W.cell? ⟨g, 0, none⟩ = some (.slice A l.length c) ∧ W.cell? ⟨g, 1, none⟩ = some (.bool true) ∧ W.cell? ⟨g, 2, none⟩ = some (.bool bad) ∧
    W.frozen? ⟨g, 0, none⟩ = false ∧ W.frozen? ⟨g, 2, none⟩ = false ∧ ReadsInt W .u8 A l.length l ∧ l.length ≤ c

theorem rnone_ptr (g : Nat) (m : Bool) (w : World) (hc : w.cell? ⟨g, 1, none⟩ = some (.bool m)) :
    Calls Tryd.prog 32 #[.pointer (some ⟨g, 0, none⟩)] w fun e w' => e = .returned (.bool !m) ∧ w = w' := by
  go_enter Tryd.func32, Tryd.ntmps32
  go_wp2
  go_ret
  exact ⟨rfl, rfl⟩
theorem rdr_grown {w w' : World} {g : Nat} {l : List Int} {bad : Bool} (h : Rdr w g l bad) (hb : Below w.heap.size w w') : Rdr w' g l bad := by
  obtain ⟨A, c, h0, h1, h2, f0, f2, hr, hc⟩ := h
  have hg : g < w.heap.size := World.block_lt_of_cell? _ _ h0
  exact ⟨A, c, pw_cell_below hb h0, pw_cell_below hb h1, pw_cell_below hb h2, (hb.frozen (p := ⟨g, 0, none⟩) hg).trans f0, (hb.frozen (p := ⟨g, 2, none⟩) hg).trans f2, hr.below hb, hc⟩
def CutYes (g : Nat) (l : List Int) (n : Nat) (w : World) (e : Ending) (w' : World) : Prop :=
  ∃ A c, e = .returned (.tuple #[.slice A (l.take n).length c, .bool true]) ∧ ReadsInt w' .u8 A (l.take n).length (l.take n) ∧ (l.take n).length ≤ c ∧ Rdr w' g (l.drop n) false ∧ w.grownBy w' (some g)
theorem rcut_good (g : Nat) (l : List Int) (n : Nat) (w : World) (h : Rdr w g l false) (hn : n ≤ l.length) :
    Calls Tryd.prog 34 #[.pointer (some ⟨g, 0, none⟩), .int .i64 (n : Int)] w (CutYes g l n w) := by
  obtain ⟨A, c, h0, h1, h2, f0, f2, hr, hc⟩ := h
  have n1 : (⟨g, 0, none⟩ : Addr) ≠ ⟨g, 1, none⟩ := by simp
  have n2 : (⟨g, 0, none⟩ : Addr) ≠ ⟨g, 2, none⟩ := by simp
  have hmax := hr.2.1
  obtain ⟨i0, hi, hz0, hz1, hz2⟩ := info_parts info5
  obtain ⟨r1, q1, c1⟩ := print_take_of (P := Tryd.prog) (Value.int .u8) (0 : Int) 31 5 .i64 Tryd.underlying31 hi hz1 A c l (n : Int) (by omega) (by omega) hc
  obtain ⟨A', r2, q2, c2⟩ := print_drop_of (P := Tryd.prog) (Value.int .u8) (0 : Int) 31 5 .i64 Tryd.underlying31 hi hz1 A c l (n : Int) (by omega) (by omega) hc
  have h00 := h0
  have HF : Hid (∀ e w', (∃ A c, e = .returned (.tuple #[.slice A (l.take n).length c, .bool true]) ∧ ReadsInt w' .u8 A (l.take n).length (l.take n) ∧ (l.take n).length ≤ c ∧ Rdr w' g (l.drop n) false ∧ w.grownBy w' (some g)) → CutYes g l n w e w') :=
    fun e w' h => h
  rw [Int.toNat_natCast] at r1 q1 c1 r2 q2 c2
  have HR := Lib.hid hr
  have HQ1 := Lib.hid (q1 w hr)
  have HQ2 := Lib.hid (q2 w hr)
  have HC2 := Lib.hid c2
  have H00 := Lib.hid h00
  generalize hx : (l.take n).length = x at *
  generalize hy : (l.drop n).length = y at *
  have HX := Lib.hid hx
  have HY := Lib.hid hy
  clear hr q1 q2 hz0 hz1 hz2 hi h00 hx hy c2
  go_enter Tryd.func34, Tryd.ntmps34
  go_wp2
  go_ret2
  have hv : ∀ z, Value.slice A l.length c ≠ .int .u8 z := fun z => by simp
  refine HF.out _ _ ⟨A, c, rfl, reads_set (readsInt_of.2 HQ1.out) H00.out hv _, c1, ⟨A', c - n, ?_, set_other2 h1 n1, set_other2 h2 n2, by simp [f0], by simp [f2], ?_, ?_⟩, grown_set _ _ _ _⟩
  · rw [HY.out]; exact set_same2 H00.out
  · rw [HY.out]; exact reads_set (readsInt_of.2 HQ2.out) H00.out hv _
  · rw [HY.out]; exact HC2.out

def NumYes (g : Nat) (l : List Int) (m : Nat) (w : World) (e : Ending) (w' : World) : Prop :=
  e = .returned (.int .u64 (num (l.take m))) ∧ Rdr w' g (l.drop m) false ∧ w.grownBy w' (some g)
theorem rnum_yes (g : Nat) (l : List Int) (m : Nat) (w : World) (h : Rdr w g l false) (hB : Bytes l) (h1 : 1 ≤ m) (h8 : m ≤ 8) (hl : m ≤ l.length) :
    Calls Tryd.prog 27 #[.pointer (some ⟨g, 0, none⟩), .int .i64 (m : Int)] w (NumYes g l m w) := by
  have hp : w.cell? ⟨g, 1, none⟩ = some (.bool true) := by obtain ⟨A, c, h0, h1, h2, f0, f2, hr, hc⟩ := h; exact h1
  have hd : decide (1 ≤ (m : Int) ∧ (m : Int) ≤ 8) = true := decide_eq_true (by omega)
  have hX := rcut_good g l m w h hl
  unfold CutYes at hX
  have hbb := bytes_take hB m
  have hL : (l.take m).length = m := by simp; omega
  generalize hy : l.take m = y at hX hbb hL
  have HY := Lib.hid hy
  have HX := Lib.hid hX
  have HBB := Lib.hid hbb
  have HL := Lib.hid hL
  clear h hX hbb hL hy
  go_enter Tryd.func27, Tryd.ntmps27
  go_wp2_with (first
    | (go_at_call 32; refine (rnone_ptr _ _ _ hp).mono ?_; rintro e w1 ⟨rfl, rfl⟩)
    | (go_at_call 30; refine (may_any _ _).mono ?_; rintro e w1 ⟨rfl, rfl⟩))
  refine HX.out.mono ?_
  rintro e w1 ⟨A, c, rfl, hr, hc, hrd, hgr⟩
  have HR := Lib.hid hr
  have HRD := Lib.hid hrd
  have HGR := Lib.hid hgr
  have HC := Lib.hid hc
  clear hr hrd hgr hc
  go_wp2_with fail
  refine (get_good A c y 0 m _ HR.out HC.out HBB.out h1 h8 (by rw [HL.out]; omega)).mono ?_
  rintro e w2 ⟨rfl, rfl⟩
  have hgv : num ((y.drop 0).take m) = num (l.take m) := by
    rw [List.drop_zero, HY.out, List.take_of_length_le (show y.length ≤ m by rw [HL.out]; exact Nat.le_refl _)]
  have HGV := Lib.hid hgv
  clear hgv
  go_wp2
  go_ret
  exact ⟨ret_int HGV.out, HRD.out, HGR.out⟩
theorem own_reads_cap {w : World} {base n : Nat} {e : TypeId} {k : IntKind} {v : Value} {xs : List Int} (h : w.ownsRow base e 1 v n (nums k xs)) : ∃ A c, v = .slice A n c ∧ n ≤ c ∧ ReadsInt w k A n xs := by
  obtain ⟨A, c, rfl, hr⟩ := own_reads h
  refine ⟨A, c, rfl, ?_, hr⟩
  rcases h.2 with ⟨h, h0⟩ | ⟨g, cap, cur, h, _, _, hn, _⟩
  · omega
  · injection h with _ _ hcc
    omega
/-- 'Open'. -/
def OpenRes (l : List Int) (w : World) (e : Ending) (w' : World) : Prop := ∃ g, e = .returned (.pointer (some ⟨g, 0, none⟩)) ∧ w.heap.size ≤ g ∧ Rdr w' g l false ∧ Below w.heap.size w w'
theorem ropen_any (A : Option Addr) (c : Nat) (l : List Int) (w : World) (HR : ReadsInt w .u8 A l.length l) (hl : l.length ≤ 140000000000000) :
    Calls Tryd.prog 26 #[.slice A l.length c] w (OpenRes l w) := by
  have HRR := Lib.hid HR
  clear HR
  go_enter Tryd.func26, Tryd.ntmps26
  go_wp2_with (at_builtin; go_loud (refine print_append_row (w0 := w) w.heap.size rfl (.tmp 3) (.tmp 4) 31 5 .u8 1 rfl Tryd.underlying31 info5 (by decide) (.slice (some ⟨w.heap.size, 0, none⟩) 0 0) [] l A l.length c rfl rfl (own_lit w w.heap.size 5 .u8 [] (Nat.le_refl _) (by simp)) (HRR.out.allocS _) (below_alloc (Below.refl _ _) _) (by simp) (by simp; omega) ?_); intro v1 w1 hown hbl hg hat; rw [List.nil_append] at hown; obtain ⟨A1, c1, rfl, hc1, hr1⟩ := own_reads_cap hown; have HR1 := Lib.hid hr1; have HB1 := Lib.hid hbl; clear hr1 hbl hown hg hat)
  go_ret
  refine ⟨w1.heap.size, rfl, HB1.out.size, ⟨A1, c1, by simp, by simp, by simp, by simp, by simp, HR1.out.allocS _, hc1⟩, below_alloc HB1.out _⟩
end Go.Proofs.YtnkbbmfhdabbkaaDoor
