/-
  signpost's ClockRuns: for every input the law returns true. No condition.
-/
import Derived.Test.YtcgfednoolkhkaaRows
import Derived.WalkKit
import Derived.ProofKit
import Derived.OpenShut
import Derived.ShutString
import Derived.ChangeOld
import Derived.Below
import Derived.Test.YtcgfednoolkhkaaClkRun
import Derived.Test.YtcgfednoolkhkaaClkRef
namespace Go.Proofs.Ytcgfednoolkhkaa.clockRuns
open Go.ChangeShapes Go.WideShapes Go.ChangeAt Go.RowKit
open Go.ChangeMaps (open_string shut_string)
set_option linter.unusedVariables false

theorem own : ownKnob Try.prog.godebug = none := by kernel_rfl
theorem laidOut : laidOutB Try.prog = true := by kernel_rfl

def runs (at_ : Int) (l : List Int) : Int := l.foldl addS at_
theorem runs_snoc (a : Int) (l : List Int) (x : Int) : runs a (l ++ [x]) = addS (runs a l) x := by unfold runs; rw [List.foldl_append]; rfl
theorem runs_bd (a : Int) (l : List Int) (h0 : 0 ≤ a) (h1 : a ≤ 18446744073709551615) (h : ∀ x ∈ l, 0 ≤ x) : 0 ≤ runs a l ∧ runs a l ≤ 18446744073709551615 := by
  induction l generalizing a with
  | nil => exact ⟨h0, h1⟩
  | cons y l ih =>
    have := addS_bd h0 (h y (by simp))
    exact ih _ this.1 this.2 fun x hx => h x (by simp [hx])
theorem addS_le {a b : Int} (hb : 0 ≤ b) (h1 : a ≤ 18446744073709551615) : a ≤ addS a b := by unfold addS top; split <;> omega

theorem cells_kept {w w' : World} {B b o : Nat} {v : Value} (h : Below B w w') (hb : b < B) (hc : w.cell? ⟨b, o, none⟩ = some v) : w'.cell? ⟨b, o, none⟩ = some v := (h.cell (p := ⟨b, o, none⟩) hb).trans hc

theorem new_cell {w : World} {b o : Nat} {cs : Array Value} {t : TypeId} {v : Value} (h : b = w.heap.size) (hv : cs[o]? = some v) : (w.alloc (.cells cs t)).cell? ⟨b, o, none⟩ = some v := by
  subst h
  simpa using hv
theorem alloc_cell {w : World} {a : Addr} {v : Value} (h : w.cell? a = some v) (o : Obj) : (w.alloc o).cell? a = some v := cell_later ((Below.refl _ w).alloc (Nat.le_refl _) o) h
theorem alloc_frozen {w : World} {a : Addr} {v : Value} {z : Bool} (h : w.cell? a = some v) (hf : w.frozen? a = z) (o : Obj) : (w.alloc o).frozen? a = z :=
  (((Below.refl _ w).alloc (Nat.le_refl _) o).frozen (World.block_lt_of_cell? _ _ h)).trans hf
theorem frozen_later {w wx : World} {a : Addr} {v : Value} {z : Bool} (hb : Below w.heap.size w wx) (h : w.cell? a = some v) (hf : w.frozen? a = z) : wx.frozen? a = z :=
  (hb.frozen (World.block_lt_of_cell? _ _ h)).trans hf
theorem set_other {w : World} {a b : Addr} {u v : Value} (h : w.cell? b = some v) (hne : a ≠ b) : (w.setCell a u).cell? b = some v := (World.cell?_setCell_other _ _ _ _ hne).trans h
theorem set_same {w : World} {a : Addr} {u v : Value} (h : w.cell? a = some v) : (w.setCell a u).cell? a = some u := World.cell?_setCell_same _ _ _ h
theorem walk_loop (a0 : Int) (b off len cap : Nat) (xs : List Int) (w : World) (g0 : 0 ≤ a0) (k0 : a0 ≤ 18446744073709551615) (hl : xs.length = len) (hm : len ≤ 200)
    (hb : b < w.heap.size) (hx : ∀ x ∈ xs, 0 ≤ x ∧ x ≤ 18446744073709551615)
    (hc : ∀ k, k < len → w.cell? ⟨b, off + k, none⟩ = some (.int .u64 (xs.getD k 0))) :
    Calls Try.prog 5 #[.int .u64 a0, .slice (some ⟨b, off, none⟩) len cap] w fun e w' => e = .returned (.bool true) ∧ Below w.heap.size w w' := by
  have HC := Lib.hid hc
  clear hc
  go_enter Try.func5, Try.ntmps5
  go_wp2_with (first | (go_at_call 20; refine (new_any _ _).mono ?_; rintro e w' ⟨rfl, rfl⟩))
  go_loopw [6, 23] (fun t i wr => ∃ k : Nat, k ≤ len ∧ i = .int .i64 k ∧ t = .int .u64 (runs a0 (xs.take k)) ∧ wr.cell? ⟨w.heap.size, 0, none⟩ = some (.bool true) ∧ wr.cell? ⟨w.heap.size, 1, none⟩ = some (.int .u64 (runs a0 (xs.take k)))
      ∧ wr.frozen? ⟨w.heap.size, 1, none⟩ = false ∧ w.heap.size < wr.heap.size ∧ Below w.heap.size w wr) (fun _ i _ => len - (intOf i).toNat)
  case atStart => exact ⟨0, Nat.zero_le _, rfl, rfl, by simp, by simp [runs], by simp, by simp, by go_grown⟩
  case round =>
    obtain ⟨k, hk, rfl, rfl, hc0, hc1, hf1, hsz, hbl⟩ := hrel
    have hrb := runs_bd a0 (xs.take k) g0 k0 (fun x hx' => (hx x (List.mem_of_mem_take hx')).1)
    generalize hr : runs a0 (xs.take k) = r at *
    have Hr := Lib.hid hr
    clear hr
    by_cases hlt : k < len
    · have hcell := cells_kept hbl hb (HC.out k hlt)
      have hxk := hx (xs.getD k 0) (by rw [List.getD_eq_getElem?_getD, List.getElem?_eq_getElem (by omega)]; exact List.getElem_mem _)
      have hX : xs[k]'(by omega) = xs.getD k 0 := by rw [List.getD_eq_getElem?_getD, List.getElem?_eq_getElem (by omega)]; rfl
      generalize xs.getD k 0 = x at *
      have HX := Lib.hid hX
      clear hX
      have hne : (⟨w.heap.size, 1, none⟩ : Addr) ≠ ⟨w.heap.size, 0, none⟩ := by simp
      have hle := addS_le (a := r) (b := x) hxk.1 hrb.2
      go_wp2_with (first
        | (go_at_call 21; refine (clone_good _ _ _ _ hc0 hc1).mono ?_; rintro e w' ⟨rfl, rfl⟩)
        | (go_at_call 22; (with_reducible refine (tick_good wr.heap.size r 7 _ ?_ ?_ ?_ (by omega) (by omega) (by omega) (by omega)).mono ?_); (simp); (simp); (simp); rintro e w' ⟨rfl, rfl⟩)
        | (go_at_call 12; refine (refAdd_any _ _ _ (by omega) (by omega) (by omega) (by omega)).mono ?_; rintro e w' ⟨rfl, rfl⟩)
        | (go_at_call 23; (with_reducible refine (now_good _ r _ ?_ ?_).mono ?_); (exact alloc_cell hc0 _); (exact alloc_cell hc1 _); rintro e w' ⟨rfl, rfl⟩)
        | (go_at_call 22; (with_reducible refine (tick_good w.heap.size r x _ ?_ ?_ ?_ (by omega) (by omega) (by omega) (by omega)).mono ?_); (exact alloc_cell hc0 _); (exact alloc_cell hc1 _); (exact alloc_frozen hc1 hf1 _); rintro e w' ⟨rfl, rfl⟩)
        | (go_at_call 23; (with_reducible refine (now_good _ (addS r x) _ ?_ ?_).mono ?_); (exact alloc_cell (set_other hc0 hne) _); (exact alloc_cell (set_same hc1) _); rintro e w' ⟨rfl, rfl⟩))
      go_roundw
      case rel => exact ⟨k + 1, by omega, by go_num, by rw [take_snoc xs k (by omega), runs_snoc, Hr.out, HX.out], alloc_cell (set_other hc0 hne) _, by rw [take_snoc xs k (by omega), runs_snoc, Hr.out, HX.out]; exact alloc_cell (set_same hc1) _, alloc_frozen (set_same hc1) (by rw [World.frozen?_setCell]; exact hf1) _, by (first | omega | (simp; omega)), (hbl.setCell (Nat.le_refl _) _).alloc (by (first | assumption | omega | (simp; omega))) _⟩
      case measure => simp [intOf]; omega
    · have hsz' := Nat.le_of_lt hsz
      go_wp2_with (first
        | (go_at_call 23; (with_reducible refine (now_nil _).mono ?_); rintro e w' ⟨rfl, rfl⟩)
        | (go_at_call 22; (with_reducible refine (tick_nil _ _).mono ?_); rintro e w' ⟨rfl, rfl⟩)
        | (go_at_call 21; (with_reducible refine (clone_nil _).mono ?_); rintro e w' ⟨rfl, rfl⟩)
        | (go_at_call 23; (with_reducible refine (now_bad _ _ ?_).mono ?_); (exact new_cell (by simp) rfl); rintro e w' ⟨rfl, rfl⟩)
        | (go_at_call 22; (with_reducible refine (tick_bad _ _ _ ?_).mono ?_); (exact new_cell (by simp) rfl); rintro e w' ⟨rfl, rfl⟩)
        | (go_at_call 10; refine (basedN (lives_any _) (B := w.heap.size) (base := w) ?_ ?_).mono ?_; (exact (hbl.alloc hsz' _).alloc (Nat.le_trans hsz' (by simp)) _); (simp; omega); rintro e w' ⟨rfl, hg⟩))
      go_ret
      exact ⟨rfl, by assumption⟩

theorem walk_empty (a0 : Int) (a : Option Addr) (cap : Nat) (w : World) (g0 : 0 ≤ a0) (k0 : a0 ≤ 18446744073709551615) :
    Calls Try.prog 5 #[.int .u64 a0, .slice a 0 cap] w fun e w' => e = .returned (.bool true) ∧ Below w.heap.size w w' := by
  go_enter Try.func5, Try.ntmps5
  go_wp2_with (first | (go_at_call 20; refine (new_any _ _).mono ?_; rintro e w' ⟨rfl, rfl⟩))
  refine wp_loop_rounds 1 ?_
  rw [rounds_succ]
  go_wp2_with (first
    | (go_at_call 23; (with_reducible refine (now_nil _).mono ?_); rintro e w' ⟨rfl, rfl⟩)
    | (go_at_call 22; (with_reducible refine (tick_nil _ _).mono ?_); rintro e w' ⟨rfl, rfl⟩)
    | (go_at_call 21; (with_reducible refine (clone_nil _).mono ?_); rintro e w' ⟨rfl, rfl⟩)
    | (go_at_call 23; (with_reducible refine (now_bad _ _ ?_).mono ?_); (exact new_cell (by simp) rfl); rintro e w' ⟨rfl, rfl⟩)
    | (go_at_call 22; (with_reducible refine (tick_bad _ _ _ ?_).mono ?_); (exact new_cell (by simp) rfl); rintro e w' ⟨rfl, rfl⟩)
    | (go_at_call 10; refine (basedN (lives_any _) (B := w.heap.size) (base := w) ?_ ?_).mono ?_; (go_grown); (simp); rintro e w' ⟨rfl, hg⟩; try intro hg))
  go_ret
  exact ⟨rfl, by assumption⟩

theorem walk_far (a0 : Int) (a : Option Addr) (len cap : Nat) (w : World) (hl : ¬ len ≤ 200) (hm : len ≤ 9223372036854775807) :
    Calls Try.prog 5 #[.int .u64 a0, .slice a len cap] w fun e w' => e = .returned (.bool true) ∧ Below w.heap.size w w' := by
  have hg := Below.refl w.heap.size w
  have hl' : (200 : Int) < (len : Int) := by omega
  go_enter Try.func5, Try.ntmps5
  go_wp2_with (go_at_call 10; refine (based (lives_any _) (by assumption)).mono ?_; rintro e w' ⟨rfl, hg⟩)
  go_ret
  exact ⟨rfl, by assumption⟩

theorem walk (a0 : Int) (a1 : Option Addr) (len1 cap1 : Nat) (z1 : List Int) (w : World) (w0 : (Lit.int .u64 a0).wf = true) (w1 : IsRow .u64 w a1 len1 cap1 z1) :
    Calls Try.prog 5 #[.int .u64 a0, .slice a1 len1 cap1] w fun e w' => e = .returned (.bool true) ∧ Below w.heap.size w w' := by
  obtain ⟨g0, k0⟩ := bounds_u64 w0
  rcases Nat.eq_zero_or_pos len1 with h0 | h0
  · subst h0
    exact walk_empty a0 a1 cap1 w g0 k0
  · rcases w1 with ⟨_, h, _⟩ | ⟨x, rfl, hl, hm, hz, hc, hw⟩
    · omega
    · obtain ⟨b, off, rfl, hcc⟩ := ints_at hc (by omega)
      unfold maxLen at hm
      by_cases hf : len1 ≤ 200
      · exact walk_loop a0 b off len1 cap1 (z1.take len1) w g0 k0 (by simp; omega) hf (World.block_lt_of_cell? _ _ (hcc 0 (by omega))) (fun x hx => bounds_u64 (hw x (List.mem_of_mem_take hx))) (fun k hk => by
          rw [hcc k (by omega)]; congr 2; rw [List.getD_eq_getElem?_getD, List.getD_eq_getElem?_getD, List.getElem?_take_of_lt hk])
      · exact walk_far a0 _ len1 cap1 w hf (by omega)

set_option maxRecDepth 100000 in
theorem lifted (os : Os) (started : os.Started) (H : Type) (enc : TypeId × Value → H) :
    ReturnsInHanded {} Try.checked os 5 .any (Rows.clockRunsSpec.pre6 enc Try.prog Try.f5 Rows.clockRunsRow.domain false) (Rows.clockRunsSpec.post enc Try.prog Try.f5 false true false false) := by
  refine returnsInHanded_of_change (C := Try.checked) own started (by kernel_rfl) Try.func5
    (ChangeSpec.witness6 (enc := enc) (C := Try.checked) false ⟨#[], #[.int .u64 0, .slice none 0 0], []⟩ 8 (by kernel_rfl) (by kernel_rfl) (by kernel_rfl) (by kernel_rfl)) ?_
  intro W base args ds gs before hval0 hW hcnd _
  have hval : ∀ (j : Nat) t v, Try.f5.params[j]? = some t → args[j]? = some v → Value.okWide Try.prog W .any base t v := hval0
  have hW' := hW
  obtain ⟨p, q, hA0, hV, rfl, hfz, hnd⟩ := hW
  have hA : DataW.TrodAll enc Try.prog W 0 (fun _ => true) true Try.f5.params.toList args.toList ds p := hA0
  rw [Try.params5] at hA hval
  obtain ⟨v0, vs0, d0, ds0, p0, q0, hargs, rfl, rfl, h0, r0⟩ := trodAll_cons hA
  obtain ⟨v1, vs1, d1, ds1, p1, q1, rfl, rfl, rfl, h1, r1⟩ := trodAll_cons r0
  obtain ⟨rfl, rfl, rfl⟩ := trodAll_nil r1
  obtain rfl : args = #[v0, v1] := by cases args; simp_all
  obtain ⟨rfl, rfl⟩ := trodVars_none hV
  have k0 := h0
  have lt0 : ∀ x ∈ p0, x.block < W.heap.size := by obtain ⟨m, hm⟩ := k0; exact DataW.trod_lt m _ _ _ hm
  have k1 := h1
  have lt1 : ∀ x ∈ p1, x.block < W.heap.size := by obtain ⟨m, hm⟩ := k1; exact DataW.trod_lt m _ _ _ hm
  obtain ⟨a0, rfl, rfl, rfl, w0⟩ := open_int Try.underlying22 (hval 0 22 v0 rfl rfl) h0
  obtain ⟨a1, len1, cap1, rfl⟩ := okWide_slice Try.underlying26 (hval 1 26 v1 rfl rfl)
  obtain ⟨z1, w1⟩ : ∃ zs, IsRow .u64 W a1 len1 cap1 zs := by
    obtain ⟨fuel, hf⟩ := h1
    rcases open_ints Try.underlying26 Try.underlying22 (by kernel_rfl) hf with ⟨hcs, _⟩ | ⟨x, l, c, zs, hcs, _, hl, hm, hz, _, hcell, hwz⟩
    · simp [Value.cells] at hcs
      obtain ⟨rfl, rfl, rfl⟩ := hcs
      exact ⟨[], .inl ⟨rfl, rfl, rfl, rfl⟩⟩
    · simp [Value.cells] at hcs
      obtain ⟨rfl, rfl, rfl⟩ := hcs
      exact ⟨zs, .inr ⟨_, rfl, hl, hm, by simpa using hz, hcell, hwz⟩⟩
  clear hA0 hval0
  refine (walk a0 a1 len1 cap1 z1 W w0 w1).mono fun e W' ⟨he, bel⟩ => ?_
  subst he
  exact ⟨_, rfl, _, _, _, [], _, [], hW', trodAll_mk1 (shut_bool Try.underlying4 _), (trodAll_cons_mk (Below.trod laidOut (by kernel_rfl) (of_decide_eq_true (by kernel_rfl)) k0 bel lt0) (trodAll_cons_mk (Below.trod laidOut (by kernel_rfl) (of_decide_eq_true (by kernel_rfl)) k1 bel lt1) trodAll_mk0)), rfl, bel.frame _, fun h => by cases h⟩

theorem over : Rows.clockRunsRow.holds Try.pinned (OpenSpec.ofChange Rows.clockRunsSpec) :=
  OpenClaim.holds_of_wide 5 Try.f5 rfl rfl rfl rfl rfl rfl rfl ⟨rfl, rfl, rfl, rfl, rfl⟩ rfl rfl rfl rfl rfl (by kernel_rfl) Try.func5 (by kernel_rfl)
    (of_decide_eq_true (by kernel_rfl)) (by unfold Func.isWrapper; first | (rw [if_pos (by decide +kernel)]; kernel_rfl) | (rw [if_neg (by decide +kernel)]; exact ⟨rfl, rfl⟩))
    (fun os started H enc _ => lifted os started H enc)

/-- THE STATEMENT. -/
theorem proved : Rows.ClockRunsSaid := over
#print axioms proved
end Go.Proofs.Ytcgfednoolkhkaa.clockRuns
