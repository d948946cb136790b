/-
  The reference's reader over a list: 'Num', 'Take', 'Text'.
-/
import Derived.Test.YtnkbbmfhdabbkaaRr
import Derived.Test.YtnkbbmfhdabbkaaOctL
namespace Go.Proofs.Ytnkbbmfhdabbkaa
open Go.RowKit Go.Proofs.YtnkbbmfhdabbkaaW.PrintWords
set_option linter.unusedVariables false
set_option linter.unusedSimpArgs false

theorem rr_below {w w' : World} {g : Nat} {A : Option Addr} {n c at_ : Nat} {bad : Bool} (h : Rr w g A n c at_ bad) (hb : Below w.heap.size w w') : Rr w' g A n c at_ bad := by
  obtain ⟨h0, h1, h2, f1, f2⟩ := h
  have hg : g < w.heap.size := World.block_lt_of_cell? _ _ h0
  exact ⟨pw_cell_below hb h0, pw_cell_below hb h1, pw_cell_below hb h2, (hb.frozen (p := ⟨g, 1, none⟩) hg).trans f1, (hb.frozen (p := ⟨g, 2, none⟩) hg).trans f2⟩
theorem rr_apart {w w' : World} {g g2 : Nat} {A : Option Addr} {n c at_ : Nat} {bad : Bool} (h : Rr w g A n c at_ bad) (hb : w.grownBy w' (some g2)) (hne : g ≠ g2) : Rr w' g A n c at_ bad := by
  obtain ⟨h0, h1, h2, f1, f2⟩ := h
  have hg : g < w.heap.size := World.block_lt_of_cell? _ _ h0
  have hk : w'.heap[g]? = w.heap[g]? := hb.block g hg (by simpa using hne)
  have hc : ∀ j, w'.cell? ⟨g, j, none⟩ = w.cell? ⟨g, j, none⟩ := fun j => World.cell?_of_block (a := ⟨g, j, none⟩) hk
  have hf : ∀ j, w'.frozen? ⟨g, j, none⟩ = w.frozen? ⟨g, j, none⟩ := fun j => World.frozen?_of_block (a := ⟨g, j, none⟩) hk
  exact ⟨(hc 0).trans h0, (hc 1).trans h1, (hc 2).trans h2, (hf 1).trans f1, (hf 2).trans f2⟩
/-- The reference's reader at block g over the bytes B, of which l is left; its row lies below G. -/
def RR (G : Nat) (W : World) (g : Nat) (B l : List Int) (bad : Bool) : Prop :=
  ∃ A c at_, Rr W g A B.length c at_ bad ∧ at_ ≤ B.length ∧ l = B.drop at_ ∧ ReadsInt W .u8 A B.length B ∧ B.length ≤ c ∧ (∀ ad, A = some ad → 0 < B.length → ad.block < G)
theorem rR_below {G g : Nat} {w w' : World} {B l : List Int} {bad : Bool} (h : RR G w g B l bad) (hb : Below w.heap.size w w') : RR G w' g B l bad := by
  obtain ⟨A, c, at_, hr, ha, hl, hR, hc, hG⟩ := h
  exact ⟨A, c, at_, rr_below hr hb, ha, hl, hR.below hb, hc, hG⟩
theorem rR_apart {G g g2 : Nat} {w w' : World} {B l : List Int} {bad : Bool} (h : RR G w g B l bad) (hb : w.grownBy w' (some g2)) (hne : g ≠ g2) (hG2 : G ≤ g2) : RR G w' g B l bad := by
  obtain ⟨A, c, at_, hr, ha, hl, hR, hc, hG⟩ := h
  exact ⟨A, c, at_, rr_apart hr hb hne, ha, hl, reads_grown hR hb (fun ad e hn e2 => by have := hG ad e hn; omega), hc, hG⟩
theorem grown_of_below {w w' : World} {g : Nat} (h : Below w.heap.size w w') : w.grownBy w' (some g) := ⟨h.os, h.tape, h.output, h.size, fun i hi _ => h.block i hi⟩
theorem rr_num_no (g : Nat) (A : Option Addr) (c at_ : Nat) (bad : Bool) (B : List Int) (wd : Int) (w : World) (h : Rr w g A B.length c at_ bad) (HR : ReadsInt w .u8 A B.length B) (hc : B.length ≤ c) (hB : Bytes B)
    (hok : bad = true ∨ okG B.length at_ wd = false) :
    Calls Try.prog 34 #[.pointer (some ⟨g, 0, none⟩), .int .i64 wd] w fun e w' => e = .returned (.int .u64 0) ∧ Rr w' g A B.length c B.length true ∧ w.grownBy w' (some g) := by
  have HC := Lib.hid (fun W (hb : Below w.heap.size w W) => refGet_any A c B at_ wd W (HR.below hb) hc hB)
  have HF := Lib.hid (fun W (hb : Below w.heap.size w W) => rr_fail g A B.length c at_ bad W (rr_below h hb))
  obtain ⟨h0, h1, h2, f1, f2⟩ := h
  have hlen := HR.2.1
  generalize getV B at_ wd = y at *
  generalize okG B.length at_ wd = o at *
  have hcase : bad = true ∨ (bad = false ∧ o = false) := by
    cases bad
    · rcases hok with h | h
      · cases h
      · exact .inr ⟨rfl, h⟩
    · exact .inl rfl
  clear HR hok f1 f2
  rcases hcase with rfl | ⟨rfl, rfl⟩
  · go_enter Try.func34, Try.ntmps34
    go_wp2
    have hg := Below.refl w.heap.size w
    go_region_held3 (fun w' => w'.cell? ⟨g, 0, none⟩ = some (.slice A B.length c) ∧ w'.cell? ⟨g, 1, none⟩ = some (.int .i64 at_) ∧ w'.cell? ⟨g, 2, none⟩ = some (.bool true) ∧ Below w.heap.size w w') ((refine ⟨?_, ?_, ?_, ?_⟩ <;> first | go_keep | exact below_drew (by assumption) | exact below_drew (Below.refl _ _))) (first | (go_at_call 11; refine (HC.out _ (by first | assumption | exact below_drew (by assumption) | exact below_drew (Below.refl _ _))).mono ?_; rintro e w1 ⟨rfl, rfl⟩))
    go_wp2_with (go_at_call 47; refine (HF.out _ (by first | assumption | exact below_drew (by assumption) | exact below_drew (Below.refl _ _))).mono ?_; rintro e w2 ⟨⟨rr, rfl⟩, hr2, hg2⟩)
    go_ret
    exact ⟨rfl, hr2, World.grownBy.trans (grown_of_below (by first | assumption | exact below_drew (by assumption) | exact below_drew (Below.refl _ _))) hg2⟩
  · go_enter Try.func34, Try.ntmps34
    go_wp2
    have hg := Below.refl w.heap.size w
    go_region_held3 (fun w' => w'.cell? ⟨g, 0, none⟩ = some (.slice A B.length c) ∧ w'.cell? ⟨g, 1, none⟩ = some (.int .i64 at_) ∧ w'.cell? ⟨g, 2, none⟩ = some (.bool false) ∧ Below w.heap.size w w') ((refine ⟨?_, ?_, ?_, ?_⟩ <;> first | go_keep | exact below_drew (by assumption) | exact below_drew (Below.refl _ _))) (first | (go_at_call 11; refine (HC.out _ (by first | assumption | exact below_drew (by assumption) | exact below_drew (Below.refl _ _))).mono ?_; rintro e w1 ⟨rfl, rfl⟩))
    go_wp2_with (go_at_call 47; refine (HF.out _ (by first | assumption | exact below_drew (by assumption) | exact below_drew (Below.refl _ _))).mono ?_; rintro e w2 ⟨⟨rr, rfl⟩, hr2, hg2⟩)
    go_ret
    exact ⟨rfl, hr2, World.grownBy.trans (grown_of_below (by first | assumption | exact below_drew (by assumption) | exact below_drew (Below.refl _ _))) hg2⟩
theorem rr_store (g : Nat) (A : Option Addr) (n c at_ m : Nat) (w : World) (h : Rr w g A n c at_ false) : Rr (w.setCell ⟨g, 1, none⟩ (.int .i64 m)) g A n c m false := by
  obtain ⟨h0, h1, h2, f1, f2⟩ := h
  exact ⟨rr_set_other h0 (by simp), rr_set_same h1, rr_set_other h2 (by simp), by simp [f1], by simp [f2]⟩
theorem rr_num_yes (g : Nat) (A : Option Addr) (c at_ m k : Nat) (hkk : at_ + m = k) (B : List Int) (w : World) (h : Rr w g A B.length c at_ false) (HR : ReadsInt w .u8 A B.length B) (hc : B.length ≤ c) (hB : Bytes B)
    (hok : okG B.length at_ m = true) (hn : k ≤ 9223372036854775807) :
    Calls Try.prog 34 #[.pointer (some ⟨g, 0, none⟩), .int .i64 (m : Int)] w fun e w' => e = .returned (.int .u64 (getV B at_ m)) ∧ Rr w' g A B.length c k false ∧ w.grownBy w' (some g) := by
  have HC := Lib.hid (fun W (hb : Below w.heap.size w W) => refGet_any A c B at_ m W (HR.below hb) hc hB)
  have HS := Lib.hid (fun W (hb : Below w.heap.size w W) => rr_store g A B.length c at_ k W (rr_below h hb))
  obtain ⟨h0, h1, h2, f1, f2⟩ := h
  have hlen := HR.2.1
  rw [hok] at HC
  generalize getV B at_ m = y at *
  have hg := Below.refl w.heap.size w
  have hsum : ((at_ : Int) + (m : Int)) = (k : Int) := by omega
  clear hkk
  clear HR hok
  go_enter Try.func34, Try.ntmps34
  go_wp2
  go_region_held3 (fun w' => w'.cell? ⟨g, 0, none⟩ = some (.slice A B.length c) ∧ w'.cell? ⟨g, 1, none⟩ = some (.int .i64 at_) ∧ w'.cell? ⟨g, 2, none⟩ = some (.bool false) ∧ w'.frozen? ⟨g, 1, none⟩ = false ∧ Below w.heap.size w w') ((refine ⟨?_, ?_, ?_, ?_, ?_⟩ <;> first | go_keep | exact below_drew (by assumption) | exact below_drew (Below.refl _ _))) (first | (go_at_call 11; refine (HC.out _ (by first | assumption | exact below_drew (by assumption) | exact below_drew (Below.refl _ _))).mono ?_; rintro e w1 ⟨rfl, rfl⟩))
  go_wp2
  go_ret
  exact ⟨rfl, rr_below (HS.out w (Below.refl _ _)) (Below.refl _ _).drew, World.grownBy.trans (rr_grown_set _ _ _ _) (grown_of_below (Below.refl _ _).drew)⟩
/-- append as one step of a region that draws its order. -/
theorem step_append_row {P : Program} {ops : Array Oper} {o : Oper} {a : Act} {Q : Exit → Act → World → Prop} {K : Act → World → Prop} {E : Prop} {w0 W : World} (base : Nat) (hgd : o.guard = none) (s x : Operand) (t e : TypeId) (kk : IntKind) (bytes : Nat)
    (ho : o.op = .call { callee := .builtin .append, args := #[s, x], argTypes := #[t, t] })
    (ht : P.underlying t = some (.slice e)) (hinfo : (P.info? e).map (fun i => (i.zero, i.size, i.bytes)) = some (some (.int kk 0), 1, bytes)) (hb0 : 0 < bytes)
    (v : Value) (xs ys : List Int) (A : Option Addr) (m c : Nat) (hs : a.eval s = v) (hx : a.eval x = .slice A m c)
    (HO : W.ownsRow base e 1 v xs.length (nums kk xs)) (HR : ReadsInt W kk A m ys) (HB : Below base w0 W) (hbase : base ≤ W.heap.size) (hl : (xs.length + m) * bytes ≤ 140737488355328)
    (h : ∀ v1 w1, w1.ownsRow base e 1 v1 (xs ++ ys).length (nums kk (xs ++ ys)) → Below base w0 w1 → W.grownBy w1 v.ownBlock → (v1.ownBlock = v.ownBlock ∨ ∃ b, v1.ownBlock = some b ∧ W.heap.size ≤ b) → K (a.put o.dst v1) w1) :
    if Region.wanted o (yielded ops a.tmps) = true then Oper.wp P o a W K Q else E := by
  have hw : Region.wanted o (yielded ops a.tmps) = true := by simp [Region.wanted, hgd]
  rw [if_pos hw]
  obtain ⟨i0, hi, hzz⟩ := Option.map_eq_some_iff.1 hinfo
  simp only [Prod.mk.injEq] at hzz
  obtain ⟨hz0, hz1, hz2⟩ := hzz
  have hm : ys.length = m := HR.1
  have hlen : xs.length + m ≤ 140737488355328 := Nat.le_trans (Nat.le_mul_of_pos_right _ hb0) hl
  have hrun : ∃ v1 w1, (Builtin.append_ #[t, t] o.type #[v, .slice A m c]).run P W = .ok v1 w1 ∧ w1.ownsRow base e 1 v1 (xs ++ ys).length (nums kk (xs ++ ys)) ∧ W.grownBy w1 v.ownBlock ∧ (v1.ownBlock = v.ownBlock ∨ v1.ownBlock = some W.heap.size) := by
    rcases A with _ | ad
    · have h0 : m = 0 := by
        rcases Nat.eq_zero_or_pos m with h0 | h0
        · exact h0
        · obtain ⟨ad, h, _⟩ := HR.2.2 h0
          cases h
      subst h0
      obtain rfl : ys = [] := List.eq_nil_of_length_eq_zero hm
      refine ⟨v, W, ?_, by simpa using HO, World.grownBy.refl W _, .inl rfl⟩
      rcases HO.2 with ⟨rfl, hn⟩ | ⟨g, cap, cur, rfl, _, _, hnc, _⟩
      · simp [Builtin.append_, run_underlying ht, sizeOf, typeInfo, hi, Builtin.lenOf, Builtin.firstCells]
      · simp [Builtin.append_, run_underlying ht, sizeOf, typeInfo, hi, Builtin.lenOf, Builtin.firstCells, hnc, storeCells]
    · have hcells : ∀ j u, (nums kk ys)[j]? = some u → W.cell? (ad.add j) = some u := by
        intro j u hu
        have hj : j < ys.length := by
          rcases Nat.lt_or_ge j ys.length with h | h
          · exact h
          · simp [nums, List.getElem?_eq_none h] at hu
        obtain ⟨ad', h', hc⟩ := HR.2.2 (by omega)
        injection h' with h'
        subst h'
        have := hc j (by omega)
        simp [nums, List.getElem?_eq_getElem hj] at hu
        subst hu
        rw [this]
        simp [List.getD_eq_getElem?_getD, List.getElem?_eq_getElem hj]
      obtain ⟨v1, w1, hr, h2, h3, _, h5⟩ := run_append_own_at (P := P) W base t o.type e i0 (.int kk 0) 1 bytes ht hi hz0 hz1 hz2 rfl (by omega) v xs.length (nums kk xs) HO ad m c (nums kk ys) (by simp [nums, hm]) hcells
        (by intro u hu; simp only [nums, List.mem_map] at hu; obtain ⟨q, _, rfl⟩ := hu; rfl) (by simp only [maxLen]; omega) hl hbase
      exact ⟨v1, w1, hr, by simpa [nums, hm] using h2, h3, h5⟩
  obtain ⟨v1, w1, hr, hown, hg, hat⟩ := hrun
  unfold Oper.wp execOp
  simp only [ho, resolve, invoke, builtin, Sem.run_bind, Sem.run_pure, Result.andThen_ok, List.map_toArray, List.map_cons, List.map_nil, hs, hx, hr]
  refine h v1 w1 hown (HB.grown hg hbase (own_base HO)) hg ?_
  rcases hat with hat | hat
  · exact .inl hat
  · exact .inr ⟨_, hat, Nat.le_refl _⟩

theorem rr_take_no (g : Nat) (A : Option Addr) (n c at_ : Nat) (bad : Bool) (x : Int) (w : World) (h : Rr w g A n c at_ bad) (ha : at_ ≤ n) (hn : n ≤ 9223372036854775807)
    (hno : ¬ (bad = false ∧ 0 ≤ x ∧ x ≤ (n : Int) - at_)) :
    Calls Try.prog 35 #[.pointer (some ⟨g, 0, none⟩), .int .i64 x] w fun e w' => e = .returned (.slice none 0 0) ∧ Rr w' g A n c n true ∧ w.grownBy w' (some g) := by
  have HF := Lib.hid (fun W (hb : Below w.heap.size w W) => rr_fail g A n c at_ bad W (rr_below h hb))
  obtain ⟨h0, h1, h2, f1, f2⟩ := h
  have hg := Below.refl w.heap.size w
  clear f1 f2
  cases bad with
  | true =>
    clear hno
    go_enter Try.func35, Try.ntmps35
    go_wp2
    go_quiet (fail)
    go_wp2_with (go_at_call 47; refine (HF.out _ (below_drewN hg _)).mono ?_; rintro e w2 ⟨⟨rr, rfl⟩, hr2, hg2⟩)
    go_ret
    exact ⟨rfl, hr2, World.grownBy.trans (grown_of_below (below_drewN hg _)) hg2⟩
  | false =>
    by_cases h3 : x < 0
    · clear hno
      go_enter Try.func35, Try.ntmps35
      go_wp2
      go_quiet (fail)
      go_wp2_with (go_at_call 47; refine (HF.out _ (below_drewN hg _)).mono ?_; rintro e w2 ⟨⟨rr, rfl⟩, hr2, hg2⟩)
      go_ret
      exact ⟨rfl, hr2, World.grownBy.trans (grown_of_below (below_drewN hg _)) hg2⟩
    · have h4 : (n : Int) - (at_ : Int) < x := by
        rcases Int.lt_or_le ((n : Int) - at_) x with h | h
        · exact h
        · exact absurd ⟨rfl, by omega, h⟩ hno
      have hw : IntKind.i64.wrap ((n : Int) - (at_ : Int)) = (n : Int) - (at_ : Int) := by rw [IntKind.wrap_i64]; omega
      clear hno
      go_enter Try.func35, Try.ntmps35
      go_wp2
      go_quiet (fail)
      go_wp2_with (go_at_call 47; refine (HF.out _ (below_drewN hg _)).mono ?_; rintro e w2 ⟨⟨rr, rfl⟩, hr2, hg2⟩)
      go_ret
      exact ⟨rfl, hr2, World.grownBy.trans (grown_of_below (below_drewN hg _)) hg2⟩
end Go.Proofs.Ytnkbbmfhdabbkaa
