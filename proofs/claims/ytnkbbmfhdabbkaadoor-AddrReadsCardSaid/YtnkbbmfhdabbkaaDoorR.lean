/-
  addr.Read.
-/
import Derived.Test.YtnkbbmfhdabbkaaDoorRd
import Derived.Test.YtnkbbmfhdabbkaaDoorF
namespace Go.Proofs.YtnkbbmfhdabbkaaDoor
open Go.RowKit Go.Proofs.YtnkbbmfhdabbkaaDoorW.PrintWords
set_option linter.unusedVariables false
set_option linter.unusedSimpArgs false
set_option maxRecDepth 100000
def rdH (l : List Int) : Nat := (num (l.take 4)).toNat
def rdP (l : List Int) : Nat := (num ((l.drop 4).take 2)).toNat
def rdOk (l : List Int) : Bool := l.length == 6 && gd (rdH l) (rdP l)
/-- An address and its error, as they are told. -/
def adr (h p : Nat) (e : Int) : Value := .tuple #[.agg #[.int .u32 (h : Int), .int .u16 (p : Int)], .int .i64 e]
def rdRes (l : List Int) : Value := if rdOk l = true then adr (rdH l) (rdP l) 0 else adr 0 0 10
set_option maxHeartbeats 1000000 in
theorem aread (A : Option Addr) (c : Nat) (l : List Int) (w : World) (HR : ReadsInt w .u8 A l.length l) (hc : l.length ≤ c) (hB : Bytes l) :
    Calls Tryd.prog 17 #[.slice A l.length c] w fun e w' => e = .returned (rdRes l) ∧ Below w.heap.size w w' := by
  by_cases h6 : l.length = 6
  · have hl4 : num (l.take 4) = (rdH l : Int) := by have := num_bd _ (bytes_take hB 4); unfold rdH; omega
    have hl2 : num ((l.drop 4).take 2) = (rdP l : Int) := by have := num_bd _ (bytes_take (bytes_drop hB 4) 2); unfold rdP; omega
    have hb4 : rdH l < 4294967296 := by
      have := (num_bd _ (bytes_take hB 4)).2
      rw [hl4, List.length_take, h6] at this
      have : ((rdH l : Nat) : Int) < 4294967296 := this
      omega
    have hb2 : rdP l < 65536 := by
      have := (num_bd _ (bytes_take (bytes_drop hB 4) 2)).2
      rw [hl2, List.length_take, List.length_drop, h6] at this
      have : ((rdP l : Nat) : Int) < 65536 := this
      omega
    have HRES : Hid (rdRes l = if gd (rdH l) (rdP l) = true then adr (rdH l) (rdP l) 0 else adr 0 0 10) := Lib.hid (by simp [rdRes, rdOk, h6])
    have HY1 : Hid (∀ g W, Rdr W g l false → Calls Tryd.prog 27 #[.pointer (some ⟨g, 0, none⟩), .int .i64 4] W (NumYes g l 4 W)) := Lib.hid (fun g W hW => rnum_yes g l 4 W hW hB (by decide) (by decide) (by omega))
    have HY2 : Hid (∀ g W, Rdr W g (l.drop 4) false → Calls Tryd.prog 27 #[.pointer (some ⟨g, 0, none⟩), .int .i64 2] W (NumYes g (l.drop 4) 2 W)) := Lib.hid (fun g W hW => rnum_yes g (l.drop 4) 2 W hW (bytes_drop hB 4) (by decide) (by decide) (by rw [List.length_drop]; omega))
    have HGD := Lib.hid (fun W => agood (rdH l) (rdP l) W)
    have HB := Lib.hid ((Below.refl w.heap.size w).alloc (Nat.le_refl _) (.cells #[.int .u32 0, .int .u16 0] 25))
    have BK := Lib.hid (blk_new w (.cells #[.int .u32 0, .int .u16 0] 25))
    have HO := Lib.hid (fun W hW => ropen_any A c l W hW (by omega))
    have HRR := Lib.hid (HR.allocS (.cells #[.int .u32 0, .int .u16 0] 25))
    unfold NumYes at HY1 HY2
    rw [hl4] at HY1
    rw [hl2] at HY2
    have w4 : IntKind.u32.wrap (rdH l : Int) = (rdH l : Int) := by rw [IntKind.wrap_u32]; omega
    have w2 : IntKind.u16.wrap (rdP l : Int) = (rdP l : Int) := by rw [IntKind.wrap_u16]; omega
    rw [h6] at HO HRR ⊢
    generalize rdH l = h at *
    generalize rdP l = p at *
    generalize hgd : gd h p = good at *
    clear hl4 hl2 hB HR hgd
    have HN : Hid (∀ (W1 W2 W3 W4 : World) (g : Nat) (o : Obj), Below (w.alloc (.cells #[.int .u32 0, .int .u16 0] 25)).heap.size (w.alloc (.cells #[.int .u32 0, .int .u16 0] 25)) W1 → (w.alloc (.cells #[.int .u32 0, .int .u16 0] 25)).heap.size ≤ g → W1.grownBy W2 (some g) → W2.grownBy W3 (some g) → Below (W3.alloc o).heap.size (W3.alloc o) W4 →
        W4.heap[w.heap.size]? = some (.cells #[.int .u32 0, .int .u16 0] 25 (0, 0)) ∧ W4.heap[W3.heap.size]? = (W3.alloc o).heap[W3.heap.size]? ∧ Below w.heap.size w W4) := Lib.hid (fun W1 W2 W3 W4 g o h1 hg h2 h3 h4 => by
      have e : (w.alloc (.cells #[.int .u32 0, .int .u16 0] 25)).heap.size = w.heap.size + 1 := by simp
      have hne : (some w.heap.size : Option Nat) ≠ some g := fun e2 => by have := Option.some.inj e2; omega
      have b1 := blk_below BK.out h1
      have b3 := blk_grown (blk_grown b1 h2 hne) h3 hne
      have s1 : w.heap.size ≤ W1.heap.size := by have := h1.size; omega
      have B1 : Below w.heap.size w W1 := HB.out.trans (h1.mono (by omega))
      have B2 := B1.grown h2 B1.size (fun k hk => by cases hk; omega)
      have B3 := B2.grown h3 B2.size (fun k hk => by cases hk; omega)
      have B3a := B3.alloc B3.size o
      have hlt : W3.heap.size < (W3.alloc o).heap.size := by simp
      exact ⟨blk_below (blk_below b3 ((Below.refl _ _).alloc (Nat.le_refl _) o)) h4, h4.block _ hlt, B3a.trans (h4.mono B3a.size)⟩)
    cases good
    all_goals go_enter Tryd.func17, Tryd.ntmps17
    all_goals go_wp2_with (first
      | (go_at_call 26; refine (HO.out _ HRR.out).mono ?_; rintro e w1 ⟨g, rfl, hg, hrd, hb1⟩; have HG := Lib.hid hg; have HRD := Lib.hid hrd; have HB1 := Lib.hid hb1; clear hg hrd hb1)
      | (go_at_call 27; with_reducible refine (HY1.out g w1 HRD.out).mono ?_; rintro e w2 ⟨rfl, hrd2, hg2⟩; have HRD2 := Lib.hid hrd2; have HG2 := Lib.hid hg2; clear hrd2 hg2)
      | (go_at_call 27; with_reducible refine (HY2.out g w2 HRD2.out).mono ?_; rintro e w3 ⟨rfl, hrd3, hg3⟩; have HRD3 := Lib.hid hrd3; have HG3 := Lib.hid hg3; clear hrd3 hg3)
      | (go_at_call 6; refine (HGD.out _).mono ?_; rintro e w4 ⟨rfl, hb4⟩; obtain ⟨q1, q2, q3⟩ := HN.out _ _ _ _ g _ HB1.out HG.out HG2.out HG3.out hb4; replace q2 := q2.trans (blk_new w3 _); have hc0 := (blk_cell q1 0).trans rfl; have hc1 := (blk_cell q1 1).trans rfl; have hn0 := (blk_cell q2 0).trans rfl; have hn1 := (blk_cell q2 1).trans rfl; have hf0 := blk_frozen q1 0; have hf1 := blk_frozen q1 1; have Q1 := Lib.hid q1; have Q3 := Lib.hid q3; clear q1 q2 q3 hb4))
    · refine bodyPost_ret (v := adr 0 0 10) ((results_ct rfl _ _ w.heap.size 25 #[.int .u32 0, .int .u16 0] (0, 0) _ rfl (blk_put (blk_put Q1.out 0 _ rfl) 1 _ rfl) Tryd.underlying25 rfl (by kernel_rfl)).trans rfl) rfl ?_
      exact ⟨ret_val (by rw [HRES.out]; rfl), (Q3.out.setCell (Nat.le_refl _) _).setCell (Nat.le_refl _) _⟩
    · refine bodyPost_ret (v := adr h p 0) ((results_ct rfl _ _ w.heap.size 25 #[.int .u32 (h : Int), .int .u16 (p : Int)] (0, 0) _ rfl (blk_put (blk_put Q1.out 0 _ rfl) 1 _ rfl) Tryd.underlying25 rfl (by kernel_rfl)).trans rfl) rfl ?_
      exact ⟨ret_val (by rw [HRES.out]; rfl), (Q3.out.setCell (Nat.le_refl _) _).setCell (Nat.le_refl _) _⟩
  · have hres : rdRes l = adr 0 0 10 := by simp [rdRes, rdOk, h6]
    have h6i : ¬ ((l.length : Int) = 6) := by omega
    have hn : ((l.length : Int) != 6) = true := bne_iff_ne.2 h6i
    have HRES := Lib.hid hres
    have HB := Lib.hid ((Below.refl w.heap.size w).alloc (Nat.le_refl _) (.cells #[.int .u32 0, .int .u16 0] 25))
    generalize l.length = n at *
    clear HR hB hres
    go_enter Tryd.func17, Tryd.ntmps17
    go_wp2
    refine bodyPost_ret (v := adr 0 0 10) ((results_ct rfl _ _ w.heap.size 25 #[.int .u32 0, .int .u16 0] (0, 0) _ rfl (blk_new w _) Tryd.underlying25 rfl (by kernel_rfl)).trans rfl) rfl ?_
    exact ⟨ret_val HRES.out.symm, HB.out⟩
end Go.Proofs.YtnkbbmfhdabbkaaDoor
