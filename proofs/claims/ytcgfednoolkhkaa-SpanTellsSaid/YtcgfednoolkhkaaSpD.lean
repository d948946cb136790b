/-
  span: High, Draw.
-/
import Derived.Test.YtcgfednoolkhkaaSpN
namespace Go.Proofs.Ytcgfednoolkhkaa
open Go.RowKit
set_option linter.unusedVariables false
set_option linter.unusedSimpArgs false
set_option maxRecDepth 20000
theorem rhigh (o : List Nat) (i : Int) (w : World) (ho : Id o) :
    Calls Try.prog 29 #[idv o, .int .i64 i] w fun e w' => e = .returned (.tuple #[idv (laidL o i fun _ => 1), .bool (laidB i)]) ∧ Below w.heap.size w w' := by
  have hA1 := idAt_new w o
  have hA2 : IdAt ((w.alloc (.cells (idc o).toArray 41)).alloc Z41) w.heap.size o := idAt_below hA1 ((Below.refl _ _).alloc (Nat.le_refl _) _)
  have hB2 : IdAt ((w.alloc (.cells (idc o).toArray 41)).alloc Z41) (w.heap.size + 1) zero20 := by simpa using idAt_zero (w.alloc (.cells (idc o).toArray 41))
  have hb2 : Below w.heap.size w ((w.alloc (.cells (idc o).toArray 41)).alloc Z41) := ((Below.refl _ w).alloc (Nat.le_refl _) _).alloc (by simp) _
  have XA := Lib.hid hA2
  have XB := Lib.hid hB2
  have XW := Lib.hid hb2
  have HC := Lib.hid (rlayA o i 47 #[] (fun _ => 1) ((w.alloc (.cells (idc o).toArray 41)).alloc Z41) ho enter47 (fun k hk W hW => rone1 k W))
  have ho20 := ho.1
  have hl20 := (id_laid ho i (fun _ => 1)).1
  generalize laidL o i (fun _ => 1) = L at *
  generalize laidB i = B at *
  clear hA1 hA2 hB2 hb2 ho
  unfold idv at *
  generalize hCa : (idc o).toArray = Ca at *
  go_enter Try.func29, Try.ntmps29
  go_upto_region 1 with fail
  obtain ⟨W2, hW2⟩ : ∃ W2, W2 = (w.alloc (.cells Ca 41)).alloc Z41 := ⟨_, rfl⟩
  rw [← hW2] at XA XB XW HC ⊢
  clear hW2
  go_wp2_with (first
    | (refine wpList_load_id rfl (.tmp 2) rfl w.heap.size rfl o XA.out ho20 ?_)
    | (go_at_call 44; unfold idv; rw [hCa]; refine HC.out.mono ?_; rintro e w1 ⟨rfl, hb1⟩)
    | (refine wpList_store_id rfl (.tmp 4) (.tmp 9) rfl (w.heap.size + 1) rfl zero20 L rfl (idAt_below XB.out hb1) rfl hl20 ?_; intro w5 hA5 hg5))
  refine bodyPost_ret (v := .tuple #[idv L, .bool B]) ((results_id2 (u := 4) (v := 5) rfl _ w5 (w.heap.size + 1) _ rfl hA5 hl20).trans rfl) rfl ?_
  have hw1 := XW.out.trans (hb1.mono XW.out.size)
  exact ⟨rfl, hw1.grown hg5 hw1.size (fun k e => by cases e; omega)⟩
/-- The bytes of a seed. -/
def Seed (w : World) (a : Option Addr) (s : List Nat) : Prop := (∀ x ∈ s, x < 256) ∧ (s ≠ [] → ∃ ad : Addr, a = some ad ∧ ∀ j x, s[j]? = some x → w.cell? (ad.add j) = some (.int .u8 (x : Nat)))
theorem seed_below {w w' : World} {a : Option Addr} {s : List Nat} (h : Seed w a s) (hb : Below w.heap.size w w') : Seed w' a s :=
  ⟨h.1, fun hne => by
    obtain ⟨ad, ha, hc⟩ := h.2 hne
    exact ⟨ad, ha, fun j x hx => cell_below hb (hc j x hx)⟩⟩
theorem seed_row {w : World} {a : Option Addr} {len cap : Nat} {z : List Int} (h : IsRow .u8 w a len cap z) : Seed w a ((z.take len).map Int.toNat) ∧ ((z.take len).map Int.toNat).length = len := by
  rcases h with ⟨rfl, rfl, rfl, rfl⟩ | ⟨x, rfl, hl, hm, hz, hc, hwf⟩
  · exact ⟨⟨by simp, by simp⟩, rfl⟩
  · have hr : ∀ n ∈ z, 0 ≤ n ∧ n < 256 := fun n hn => by
      have := hwf n hn
      simp [Lit.wf] at this
      have e1 : IntKind.u8.min = 0 := by decide
      have e2 : IntKind.u8.max = 255 := by decide
      omega
    refine ⟨⟨?_, fun _ => ⟨x, rfl, ?_⟩⟩, by simp; omega⟩
    · intro b hb
      obtain ⟨n, hn, rfl⟩ := List.mem_map.1 hb
      have := hr n (List.mem_of_mem_take hn)
      omega
    · intro j b hb
      have hj : j < len := by
        rcases Nat.lt_or_ge j len with h1 | h1
        · exact h1
        · rw [List.getElem?_eq_none (by simp; omega)] at hb; cases hb
      have hjz : j < z.length := by omega
      simp [List.getElem?_take, hj, hjz] at hb
      rw [hc j hjz]
      have := hr z[j] (List.getElem_mem hjz)
      subst hb
      simp [List.getD, hjz]
      omega
theorem seed_id {w : World} {b : Nat} {l : List Nat} (h : IdAt w b l) (hl : Id l) : Seed w (some ⟨b, 0, none⟩) l :=
  ⟨hl.2, fun _ => ⟨_, rfl, fun j x hx => by
    have hj : j < l.length := by
      rcases Nat.lt_or_ge j l.length with h1 | h1
      · exact h1
      · simp [List.getElem?_eq_none h1] at hx
    have hadd : (⟨b, 0, none⟩ : Addr).add j = ⟨b, j, none⟩ := by unfold Addr.add; split <;> simp_all
    rw [hadd, (idAt_cell h j hj).1]
    simp [List.getD, hx]⟩⟩
/-- The id that a seed tells. -/
def fromL (s : List Nat) : List Nat := s.take 20 ++ zero20.drop (s.take 20).length
theorem id_from {s : List Nat} (h : ∀ x ∈ s, x < 256) : Id (fromL s) := by
  refine ⟨by simp [fromL, zero20]; omega, fun b hb => ?_⟩
  rcases List.mem_append.1 hb with hb | hb
  · exact h b (List.mem_of_mem_take hb)
  · exact id_zero.2 b (List.mem_of_mem_drop hb)
theorem from_splice (s : List Nat) : splice (idc zero20) 0 (idc (s.take 20)) = idc (fromL s) := by
  simp [splice, fromL, idc, List.map_drop]
theorem rdraw (o s : List Nat) (i : Int) (a : Option Addr) (c : Nat) (w : World) (ho : Id o) (hs : Seed w a s) :
    Calls Try.prog 26 #[idv o, .int .i64 i, .slice a s.length c] w fun e w' => e = .returned (.tuple #[idv (laidL o i fun k => (bit (fromL s) k : Nat)), .bool (laidB i)]) ∧ Below w.heap.size w w' := by
  have hA1 := idAt_new w o
  have hA2 : IdAt ((w.alloc (.cells (idc o).toArray 41)).alloc Z41) w.heap.size o := idAt_below hA1 ((Below.refl _ _).alloc (Nat.le_refl _) _)
  have hB2 : IdAt ((w.alloc (.cells (idc o).toArray 41)).alloc Z41) (w.heap.size + 1) zero20 := by simpa using idAt_zero (w.alloc (.cells (idc o).toArray 41))
  have hA3 : IdAt (((w.alloc (.cells (idc o).toArray 41)).alloc Z41).alloc Z41) w.heap.size o := idAt_below hA2 ((Below.refl _ _).alloc (Nat.le_refl _) _)
  have hB3 : IdAt (((w.alloc (.cells (idc o).toArray 41)).alloc Z41).alloc Z41) (w.heap.size + 1) zero20 := idAt_below hB2 ((Below.refl _ _).alloc (Nat.le_refl _) _)
  have hC3 : IdAt (((w.alloc (.cells (idc o).toArray 41)).alloc Z41).alloc Z41) (w.heap.size + 1 + 1) zero20 := by simpa using idAt_zero ((w.alloc (.cells (idc o).toArray 41)).alloc Z41)
  have hb3 : Below w.heap.size w (((w.alloc (.cells (idc o).toArray 41)).alloc Z41).alloc Z41) := (((Below.refl _ w).alloc (Nat.le_refl _) _).alloc (by simp) _).alloc (by simp; omega) _
  have X3 := Lib.hid (LayS.mk hA3 hB3 hC3 hb3)
  have XS := Lib.hid (seed_below hs hb3)
  have HFR := Lib.hid (id_from hs.1)
  have HO := Lib.hid ho
  have ho20 := ho.1
  clear hA1 hA2 hB2 hA3 hB3 hC3 hb3 ho hs
  unfold idv
  generalize hCa : (idc o).toArray = Ca at *
  go_enter Try.func26, Try.ntmps26
  go_upto_region 2 with fail
  obtain ⟨W3, hW3⟩ : ∃ W3, W3 = ((w.alloc (.cells Ca 41)).alloc Z41).alloc Z41 := ⟨_, rfl⟩
  rw [← hW3] at X3 XS ⊢
  clear hW3
  have HC : Hid (∀ W, IdAt W (w.heap.size + 1 + 1) (fromL s) → Calls Try.prog 44 #[.agg (idc o).toArray, .int .i64 i, .func (.func 45) #[] #[.pointer (some ⟨w.heap.size + 1 + 1, 0, none⟩)]] W fun e w' => e = .returned (.tuple #[idv (laidL o i fun k => (bit (fromL s) k : Nat)), .bool (laidB i)]) ∧ Below W.heap.size W w') :=
    fun W hW => rlayA o i 45 _ _ W HO.out enter45 (fun k hk W1 hb => rfrom1 k _ _ W1 HFR.out hk (idAt_below hW hb))
  have hl20 := (id_laid HO.out i (fun k => (bit (fromL s) k : Nat))).1
  generalize hL : laidL o i (fun k => (bit (fromL s) k : Nat)) = L at *
  generalize hB : laidB i = B at *
  rw [hCa] at HC
  go_wp2_with (first
    | (refine wpList_copy_splice rfl (.tmp 9) (.tmp 10) 42 42 rfl _ Try.underlying42 (by kernel_rfl) (some ⟨w.heap.size + 1 + 1, 0, none⟩) a 20 20 s.length c rfl rfl (w.heap.size + 1 + 1) 0 (idc zero20) 41 X3.out.cur (idc (s.take 20))
        (by simp [idc, Nat.min_comm]) (fun hp => ⟨rfl, by
          obtain ⟨ad, ha, hc⟩ := XS.out.2 (by rintro rfl; simp [idc] at hp)
          refine ⟨ad, ha, fun j v hv => ?_⟩
          simp only [idc, List.getElem?_map, List.getElem?_take] at hv
          split at hv
          · cases hx : s[j]? with
            | none => simp [hx] at hv
            | some x => simp [hx] at hv; rw [← hv]; exact hc j x hx
          · simp at hv⟩) (by simp [idc, zero20]; omega) (by intro v hv; obtain ⟨x, _, rfl⟩ := List.mem_map.1 hv; rfl) (w.heap.size + 1 + 1) W3 (Below.refl _ _) (Nat.le_refl _) ?_
       intro w4 hg4 hb4
       rw [from_splice] at hg4)
    | (refine wpList_load_id rfl (.tmp 3) rfl w.heap.size rfl o ((hb4.block _ (by omega)).trans X3.out.own) ho20 ?_)
    | (go_at_call 44; unfold idv; rw [hCa]; refine (HC.out _ hg4.out).mono ?_; rintro e w1 ⟨rfl, hb1⟩)
    | (refine wpList_store_id rfl (.tmp 6) (.tmp 16) rfl (w.heap.size + 1) rfl zero20 L rfl (idAt_below ((hb4.block _ (by omega)).trans X3.out.res) hb1) rfl hl20 ?_; intro w5 hA5 hg5))
  refine bodyPost_ret (v := .tuple #[idv L, .bool B]) ((results_id2 (u := 6) (v := 7) rfl _ w5 (w.heap.size + 1) _ rfl hA5 hl20).trans rfl) rfl ?_
  subst hL hB
  have hw4 := X3.out.low.trans (hb4.mono (by omega))
  have hw1 := hw4.trans (hb1.mono hw4.size)
  exact ⟨rfl, hw1.grown hg5 hw1.size (fun k e => by cases e; omega)⟩
end Go.Proofs.Ytcgfednoolkhkaa
