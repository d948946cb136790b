/-
  RingPlays: Clone.
-/
import Derived.Test.YtfphpbhopfhlcaaLk
namespace Go.Proofs.Ytfphpbhopfhlcaa
open Go.RowKit Go.Shelf
attribute [local go_sem] Oper.semAt_some
set_option linter.unusedVariables false
set_option linter.unusedSimpArgs false
set_option maxRecDepth 100000
theorem cell_block {w : World} {p : Addr} {v : Value} (h : w.cell? p = some v) : ∃ o : Obj, w.heap[p.block]? = some o ∧ o.isCells = true := by
  unfold World.cell? at h
  cases ho : w.heap[p.block]? with
  | none => rw [ho] at h; simp at h
  | some o =>
    refine ⟨o, rfl, ?_⟩
    rw [ho] at h
    cases o <;> simp at h
    rfl
theorem ring_own {X : Nat → Prop} {w w' : World} {g most : Nat} {L : List Int} (h : Ring X w g most L) (hk : ∀ (k : Nat) (o : Obj), w.heap[k]? = some o → o.isCells = true → w'.heap[k]? = w.heap[k]?) : Ring X w' g most L := by
  obtain ⟨m1, m2, hx, f, v, Z, hc, hr, hl⟩ := h
  obtain ⟨o, ho, hoc⟩ := cell_block hc.1
  refine ⟨m1, m2, hx, f, v, Z, ringC_block hc (hk _ o ho hoc), ?_, hl⟩
  rcases hr with h | ⟨b, hv, hxb, hbg, hz, hh⟩
  · exact .inl h
  · exact .inr ⟨b, hv, hxb, hbg, hz, (hk _ _ hh rfl).trans hh⟩
theorem ring_others {X Y : Nat → Prop} {w : World} {g most : Nat} {L : List Int} (h : Ring X w g most L) (hY : ∀ k, Y k → X k ∨ ∃ o : Obj, w.heap[k]? = some o ∧ o.isCells = false) : Ring Y w g most L := by
  obtain ⟨m1, m2, hx, f, v, Z, hc, hr, hl⟩ := h
  obtain ⟨o, ho, hoc⟩ := cell_block hc.1
  refine ⟨m1, m2, fun hy => ?_, f, v, Z, hc, ?_, hl⟩
  · rcases hY g hy with h1 | ⟨o', ho', hn⟩
    · exact hx h1
    · rw [show w.heap[g]? = some o from ho] at ho'
      cases ho'
      rw [hoc] at hn; cases hn
  · rcases hr with h | ⟨b, hv, hxb, hbg, hz, hh⟩
    · exact .inl h
    · refine .inr ⟨b, hv, fun hy => ?_, hbg, hz, hh⟩
      rcases hY b hy with h1 | ⟨o', ho', hn⟩
      · exact hxb h1
      · rw [hh] at ho'
        cases ho'
        cases hn
def CloneRes (w : World) (most : Nat) (L : List Int) (e : Ending) (w' : World) : Prop :=
  ∃ gc, e = .returned (.pointer (some ⟨gc, 0, none⟩)) ∧ Ring (fun k => k < w.heap.size) w' gc most L ∧ Below w.heap.size w w'
set_option maxHeartbeats 4000000 in
theorem rclone (X : Nat → Prop) (g most : Nat) (L : List Int) (w : World) (hR : Ring X w g most L) :
    Calls Try.prog 12 #[.pointer (some ⟨g, 0, none⟩)] w (CloneRes w most L) := by
  have HR := Lib.hid hR
  have hlen := ring_len hR
  obtain ⟨m1, m2, -, f, v, Z, hc, -, -⟩ := hR
  have h0 := hc.1
  have HNN := Lib.hid (rnone_no g most w h0 m1)
  have HNW := Lib.hid (rnew_yes (fun k => k < w.heap.size) most w m1 m2 (fun k h => h))
  clear hc
  refine (callsIn_wide (n := 6)).1 ?_
  refine callsIn_of_wp_marks Try.func12 rfl trivial ?_ rfl
  simp only [Try.ntmps12, List.size_toArray, List.length_cons, List.length_nil, Nat.reduceAdd, Nat.reduceSub, Array.replicate_succ, Array.replicate_zero, List.push_toArray, List.append_toArray, List.nil_append, List.cons_append]
  gi_wp2_with (first
    | (refine ⟨trivial, ?_⟩; gi_at_call 28; refine (callsIn_wide.2 HNN.out).mono ?_; rintro e w1 ⟨rfl, rfl⟩)
    | (refine ⟨trivial, ?_⟩; gi_at_call 8; refine (callsIn_wide.2 HNW.out).mono ?_; rintro e w1 ⟨rfl, hrc, hb1⟩)
    | (refine ⟨trivial, ?_⟩; gi_at_call 31; refine (callsIn_wide.2 (rall _ _)).mono ?_; rintro e w2 ⟨rfl, rfl⟩))
  have c3 := cell_new_l w1 (.pointer (some ⟨w.heap.size, 0, none⟩)) 24
  have cB := cell_new_l (w1.alloc (.cells #[.pointer (some ⟨w.heap.size, 0, none⟩)] 24)) (.pointer (some ⟨g, 0, none⟩)) 24
  simp only [World.size_alloc] at cB
  have hB1 : Below w1.heap.size w1 ((w1.alloc (.cells #[.pointer (some ⟨w.heap.size, 0, none⟩)] 24)).alloc (.cells #[.pointer (some ⟨g, 0, none⟩)] 24)) := ((Below.refl _ w1).alloc (Nat.le_refl _) _).alloc (by simp) _
  have k3 := cell_alloc_l (.cells #[.pointer (some ⟨g, 0, none⟩)] 24) c3.1
  have kB := cB.1
  have hsz : ((w1.alloc (.cells #[.pointer (some ⟨w.heap.size, 0, none⟩)] 24)).alloc (.cells #[.pointer (some ⟨g, 0, none⟩)] 24)).heap.size = w1.heap.size + 2 := by simp
  obtain ⟨W0, hW0⟩ : ∃ W0, W0 = (w1.alloc (.cells #[.pointer (some ⟨w.heap.size, 0, none⟩)] 24)).alloc (.cells #[.pointer (some ⟨g, 0, none⟩)] 24) := ⟨_, rfl⟩
  rw [← hW0] at hB1 k3 kB hsz ⊢
  have hs1 := hb1.size
  have hrW : Ring (fun k => k < w.heap.size ∨ k = w1.heap.size ∨ k = w1.heap.size + 1) W0 w.heap.size most [] := ring_widen hrc hB1 (fun k hk => by
    rcases hk with h | h | h
    · exact .inl h
    · exact .inr (by omega)
    · exact .inr (by omega))
  have hB0 : Below w.heap.size w W0 := hb1.trans (hB1.mono hs1)
  generalize hs : w1.heap.size = n1 at *
  clear hW0 c3 cB hs hb1 hB1 hrc HNN HNW h0
  refine wpIn_rangeFunc_ownF rfl (by omega) (gf := 45) (lb := #[.pointer (some ⟨n1 + 1, 0, none⟩)]) rfl trivial (enters_of Try.func45 (by kernel_rfl) rfl)
    (all_stops (6 - 1) (by omega) (n1 + 1) g most X L w W0 HR.out hB0 kB) kpA_t (kpA_b (by omega) (by omega)) (Below.refl _ _) (fun _ => rfl)
    (fun pre W => (W.cell? ⟨n1, 0, none⟩ = some (.pointer (some ⟨w.heap.size, 0, none⟩)) ∧ W.cell? ⟨n1 + 1, 0, none⟩ = some (.pointer (some ⟨g, 0, none⟩)) ∧ Ring (fun k => k < w.heap.size ∨ k = n1 ∨ k = n1 + 1) W w.heap.size most (pre.map Prod.snd)) ∧ Below w.heap.size w W)
    (fun _ _ _ => False)
    (OwnFrom.and (Own.from (fun s A B row hs hg hr => ⟨Go.cell_kept hs.1 hg hr, Go.cell_kept hs.2.1 hg hr, ring_own hs.2.2 (fun k o ho hoc => hg.block k (Array.getElem?_eq_some_iff.1 ho).1 (fun e => by
      obtain ⟨o', ho', hn⟩ := hr k e.symm
      rw [ho] at ho'
      cases ho'
      rw [hoc] at hn
      cases hn))⟩) _) (ownFrom_below (Nat.le_refl _) (by omega)))
    (fun _ _ _ _ _ hs _ _ => hs)
    ⟨⟨k3, kB, hrW⟩, hB0⟩
    (fun x => { tmps := #[.pointer (some ⟨g, 0, none⟩), undef, .pointer none, .pointer (some ⟨n1, 0, none⟩), undef, .int .i64 x.2, .pointer (some ⟨g, 0, none⟩), .bool false, .pointer (some ⟨g, 0, none⟩), .bool false, undef, undef, .pointer (some ⟨g, 0, none⟩), .pointer (some ⟨g, 0, none⟩), .pointer (some ⟨g, 0, none⟩), .int .i64 most, .pointer (some ⟨w.heap.size, 0, none⟩), .pointer (some ⟨g, 0, none⟩), .func (.func 45) #[] #[.pointer (some ⟨n1 + 1, 0, none⟩)], .int .i64 (x.1 : Int), .int .i64 x.2, undef, undef, undef, undef], defers := [] }) ?assign ?body ?done ?stop
  case assign =>
    intro l x W K hK
    gi_wp2
    exact hK
  case body =>
    rintro l pre ⟨xi, xv⟩ W ⟨⟨k3, kB, hrW⟩, hB⟩ hlt
    have hrY : Ring (fun k => (k < w.heap.size ∨ k = n1 ∨ k = n1 + 1) ∨ ∃ o : Obj, W.heap[k]? = some o ∧ o.isCells = false) W w.heap.size most (pre.map Prod.snd) := ring_others hrW (fun k hk => hk)
    have hn1 := World.block_lt_of_cell? _ _ k3
    have hp := rpush_any _ _ _ _ xv W hrY (fun k hk => by
      have hn2 := World.block_lt_of_cell? _ _ kB
      have := hB.size
      simp at hn1 hn2
      rcases hk with (h | h | h) | ⟨o, ho, -⟩
      · omega
      · omega
      · omega
      · exact (Array.getElem?_eq_some_iff.1 ho).1)
    have hl : (pre.map Prod.snd).length < most := by simp; omega
    rw [show pushL most (pre.map Prod.snd) xv = pre.map Prod.snd ++ [xv] from if_pos hl] at hp
    have HP := Lib.hid hp
    have HB := Lib.hid hB
    clear hp hl hrY hrW hB
    gi_wp2_with (refine ⟨trivial, ?_⟩; gi_at_call 9; refine (CallsIn.inRound l (callsIn_wide.2 HP.out)).mono ?_; rintro e w3 ⟨rfl, hr3, hk3⟩)
    refine ⟨?_, hk3.mono (fun k hk => .inl (by rcases hk with h | h; exact .inl h; exact .inr (.inr h))), ⟨kept_cell hk3 (.inl (.inr (.inl rfl))) k3, kept_cell hk3 (.inl (.inr (.inr rfl))) kB, ?_⟩, HB.out.trans (hk3.below (fun k hk => .inl (.inl hk)) HB.out.size)⟩
    · refine ⟨hk3.size, fun k o ho hc => ?_⟩
      exact (hk3.block k (.inr ⟨o, ho, hc⟩) (Array.getElem?_eq_some_iff.1 ho).1).trans ho
    · rw [List.map_append]
      exact ring_narrow hr3 (fun k hk => .inl hk)
  case done =>
    rintro D ys W hD rfl ⟨⟨k3, kB, hrW⟩, hB⟩ hK
    gi_wp2
    refine ⟨by simp, .inl ⟨_, _, rfl, run_takeDeferred hK, ?_⟩⟩
    refine ⟨_, results_tmp rfl _ _ _, ⟨w.heap.size, rfl, ?_, hB.trans (belowK_b (w := w) (Nat.le_refl _) W D _ _ (by omega) hK rfl rfl)⟩⟩
    have hm : (upto L L.length).map Prod.snd = L := by
      apply List.ext_getElem
      · simp [upto]
      · intro i h1 h2
        simp [upto, List.getD, h2]
    rw [hm] at hrW
    refine ring_own (ring_narrow hrW (fun k hk => .inl hk)) (fun k o ho hoc => (grownBy_putObj' W D (.deferred none)).block k (Array.getElem?_eq_some_iff.1 ho).1 (fun e => by
      cases e
      rw [ho] at hK
      cases hK
      cases hoc))
  case stop =>
    rintro D c pre W _ _ h _
    exact h.elim
end Go.Proofs.Ytfphpbhopfhlcaa
