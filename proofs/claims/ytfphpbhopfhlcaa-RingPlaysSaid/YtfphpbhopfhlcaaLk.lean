/-
  RingPlays: like.
-/
import Derived.Test.YtfphpbhopfhlcaaIt
import Derived.Deep.RegionHeld3
namespace Go.Proofs.Ytfphpbhopfhlcaa
open Go.RowKit Go.Shelf
attribute [local go_sem] Oper.semAt_some
set_option linter.unusedVariables false
set_option linter.unusedSimpArgs false
set_option maxRecDepth 100000
theorem equal_func (d : Nat) (fn : Fn) (fi ca : Array Value) (W : World) : (Op.equalIn (d + 1) 73 (.func fn fi ca) .nilFunc).run Try.prog W = .ok false W := by
  unfold Op.equalIn
  simp [run_underlying Try.underlying73, go_sem]
theorem eq_func (fn : Fn) (fi ca : Array Value) (W : World) : (binOp .eql 73 (.func fn fi ca) .nilFunc).run Try.prog W = .ok (.bool false) W := by
  have h : (binOp .eql 73 (.func fn fi ca) .nilFunc).run Try.prog W = ((Op.equalIn 10000 73 (.func fn fi ca) .nilFunc).run Try.prog W).andThen fun b w' => .ok (.bool b) w' := by
    simp only [binOp]
    simp [Op.equal, Op.maxDepth]
  rw [h, equal_func 9999 fn fi ca W]
  rfl
theorem cell_of_box_l {W : World} {B : Nat} {v : Value} {t : TypeId} (h : W.heap[B]? = some (.cells #[v] t (0, 0))) : W.cell? ⟨B, 0, none⟩ = some v ∧ W.frozen? ⟨B, 0, none⟩ = false := by
  constructor <;> simp [World.cell?, World.frozen?, h]
theorem cell_new_l (W : World) (v : Value) (t : TypeId) : (W.alloc (.cells #[v] t)).cell? ⟨W.heap.size, 0, none⟩ = some v ∧ (W.alloc (.cells #[v] t)).frozen? ⟨W.heap.size, 0, none⟩ = false := by
  exact cell_of_box_l (World.alloc_heap_new W _)
theorem cell_alloc_l {W : World} {a : Addr} {v : Value} (o : Obj) (h : W.cell? a = some v) : (W.alloc o).cell? a = some v := cell_below (Below.alloc (Below.refl _ W) (Nat.le_refl _) o) h
theorem frozen_alloc_l {W : World} {a : Addr} {v : Value} (o : Obj) (h : W.cell? a = some v) (hf : W.frozen? a = false) : (W.alloc o).frozen? a = false := ((Below.alloc (Below.refl W.heap.size W) (Nat.le_refl _) o).frozen (p := a) (World.block_lt_of_cell? _ _ h)).trans hf
theorem rroom (X : Nat → Prop) (g most : Nat) (L : List Int) (w : World) (h : Ring X w g most L) : Calls Try.prog 34 #[.pointer (some ⟨g, 0, none⟩)] w fun e w' => e = .returned (.int .i64 ((most : Int) - (L.length : Int))) ∧ Below w.heap.size w w' := by
  have hlen := ring_len h
  obtain ⟨m1, m2, hx, f, v, Z, ⟨h0, h1, h2, h3, f1, f2, f3⟩, hr, hl⟩ := h
  have H := Lib.hid (rnone_no g most w h0 m1)
  clear hr hl h1 h3 f1 f2 f3
  generalize L.length = n at *
  have hw : IntKind.i64.wrap ((most : Int) - (n : Int)) = (most : Int) - (n : Int) := by rw [IntKind.wrap_i64]; omega
  have hg := Below.refl w.heap.size w
  go_enter Try.func34, Try.ntmps34
  go_wp2_with (go_at_call 28; refine H.out.mono ?_; rintro e w1 ⟨rfl, rfl⟩)
  go_quiet (fail)
  go_wp2
  go_ret
  exact ⟨rfl, below_drewN hg _⟩
/-- The bool of a cell. -/
def rdB (p : Addr) (W : World) : Bool := match W.cell? p with | some (.bool b) => b | _ => false
theorem rdB_of {p : Addr} {W : World} {b : Bool} (h : W.cell? p = some (.bool b)) : W.cell? p = some (.bool (rdB p W)) := by rw [h]; simp [rdB, h]
/-- What like's last line reads and writes. -/
structure LkS (w : World) (D : Nat) (sl : Value) (n : Nat) (W : World) : Prop where
  dk : W.heap[D]? = some (.deferred (some []))
  c5 : W.cell? ⟨w.heap.size, 0, none⟩ = some sl
  c9 : W.cell? ⟨w.heap.size + 1 + 1, 0, none⟩ = some (.int .i64 (n : Int))
  c8 : ∃ v, W.cell? ⟨w.heap.size + 1, 0, none⟩ = some (.bool v)
  f8 : W.frozen? ⟨w.heap.size + 1, 0, none⟩ = false
  low : Below w.heap.size w W
theorem lkS_open {w W : World} {D : Nat} {sl : Value} {n : Nat} (h : Hid (LkS w D sl n W)) : W.cell? ⟨w.heap.size, 0, none⟩ = some sl ∧ W.cell? ⟨w.heap.size + 1 + 1, 0, none⟩ = some (.int .i64 (n : Int)) ∧ W.frozen? ⟨w.heap.size + 1, 0, none⟩ = false ∧ W.cell? ⟨w.heap.size + 1, 0, none⟩ = some (.bool (rdB ⟨w.heap.size + 1, 0, none⟩ W)) ∧ Hid (LkS w D sl n W) := ⟨h.out.c5, h.out.c9, h.out.f8, by obtain ⟨v, hv⟩ := h.out.c8; exact rdB_of hv, h⟩
theorem lkS_drew {w W : World} {D : Nat} {sl : Value} {n : Nat} (h : Hid (LkS w D sl n W)) : Hid (LkS w D sl n W.drew) := Lib.hid ⟨h.out.dk, h.out.c5, h.out.c9, h.out.c8, h.out.f8, h.out.low.drew⟩
theorem lkS_set {w W : World} {D : Nat} {sl : Value} {v : Bool} {n : Nat} (h : Hid (LkS w D sl n W)) : Hid (LkS w D sl n (W.setCell ⟨w.heap.size + 1, 0, none⟩ (.bool v))) :=
  Lib.hid ⟨(KeepsOthers.setCell W ⟨w.heap.size + 1, 0, none⟩ (.bool v)).same D _ h.out.dk rfl, set_other h.out.c5 (by simp), set_other h.out.c9 (by simp), ⟨v, by obtain ⟨u, hu⟩ := h.out.c8; exact set_same hu⟩, by rw [World.frozen?_setCell]; exact h.out.f8, h.out.low.setCell (p := ⟨w.heap.size + 1, 0, none⟩) (by simp) _⟩
theorem lkS_below {w W W' : World} {D : Nat} {sl : Value} {n : Nat} (h : Hid (LkS w D sl n W)) (hb : Below W.heap.size W W') : Hid (LkS w D sl n W') :=
  Lib.hid ⟨(hb.block D (Array.getElem?_eq_some_iff.1 h.out.dk).1).trans h.out.dk, cell_below hb h.out.c5, cell_below hb h.out.c9, by obtain ⟨u, hu⟩ := h.out.c8; exact ⟨u, cell_below hb hu⟩, by obtain ⟨u, hu⟩ := h.out.c8; exact (hb.frozen (p := ⟨w.heap.size + 1, 0, none⟩) (World.block_lt_of_cell? _ _ hu)).trans h.out.f8, h.out.low.trans (hb.mono h.out.low.size)⟩
theorem lk_len {w : World} {X : Nat → Prop} {g most : Nat} {L : List Int} {D : Nat} {sl : Value} {n : Nat} (hR : Ring X w g most L) (W : World) (h : Hid (LkS w D sl n W)) : Calls Try.prog 11 #[.pointer (some ⟨g, 0, none⟩)] W fun e w' => e = .returned (.int .i64 L.length) ∧ Hid (LkS w D sl n w') :=
  (rlen X g most L W (ring_below hR h.out.low)).mono fun e w' ⟨he, hw⟩ => ⟨he, hw ▸ h⟩
theorem lk_room {w : World} {X : Nat → Prop} {g most : Nat} {L : List Int} {D : Nat} {sl : Value} {n : Nat} (hR : Ring X w g most L) (W : World) (h : Hid (LkS w D sl n W)) : Calls Try.prog 34 #[.pointer (some ⟨g, 0, none⟩)] W fun e w' => e = .returned (.int .i64 ((most : Int) - (L.length : Int))) ∧ Hid (LkS w D sl n w') :=
  (rroom X g most L W (ring_below hR h.out.low)).mono fun e w' ⟨he, hw⟩ => ⟨he, lkS_below h hw⟩
set_option maxHeartbeats 4000000 in
theorem rlike (X : Nat → Prop) (g most cap : Nat) (L : List Int) (A : Option Addr) (at_ : Int) (w : World) (hR : Ring X w g most L) (hA : ReadsI w A L) :
    Calls Try.prog 16 #[.pointer (some ⟨g, 0, none⟩), .slice A L.length cap, .int .i64 most, .int .i64 at_] w fun e w' => e = .returned (.bool true) ∧ Below w.heap.size w w' := by
  have hef := eq_func (.func 45) #[] #[.pointer (some ⟨(((w.alloc (.cells #[.slice A L.length cap] 33)).alloc (.cells #[.bool false] 4)).alloc (.cells #[.int .i64 0] 3)).heap.size, 0, none⟩)]
  simp only [World.size_alloc] at hef
  have HR := Lib.hid hR
  have HRA := Lib.hid hA
  have hlen := ring_len hR
  refine (callsIn_wide (n := 6)).1 ?_
  refine callsIn_of_wp_marks Try.func16 rfl trivial ?_ rfl
  simp only [Try.ntmps16, List.size_toArray, List.length_cons, List.length_nil, Nat.reduceAdd, Nat.reduceSub, Array.replicate_succ, Array.replicate_zero, List.push_toArray, List.append_toArray, List.nil_append, List.cons_append]
  gi_wp2_with (refine ⟨trivial, ?_⟩; gi_at_call 31; refine (callsIn_wide.2 (rall _ _)).mono ?_; rintro e w1 ⟨rfl, rfl⟩)
  have c5 := cell_new_l w (.slice A L.length cap) 33
  have c8 := cell_new_l (w.alloc (.cells #[.slice A L.length cap] 33)) (.bool false) 4
  have c9 := cell_new_l ((w.alloc (.cells #[.slice A L.length cap] 33)).alloc (.cells #[.bool false] 4)) (.int .i64 0) 3
  have cB := cell_new_l (((w.alloc (.cells #[.slice A L.length cap] 33)).alloc (.cells #[.bool false] 4)).alloc (.cells #[.int .i64 0] 3)) (.pointer (some ⟨g, 0, none⟩)) 24
  simp only [World.size_alloc] at c8 c9 cB
  have hB0 : Below w.heap.size w ((((w.alloc (.cells #[.slice A L.length cap] 33)).alloc (.cells #[.bool false] 4)).alloc (.cells #[.int .i64 0] 3)).alloc (.cells #[.pointer (some ⟨g, 0, none⟩)] 24)) := ((((Below.refl _ w).alloc (Nat.le_refl _) _).alloc (by simp) _).alloc (by simp; omega) _).alloc (by simp; omega) _
  have k5 := cell_alloc_l (.cells #[.pointer (some ⟨g, 0, none⟩)] 24) (cell_alloc_l (.cells #[.int .i64 0] 3) (cell_alloc_l (.cells #[.bool false] 4) c5.1))
  have k8 := cell_alloc_l (.cells #[.pointer (some ⟨g, 0, none⟩)] 24) (cell_alloc_l (.cells #[.int .i64 0] 3) c8.1)
  have f8 := frozen_alloc_l (.cells #[.pointer (some ⟨g, 0, none⟩)] 24) (cell_alloc_l (.cells #[.int .i64 0] 3) c8.1) (frozen_alloc_l (.cells #[.int .i64 0] 3) c8.1 c8.2)
  have k9 := cell_alloc_l (.cells #[.pointer (some ⟨g, 0, none⟩)] 24) c9.1
  have f9 := frozen_alloc_l (.cells #[.pointer (some ⟨g, 0, none⟩)] 24) c9.1 c9.2
  have kB := cB.1
  have hsz : ((((w.alloc (.cells #[.slice A L.length cap] 33)).alloc (.cells #[.bool false] 4)).alloc (.cells #[.int .i64 0] 3)).alloc (.cells #[.pointer (some ⟨g, 0, none⟩)] 24)).heap.size = w.heap.size + 4 := by simp
  obtain ⟨W0, hW0⟩ : ∃ W0, W0 = ((((w.alloc (.cells #[.slice A L.length cap] 33)).alloc (.cells #[.bool false] 4)).alloc (.cells #[.int .i64 0] 3)).alloc (.cells #[.pointer (some ⟨g, 0, none⟩)] 24)) := ⟨_, rfl⟩
  rw [← hW0] at hB0 k5 k8 f8 k9 f9 kB hsz ⊢
  clear hW0 c5 c8 c9 cB hef
  refine wpIn_rangeFunc_ownF rfl (by omega) (gf := 45) (lb := #[.pointer (some ⟨w.heap.size + 1 + 1 + 1, 0, none⟩)]) rfl trivial (enters_of Try.func45 (by kernel_rfl) rfl)
    (all_stops (6 - 1) (by omega) (w.heap.size + 1 + 1 + 1) g most X L w W0 HR.out hB0 kB) kpA_t (kpA_b (by omega) (by omega)) (Below.refl _ _) (fun _ => rfl)
    (fun pre W => (W.cell? ⟨w.heap.size, 0, none⟩ = some (.slice A L.length cap) ∧ W.cell? ⟨w.heap.size + 1, 0, none⟩ = some (.bool false) ∧ W.frozen? ⟨w.heap.size + 1, 0, none⟩ = false ∧ W.cell? ⟨w.heap.size + 1 + 1, 0, none⟩ = some (.int .i64 (pre.length : Nat)) ∧ W.frozen? ⟨w.heap.size + 1 + 1, 0, none⟩ = false ∧ pre = upto L pre.length) ∧ Below w.heap.size w W)
    (fun c pre W => c = .ret ∧ ¬ pre = upto L pre.length)
    (OwnFrom.and (Own.from (fun s A B row hs hg hr => ⟨Go.cell_kept hs.1 hg hr, Go.cell_kept hs.2.1 hg hr, (Go.frozen_kept hs.2.1 hg hr).trans hs.2.2.1, Go.cell_kept hs.2.2.2.1 hg hr, (Go.frozen_kept hs.2.2.2.1 hg hr).trans hs.2.2.2.2.1, hs.2.2.2.2.2⟩) _) (ownFrom_below (Nat.le_refl _) (by omega)))
    (fun _ _ _ _ _ hs _ _ => hs)
    ⟨⟨k5, k8, f8, k9, f9, rfl⟩, hB0⟩
    (fun x => { tmps := #[.pointer (some ⟨g, 0, none⟩), .slice A L.length cap, .int .i64 most, .int .i64 at_, undef, .pointer (some ⟨w.heap.size, 0, none⟩), undef, undef, .pointer (some ⟨w.heap.size + 1, 0, none⟩), .pointer (some ⟨w.heap.size + 1 + 1, 0, none⟩), .func (.func 45) #[] #[.pointer (some ⟨w.heap.size + 1 + 1 + 1, 0, none⟩)], .int .i64 (x.1 : Int), .int .i64 x.2, undef, undef, .pointer (some ⟨g, 0, none⟩), .func (.func 45) #[] #[.pointer (some ⟨w.heap.size + 1 + 1 + 1, 0, none⟩)], .func (.func 45) #[] #[.pointer (some ⟨w.heap.size + 1 + 1 + 1, 0, none⟩)], .bool false, .func (.func 45) #[] #[.pointer (some ⟨w.heap.size + 1 + 1 + 1, 0, none⟩)], .int .i64 (x.1 : Int), .int .i64 x.2, undef, undef, undef, undef, undef, undef, undef, undef, undef, undef, undef, undef, undef, undef, undef, undef, undef, undef, undef, undef, undef, undef, undef, undef, undef, undef, undef, undef, undef, undef, undef, undef, undef, undef, undef, undef, undef, undef, undef, undef, undef, undef, undef, undef, undef, undef, undef, undef, undef, undef, undef, undef, undef, undef, undef, undef, undef, undef, undef, undef, undef, undef, undef, undef, undef, undef], defers := [] }) ?assign ?body ?done ?stop
  case assign =>
    intro l x W K hK
    gi_wp2
    exact hK
  case body =>
    rintro l pre ⟨xi, xv⟩ W ⟨⟨k5, k8, f8, k9, f9, hp⟩, hB⟩ hlt
    have HP := Lib.hid hp
    have HB := Lib.hid hB
    clear hp hB
    obtain ⟨ad, hA2, hcells⟩ := HRA.out (by omega)
    have hcell : W.cell? (ad.add pre.length) = some (.int .i64 (L.getD pre.length 0)) := cell_below HB.out (hcells _ hlt)
    clear hcells
    subst hA2
    have HU := Lib.hid (upto_succ L pre.length)
    have HPL : Hid ((pre ++ [(xi, xv)]).length = pre.length + 1) := by show _ = _; simp
    generalize pre.length = n at *
    have hnL : n < L.length := hlt
    have hnL2 : (n : Int) < (L.length : Int) := by omega
    have hnn : (0 : Int) ≤ (n : Int) := by omega
    by_cases h1 : xi = n
    · subst h1
      by_cases h2 : xv = L.getD xi 0
      · have H2 := Lib.hid h2
        have hbe : (L.getD xi 0 != xv) = false := by rw [← h2]; simp
        clear h2
        generalize L.getD xi 0 = y at *
        have hw : IntKind.i64.wrap ((xi : Int) + 1) = (xi : Int) + 1 := by rw [IntKind.wrap_i64]; omega
        gi_wp2
        refine ⟨KeepsOthers.setCell _ _ _, Kept.set (Kept.refl _ _) _ _ _ (fun h => by rcases h with h | h <;> omega), ⟨⟨set_other k5 (by simp), set_other k8 (by simp), by rw [World.frozen?_setCell]; exact f8, ?_, by rw [World.frozen?_setCell]; exact f9, ?_⟩, HB.out.setCell (p := ⟨w.heap.size + 1 + 1, 0, none⟩) (by simp; omega) _⟩⟩
        · rw [HPL.out]; refine (set_same k9).trans (by congr 1)
        · rw [HPL.out, HU.out, ← HP.out, H2.out]
      · have hbe : (L.getD xi 0 != xv) = true := by simp; exact fun e => h2 e.symm
        have H2 := Lib.hid h2
        generalize L.getD xi 0 = y at *
        clear h2
        gi_wp2
        refine ⟨KeepsOthers.setCell _ _ _, rfl, fun e => ?_⟩
        rw [HPL.out, HU.out, ← HP.out] at e
        have := List.append_cancel_left e
        simp at this
        exact H2.out this
    · have H1 := Lib.hid h1
      have hbe : ((xi : Int) != (n : Int)) = true := by rw [bne_iff_ne]; omega
      clear h1
      gi_wp2
      refine ⟨KeepsOthers.setCell _ _ _, rfl, fun e => ?_⟩
      rw [HPL.out, HU.out, ← HP.out] at e
      have := List.append_cancel_left e
      simp at this
      exact H1.out this.1
  case done =>
    rintro D ys W hD rfl ⟨⟨k5, k8, f8, k9, f9, _⟩, hB⟩ hK
    rw [upto_len] at k9
    have HB := Lib.hid hB
    have HRW := Lib.hid (ring_below HR.out hB)
    have ha := rat_any X g most L at_ W HRW.out
    have HK := Lib.hid hK
    clear hB hK
    cases hok : atOk L at_ with
    | true =>
      obtain ⟨h0, h1⟩ := of_decide_eq_true hok
      obtain ⟨j, rfl⟩ := Int.eq_ofNat_of_zero_le h0
      rw [atV, if_pos hok, hok, Int.toNat_natCast] at ha
      obtain ⟨ad, hA2, hcells⟩ := HRA.out (by omega)
      have hcw := hcells j (by omega)
      have hcell : W.cell? (ad.add j) = some (.int .i64 (L.getD j 0)) := cell_below HB.out hcw
      have HCW := Lib.hid hcw
      subst hA2
      have HA := Lib.hid ha
      have HCE := Lib.hid hcell
      clear ha hok hcells hcell hcw
      generalize L.getD j 0 = y at *
      gi_wp2_with (refine ⟨trivial, ?_⟩; gi_at_call 32; refine (callsIn_wide.2 HA.out).mono ?_; rintro e w2 ⟨rfl, hb2⟩; have k5b := cell_below hb2 k5; have hcb := cell_below hb2 HCE.out)
      clear k5b hcb HCE HCW
      have HS : Hid (LkS w D (.slice (some ad) L.length cap) L.length w2) := Lib.hid ⟨(hb2.block D (Array.getElem?_eq_some_iff.1 HK.out).1).trans HK.out, cell_below hb2 k5, cell_below hb2 k9, ⟨_, cell_below hb2 k8⟩, (hb2.frozen (p := ⟨w.heap.size + 1, 0, none⟩) (World.block_lt_of_cell? _ _ k8)).trans f8, HB.out.trans (hb2.mono HB.out.size)⟩
      have hws : IntKind.i64.wrap ((most : Int) - (L.length : Int)) = (most : Int) - (L.length : Int) := by rw [IntKind.wrap_i64]; omega
      clear k5 k8 f8 k9 f9 hb2 HA HRW HB HK HRA
      refine wpIn_wide.2 ?_
      go_region_held3 (fun w' => w'.cell? ⟨w.heap.size, 0, none⟩ = some (.slice (some ad) L.length cap) ∧ w'.cell? ⟨w.heap.size + 1 + 1, 0, none⟩ = some (.int .i64 (L.length : Int)) ∧ w'.frozen? ⟨w.heap.size + 1, 0, none⟩ = false ∧ w'.cell? ⟨w.heap.size + 1, 0, none⟩ = some (.bool (rdB ⟨w.heap.size + 1, 0, none⟩ w')) ∧ Hid (LkS w D (.slice (some ad) L.length cap) L.length w')) (first | exact lkS_open (by go_split_ands; assumption) | exact lkS_open (lkS_drew (by go_split_ands; assumption)) | exact lkS_open (lkS_set (by go_split_ands; assumption))) (first
        | (go_at_call 11; refine (lk_len HR.out _ (by go_split_ands; assumption)).mono ?_; rintro e w3 ⟨rfl, hq⟩)
        | (go_at_call 34; refine (lk_room HR.out _ (by go_split_ands; assumption)).mono ?_; rintro e w3 ⟨rfl, hq⟩))
      have h3 := (by go_split_ands; assumption : Hid (LkS w D (.slice (some ad) L.length cap) L.length w3))
      have hF := (by go_split_ands; assumption : Hid (LkS w D (.slice (some ad) L.length cap) L.length (w3.setCell ⟨w.heap.size + 1, 0, none⟩ (.bool true)))).out
      gi_wp2
      obtain ⟨u, hu⟩ := h3.out.c8
      have hc : (w3.setCell ⟨w.heap.size + 1, 0, none⟩ (.bool true)).cell? ⟨w.heap.size + 1, 0, none⟩ = some (.bool true) := set_same hu
      have hc5 := Go.cell_kept hc (grownBy_putObj' _ D (.deferred none)) (fun r e => by cases e; exact ⟨_, hF.dk, rfl⟩)
      refine ⟨by simp, .inl ⟨_, _, rfl, run_takeDeferred hF.dk, ?_⟩⟩
      refine ⟨.bool true, ?_, rfl, hF.low.trans (belowK_b (w := w) (Nat.le_refl _) _ D _ _ (by omega) hF.dk rfl rfl)⟩
      simp [results, Try.f16, go_sem, hc5]
    | false =>
      have hnin : at_ < 0 ∨ (L.length : Int) ≤ at_ := by have := of_decide_eq_false hok; omega
      rw [atV, hok] at ha
      simp only [Bool.false_eq_true, if_false] at ha
      have HA := Lib.hid ha
      clear ha hok
      rcases hnin with hn | hn
      · gi_wp2_with (refine ⟨trivial, ?_⟩; gi_at_call 32; refine (callsIn_wide.2 HA.out).mono ?_; rintro e w2 ⟨rfl, hb2⟩)
        have HS : Hid (LkS w D (.slice A L.length cap) L.length w2) := Lib.hid ⟨(hb2.block D (Array.getElem?_eq_some_iff.1 HK.out).1).trans HK.out, cell_below hb2 k5, cell_below hb2 k9, ⟨_, cell_below hb2 k8⟩, (hb2.frozen (p := ⟨w.heap.size + 1, 0, none⟩) (World.block_lt_of_cell? _ _ k8)).trans f8, HB.out.trans (hb2.mono HB.out.size)⟩
        have hws : IntKind.i64.wrap ((most : Int) - (L.length : Int)) = (most : Int) - (L.length : Int) := by rw [IntKind.wrap_i64]; omega
        clear k5 k8 f8 k9 f9 hb2 HA HRW HB HK HRA
        refine wpIn_wide.2 ?_
        go_region_held3 (fun w' => w'.cell? ⟨w.heap.size, 0, none⟩ = some (.slice A L.length cap) ∧ w'.cell? ⟨w.heap.size + 1 + 1, 0, none⟩ = some (.int .i64 (L.length : Int)) ∧ w'.frozen? ⟨w.heap.size + 1, 0, none⟩ = false ∧ w'.cell? ⟨w.heap.size + 1, 0, none⟩ = some (.bool (rdB ⟨w.heap.size + 1, 0, none⟩ w')) ∧ Hid (LkS w D (.slice A L.length cap) L.length w')) (first | exact lkS_open (by go_split_ands; assumption) | exact lkS_open (lkS_drew (by go_split_ands; assumption)) | exact lkS_open (lkS_set (by go_split_ands; assumption))) (first
          | (go_at_call 11; refine (lk_len HR.out _ (by go_split_ands; assumption)).mono ?_; rintro e w3 ⟨rfl, hq⟩)
          | (go_at_call 34; refine (lk_room HR.out _ (by go_split_ands; assumption)).mono ?_; rintro e w3 ⟨rfl, hq⟩))
        have h3 := (by go_split_ands; assumption : Hid (LkS w D (.slice A L.length cap) L.length w3))
        have hF := (by go_split_ands; assumption : Hid (LkS w D (.slice A L.length cap) L.length (w3.setCell ⟨w.heap.size + 1, 0, none⟩ (.bool true)))).out
        gi_wp2
        obtain ⟨u, hu⟩ := h3.out.c8
        have hc : (w3.setCell ⟨w.heap.size + 1, 0, none⟩ (.bool true)).cell? ⟨w.heap.size + 1, 0, none⟩ = some (.bool true) := set_same hu
        have hc5 := Go.cell_kept hc (grownBy_putObj' _ D (.deferred none)) (fun r e => by cases e; exact ⟨_, hF.dk, rfl⟩)
        refine ⟨by simp, .inl ⟨_, _, rfl, run_takeDeferred hF.dk, ?_⟩⟩
        refine ⟨.bool true, ?_, rfl, hF.low.trans (belowK_b (w := w) (Nat.le_refl _) _ D _ _ (by omega) hF.dk rfl rfl)⟩
        simp [results, Try.f16, go_sem, hc5]
      · have hn0 : 0 ≤ at_ := by omega
        gi_wp2_with (refine ⟨trivial, ?_⟩; gi_at_call 32; refine (callsIn_wide.2 HA.out).mono ?_; rintro e w2 ⟨rfl, hb2⟩; have k5b := cell_below hb2 k5)
        clear k5b
        have HS : Hid (LkS w D (.slice A L.length cap) L.length w2) := Lib.hid ⟨(hb2.block D (Array.getElem?_eq_some_iff.1 HK.out).1).trans HK.out, cell_below hb2 k5, cell_below hb2 k9, ⟨_, cell_below hb2 k8⟩, (hb2.frozen (p := ⟨w.heap.size + 1, 0, none⟩) (World.block_lt_of_cell? _ _ k8)).trans f8, HB.out.trans (hb2.mono HB.out.size)⟩
        have hws : IntKind.i64.wrap ((most : Int) - (L.length : Int)) = (most : Int) - (L.length : Int) := by rw [IntKind.wrap_i64]; omega
        clear k5 k8 f8 k9 f9 hb2 HA HRW HB HK HRA
        refine wpIn_wide.2 ?_
        go_region_held3 (fun w' => w'.cell? ⟨w.heap.size, 0, none⟩ = some (.slice A L.length cap) ∧ w'.cell? ⟨w.heap.size + 1 + 1, 0, none⟩ = some (.int .i64 (L.length : Int)) ∧ w'.frozen? ⟨w.heap.size + 1, 0, none⟩ = false ∧ w'.cell? ⟨w.heap.size + 1, 0, none⟩ = some (.bool (rdB ⟨w.heap.size + 1, 0, none⟩ w')) ∧ Hid (LkS w D (.slice A L.length cap) L.length w')) (first | exact lkS_open (by go_split_ands; assumption) | exact lkS_open (lkS_drew (by go_split_ands; assumption)) | exact lkS_open (lkS_set (by go_split_ands; assumption))) (first
          | (go_at_call 11; refine (lk_len HR.out _ (by go_split_ands; assumption)).mono ?_; rintro e w3 ⟨rfl, hq⟩)
          | (go_at_call 34; refine (lk_room HR.out _ (by go_split_ands; assumption)).mono ?_; rintro e w3 ⟨rfl, hq⟩))
        have h3 := (by go_split_ands; assumption : Hid (LkS w D (.slice A L.length cap) L.length w3))
        have hF := (by go_split_ands; assumption : Hid (LkS w D (.slice A L.length cap) L.length (w3.setCell ⟨w.heap.size + 1, 0, none⟩ (.bool true)))).out
        gi_wp2
        obtain ⟨u, hu⟩ := h3.out.c8
        have hc : (w3.setCell ⟨w.heap.size + 1, 0, none⟩ (.bool true)).cell? ⟨w.heap.size + 1, 0, none⟩ = some (.bool true) := set_same hu
        have hc5 := Go.cell_kept hc (grownBy_putObj' _ D (.deferred none)) (fun r e => by cases e; exact ⟨_, hF.dk, rfl⟩)
        refine ⟨by simp, .inl ⟨_, _, rfl, run_takeDeferred hF.dk, ?_⟩⟩
        refine ⟨.bool true, ?_, rfl, hF.low.trans (belowK_b (w := w) (Nat.le_refl _) _ D _ _ (by omega) hF.dk rfl rfl)⟩
        simp [results, Try.f16, go_sem, hc5]
  case stop =>
    rintro D c pre W hD ⟨k, hk, rfl⟩ ⟨_, h⟩ hK
    exact absurd (by rw [upto_len]) h
end Go.Proofs.Ytfphpbhopfhlcaa
