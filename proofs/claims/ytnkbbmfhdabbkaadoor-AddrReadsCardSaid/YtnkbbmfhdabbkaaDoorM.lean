/-
  Plain law: bytes and back; the order; texts differ.
-/
import Derived.Test.YtnkbbmfhdabbkaaDoorN5
import Derived.Test.YtnkbbmfhdabbkaaDoorR
namespace Go.Proofs.YtnkbbmfhdabbkaaDoor
open Go.RowKit Go.Proofs.YtnkbbmfhdabbkaaDoorW.PrintWords
set_option linter.unusedVariables false
set_option linter.unusedSimpArgs false
set_option maxRecDepth 10000
theorem bL_bytes (h p : Nat) : Bytes (bL h p) := fun x hx => by have := bL_byte h p x hx; omega
theorem rd_bL (h p : Nat) (hh : h < 4294967296) (hp : p < 65536) : rdH (bL h p) = h ∧ rdP (bL h p) = p := by
  have hs := hb_sum h hh
  unfold rdH rdP bL num
  simp only [List.take_succ_cons, List.take_zero, List.drop_succ_cons, List.drop_zero, List.foldl_cons, List.foldl_nil]
  generalize hb h 0 = n0 at *
  generalize hb h 1 = n1 at *
  generalize hb h 2 = n2 at *
  generalize hb h 3 = n3 at *
  constructor <;> omega
theorem rd_ok (h p : Nat) (hh : h < 4294967296) (hp : p < 65536) : rdRes (bL h p) = if gd h p = true then adr h p 0 else adr 0 0 10 := by
  obtain ⟨e1, e2⟩ := rd_bL h p hh hp
  have e3 : rdOk (bL h p) = gd h p := by unfold rdOk; rw [e1, e2]; simp [bL]
  unfold rdRes
  rw [e1, e2, e3]
theorem rd_sound (l : List Int) (hB : Bytes l) : rdRes l = adr 0 0 10 ∨ ∃ h p : Nat, h < 4294967296 ∧ p < 65536 ∧ gd h p = true ∧ l = bL h p ∧ rdRes l = adr h p 0 := by
  by_cases hok : rdOk l = true
  · right
    have h6 : l.length = 6 := by unfold rdOk at hok; simp at hok; exact hok.1
    have hg : gd (rdH l) (rdP l) = true := by unfold rdOk at hok; simp at hok; exact hok.2
    obtain ⟨a, b, c, d, e, f, rfl⟩ : ∃ a b c d e f, l = [a, b, c, d, e, f] := by
      rcases l with _ | ⟨a, _ | ⟨b, _ | ⟨c, _ | ⟨d, _ | ⟨e, _ | ⟨f, _ | ⟨g, t⟩⟩⟩⟩⟩⟩⟩ <;> simp at h6
      exact ⟨a, b, c, d, e, f, rfl⟩
    have ha := hB a (by simp)
    have hb' := hB b (by simp)
    have hc := hB c (by simp)
    have hd := hB d (by simp)
    have he := hB e (by simp)
    have hf := hB f (by simp)
    have eH : rdH [a, b, c, d, e, f] = ((a.toNat * 256 + b.toNat) * 256 + c.toNat) * 256 + d.toNat := by
      unfold rdH num
      simp only [List.take_succ_cons, List.take_zero, List.foldl_cons, List.foldl_nil]
      omega
    have eP : rdP [a, b, c, d, e, f] = e.toNat * 256 + f.toNat := by
      unfold rdP num
      simp only [List.take_succ_cons, List.take_zero, List.drop_succ_cons, List.drop_zero, List.foldl_cons, List.foldl_nil]
      omega
    obtain ⟨g0, g1, g2, g3⟩ := hb_of a.toNat b.toNat c.toNat d.toNat (by omega) (by omega) (by omega) (by omega)
    refine ⟨_, _, ?_, ?_, hg, ?_, by unfold rdRes; rw [if_pos hok]⟩
    · rw [eH]; omega
    · rw [eP]; omega
    · unfold bL
      rw [eH, eP, g0, g1, g2, g3]
      simp only [List.cons.injEq, and_true]
      refine ⟨?_, ?_, ?_, ?_, ?_, ?_⟩ <;> omega
  · left
    unfold rdRes
    rw [if_neg hok]
/-- Two addresses are one. -/
def same (h p h2 p2 : Nat) : Bool := decide (h = h2 ∧ p = p2)
theorem bL_inj {h p h2 p2 : Nat} (hh : h < 4294967296) (hp : p < 65536) (hh2 : h2 < 4294967296) (hp2 : p2 < 65536) (e : bL h p = bL h2 p2) : h = h2 ∧ p = p2 := by
  have h1 := rd_bL h p hh hp
  have h3 := rd_bL h2 p2 hh2 hp2
  rw [e] at h1
  exact ⟨h1.1.symm.trans h3.1, h1.2.symm.trans h3.2⟩
theorem cmpL_zero : ∀ (l m : List Int), l.length = m.length → (cmpL l m = 0 ↔ l = m)
  | [], [], _ => by simp [cmpL]
  | [], _ :: _, h => by simp at h
  | _ :: _, [], h => by simp at h
  | x :: l, y :: m, h => by
    have ih := cmpL_zero l m (by simpa using h)
    unfold cmpL
    by_cases h1 : x < y
    · rw [if_pos h1]; constructor
      · intro e; exact absurd e (by decide)
      · intro e; injection e with e1 e2; omega
    · rw [if_neg h1]
      by_cases h2 : x > y
      · rw [if_pos h2]; constructor
        · intro e; exact absurd e (by decide)
        · intro e; injection e with e1 e2; omega
      · rw [if_neg h2, ih]
        have : x = y := by omega
        subst this
        simp
theorem cmp_same (h p h2 p2 : Nat) (hh : h < 4294967296) (hp : p < 65536) (hh2 : h2 < 4294967296) (hp2 : p2 < 65536) : decide (cmpL (bL h p) (bL h2 p2) = 0) = same h p h2 p2 := by
  unfold same
  refine decide_eq_decide.2 ((cmpL_zero _ _ (by simp [bL])).trans ⟨bL_inj hh hp hh2 hp2, ?_⟩)
  rintro ⟨rfl, rfl⟩; rfl
theorem str_inj {a b : List UInt8} (h : str a = str b) : a = b := by
  have := congrArg (fun x : ByteArray => x.data.toList) h
  simpa [str] using this
theorem dec_split {n m : Nat} {c : UInt8} {R S : List UInt8} (hn : n < 256) (hm : m < 256) (hc : c.toNat = 46 ∨ c.toNat = 58) (e : Lib.decDigits n ++ c :: R = Lib.decDigits m ++ c :: S) : n = m ∧ R = S := by
  have hs : c.toNat < 48 ∨ 57 < c.toNat := by omega
  have h1 := numR_ok 255 c.toNat n (c :: R) hs (by omega) ⟨fun _ => ⟨c, R, rfl, rfl⟩, fun h => by omega⟩
  have h2 := numR_ok 255 c.toNat m (c :: S) hs (by omega) ⟨fun _ => ⟨c, S, rfl, rfl⟩, fun h => by omega⟩
  rw [e, h2] at h1
  simp only [Prod.mk.injEq, List.drop_succ_cons, List.drop_zero, and_true] at h1
  exact ⟨by have := h1.1; omega, (str_inj h1.2).symm⟩
theorem dec_inj {n m : Nat} (e : Lib.decDigits n = Lib.decDigits m) : n = m := by
  have h1 := (dec_props n).2.2.1
  have h2 := (dec_props m).2.2.1
  rw [e, h2] at h1
  exact h1.symm
theorem aText_inj {h p h2 p2 : Nat} (hh : h < 4294967296) (hh2 : h2 < 4294967296) (e : aText h p = aText h2 p2) : h = h2 ∧ p = p2 := by
  have s1 := hb_sum h hh
  have s2 := hb_sum h2 hh2
  rw [aText_eq, aText_eq] at e
  obtain ⟨e0, e⟩ := dec_split (hb_lt _ _) (hb_lt _ _) (.inl rfl) e
  obtain ⟨e1, e⟩ := dec_split (hb_lt _ _) (hb_lt _ _) (.inl rfl) e
  obtain ⟨e2, e⟩ := dec_split (hb_lt _ _) (hb_lt _ _) (.inl rfl) e
  obtain ⟨e3, e⟩ := dec_split (hb_lt _ _) (hb_lt _ _) (.inr rfl) e
  rw [e0, e1, e2, e3] at s1
  exact ⟨s1.symm.trans s2, dec_inj e⟩
theorem text_same (h p h2 p2 : Nat) (hh : h < 4294967296) (hh2 : h2 < 4294967296) : decide (str (aText h p) = str (aText h2 p2)) = same h p h2 p2 := by
  unfold same
  refine decide_eq_decide.2 ⟨fun e => aText_inj hh hh2 (str_inj e), ?_⟩
  rintro ⟨rfl, rfl⟩; rfl
end Go.Proofs.YtnkbbmfhdabbkaaDoor
