/-
  addr.Parse and addr.Read, as the laws meet them.
-/
import Derived.Test.YtnkbbmfhdabbkaaDoorM
namespace Go.Proofs.YtnkbbmfhdabbkaaDoor
open Go.RowKit Go.Proofs.YtnkbbmfhdabbkaaDoorW.PrintWords
set_option linter.unusedVariables false
set_option linter.unusedSimpArgs false
set_option maxRecDepth 10000
theorem aText_len (h p : Nat) (hp : p < 65536) : (aText h p).length ≤ 200 := by
  have h1 := preT_len h 4
  have h2 := dig_len p (by omega)
  unfold aText
  rw [List.length_append]
  omega
theorem aparse_ok (h p : Nat) (w : World) (hh : h < 4294967296) (hp : p < 65536) :
    Calls Tryd.prog 15 #[.string (str (aText h p))] w fun e w' => e = .returned (if gd h p = true then adr h p 0 else adr 0 0 10) ∧ Below w.heap.size w w' := by
  have hl := aText_len h p hp
  have hf := parse_ok h p 1000 hh hp (by omega) (by omega)
  by_cases hg : gd h p = true
  · rw [if_pos hg] at hf ⊢
    exact PA.addr_Parse.calls 1000 _ _ _ _ w hf
  · rw [if_neg hg] at hf ⊢
    exact PA.addr_Parse.calls 1000 _ _ _ _ w hf
theorem aparse_any (s : ByteArray) (hs : s.size ≤ 1000) : ∃ r, (∀ w, Calls Tryd.prog 15 #[.string s] w fun e w' => e = .returned r ∧ Below w.heap.size w w') ∧ (r = adr 0 0 10 ∨ ∃ h p : Nat, h < 4294967296 ∧ p < 65536 ∧ gd h p = true ∧ s = str (aText h p) ∧ r = adr h p 0) := by
  obtain ⟨L, rfl⟩ : ∃ L, s = str L := ⟨s.data.toList, by apply ByteArray.ext; simp [str]⟩
  rw [str_size] at hs
  rcases parse_sound 3000 L (by omega) (by omega) with hf | ⟨h, p, hh, hp, hg, rfl, hf⟩
  · exact ⟨adr 0 0 10, fun w => PA.addr_Parse.calls 3000 _ _ _ _ w hf, .inl rfl⟩
  · exact ⟨adr h p 0, fun w => PA.addr_Parse.calls 3000 _ _ _ _ w hf, .inr ⟨h, p, hh, hp, hg, rfl, rfl⟩⟩
end Go.Proofs.YtnkbbmfhdabbkaaDoor
