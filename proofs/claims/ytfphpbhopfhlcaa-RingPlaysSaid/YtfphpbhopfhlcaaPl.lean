/-
  RingPlays: what lies between two calls.
-/
import Derived.Test.YtfphpbhopfhlcaaOpsI
namespace Go.Proofs.Ytfphpbhopfhlcaa
open Go.RowKit Go.Proofs.YtfphpbhopfhlcaaW.PrintWords
set_option linter.unusedVariables false
set_option linter.unusedSimpArgs false
structure PlS (w : World) (X : Nat → Prop) (g most : Nat) (L : List Int) (A : Option Addr) (c : Nat) (W : World) : Prop where
  ring : Ring X W g most L
  sl : SlI W A L.length c L
  own : ∀ ad, A = some ad → X ad.block
  old : ∀ k, k < w.heap.size → X k
  lt : ∀ k, X k → k < W.heap.size
  low : Below w.heap.size w W
/-- What is kept while a call goes: what was kept, and what is new. -/
def widX (X : Nat → Prop) (a b : Nat) : Nat → Prop := fun k => X k ∨ (a ≤ k ∧ k < b)
theorem PlS.wide {w wr W : World} {X : Nat → Prop} {g most : Nat} {L : List Int} {A : Option Addr} {c : Nat} (h : PlS w X g most L A c wr) (hb : Below wr.heap.size wr W) : Ring (widX X wr.heap.size W.heap.size) W g most L :=
  ring_widen h.ring hb (fun k hk => hk.imp id And.left)
theorem PlS.wlt {w wr W : World} {X : Nat → Prop} {g most : Nat} {L : List Int} {A : Option Addr} {c : Nat} (h : PlS w X g most L A c wr) (hb : Below wr.heap.size wr W) : ∀ k, widX X wr.heap.size W.heap.size k → k < W.heap.size := fun k hk => by
  have := hb.size
  rcases hk with h1 | h1
  · have := h.lt k h1; omega
  · exact h1.2
theorem slI_kept {X : Nat → Prop} {w w' : World} {A : Option Addr} {n c : Nat} {xs : List Int} (h : SlI w A n c xs) (hk : Kept X w w') (hA : ∀ ad, A = some ad → X ad.block) : SlI w' A n c xs :=
  ⟨⟨h.1.1, h.1.2.1, fun hp => by
    obtain ⟨ad, e, hc⟩ := h.1.2.2 hp
    exact ⟨ad, e, fun j hj => kept_cell hk (by rw [add_block]; exact hA ad e) (hc j hj)⟩⟩, h.2⟩
theorem PlS.next {w wr W W' : World} {X : Nat → Prop} {g g' most : Nat} {L L' : List Int} {A A' : Option Addr} {c c' : Nat} (h : PlS w X g most L A c wr) (hb : Below wr.heap.size wr W)
    (hsl : SlI W A' L'.length c' L') (hown : ∀ ad, A' = some ad → (wr.heap.size ≤ ad.block ∧ ad.block < W.heap.size) ∨ A = some ad)
    (hr : Ring (widX X wr.heap.size W.heap.size) W' g' most L') (hk : Kept (widX X wr.heap.size W.heap.size) W W') : PlS w (widX X wr.heap.size W.heap.size) g' most L' A' c' W' := by
  have ho : ∀ ad, A' = some ad → widX X wr.heap.size W.heap.size ad.block := fun ad e => by
    rcases hown ad e with h1 | h1
    · exact .inr h1
    · exact .inl (h.own ad h1)
  have hlow := h.low.trans (hb.mono h.low.size)
  refine ⟨hr, slI_kept hsl hk ho, ho, fun k hk => .inl (h.old k hk), fun k hk' => Nat.lt_of_lt_of_le (h.wlt hb k hk') hk.size, ?_⟩
  exact hlow.trans (hk.below (fun k hk => .inl (h.old k hk)) hlow.size)
theorem PlS.below {w wr W : World} {X : Nat → Prop} {g most : Nat} {L : List Int} {A : Option Addr} {c : Nat} (h : PlS w X g most L A c wr) (hb : Below wr.heap.size wr W) : PlS w X g most L A c W :=
  ⟨ring_below h.ring hb, slI_below h.sl hb, h.own, h.old, fun k hk => Nat.lt_of_lt_of_le (h.lt k hk) hb.size, h.low.trans (hb.mono h.low.size)⟩
/-- It goes on as a clone. -/
theorem clone_next {w wr W1 w2 w5 : World} {X : Nat → Prop} {g gc most : Nat} {L : List Int} {A : Option Addr} {c : Nat} (h : PlS w X g most L A c wr) (hb1 : Below wr.heap.size wr W1) (hsz : W1.heap.size = wr.heap.size + 1)
    (hb2 : Below W1.heap.size W1 w2) (hrc : Ring (fun k => k < W1.heap.size) w2 gc most L) (hk : Kept (widX X wr.heap.size w2.heap.size) w2 w5) : PlS w (fun k => k < W1.heap.size) gc most L A c w5 := by
  have hb12 := hb1.trans (hb2.mono hb1.size)
  have hlow := h.low.trans (hb12.mono h.low.size)
  have hs1 := h.low.size
  have hs2 := hb2.size
  have hs5 := hk.size
  refine ⟨ring_kept hrc (fun k hk2 hn => hk.block k (.inr ⟨by omega, hk2⟩) hk2), slI_kept (slI_below h.sl hb12) hk (fun ad e => .inl (h.own ad e)), fun ad e => ?_, fun k hk' => by omega, fun k hk' => by omega, hlow.trans (hk.below (fun k hk' => .inl (h.old k hk')) hlow.size)⟩
  have := h.lt _ (h.own ad e)
  show ad.block < W1.heap.size
  omega
end Go.Proofs.Ytfphpbhopfhlcaa
