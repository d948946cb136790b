/-
  addr: the bytes, the order.
-/
import Derived.Test.YtnkbbmfhdabbkaaDoorT
import Derived.Test.YtnkbbmfhdabbkaaDoorQPut
import Derived.Test.YtnkbbmfhdabbkaaDoorQCmp
namespace Go.Proofs.YtnkbbmfhdabbkaaDoor
open Go.RowKit Go.Proofs.YtnkbbmfhdabbkaaDoorW.PrintWords
set_option linter.unusedVariables false
set_option linter.unusedSimpArgs false
set_option maxRecDepth 100000
/-- The six bytes. -/
def bL (h p : Nat) : List Int := [(hb h 0 : Nat), (hb h 1 : Nat), (hb h 2 : Nat), (hb h 3 : Nat), ((p / 256 % 256 : Nat) : Int), ((p % 256 : Nat) : Int)]
theorem put4 (x : Int) : PA.octet_Put.f 9 [] x 4 = some [shr .u64 x 24 % 256, shr .u64 x 16 % 256, shr .u64 x 8 % 256, shr .u64 x 0 % 256] := by kernel_rfl
theorem put2 (a b c d x : Int) : PA.octet_Put.f 9 [a, b, c, d] x 2 = some [a, b, c, d, shr .u64 x 8 % 256, shr .u64 x 0 % 256] := by kernel_rfl
theorem rput4 (x : Int) : PA.signpostref01_Put.f 9 [] x 4 = some [shr .u64 x 24 % 256, shr .u64 x 16 % 256, shr .u64 x 8 % 256, shr .u64 x 0 % 256] := by kernel_rfl
theorem rput2 (a b c d x : Int) : PA.signpostref01_Put.f 9 [a, b, c, d] x 2 = some [a, b, c, d, shr .u64 x 8 % 256, shr .u64 x 0 % 256] := by kernel_rfl
theorem shr_nat (x m : Nat) (hm : m < 64) : shr .u64 (x : Int) (m : Int) % 256 = ((x / 2 ^ m % 256 : Nat) : Int) := by
  have e : (x : Int) / 2 ^ m = ((x / 2 ^ m : Nat) : Int) := by rw [Int.natCast_ediv, Int.natCast_pow]; rfl
  have : shr .u64 (x : Int) (m : Int) = (x : Int) / 2 ^ m := by
    unfold shr
    rw [Int.toNat_natCast, Nat.min_eq_left (show m ≤ IntKind.u64.bits from Nat.le_of_lt hm)]
  rw [this, e]
  omega
theorem wrap_u64 (x : Nat) (hx : x < 4294967296) : IntKind.u64.wrap (x : Int) = (x : Int) := by
  rw [IntKind.wrap_u64]; omega
theorem shr4 (h : Nat) : [shr .u64 (h : Int) 24 % 256, shr .u64 (h : Int) 16 % 256, shr .u64 (h : Int) 8 % 256, shr .u64 (h : Int) 0 % 256] = [((hb h 0 : Nat) : Int), ((hb h 1 : Nat) : Int), ((hb h 2 : Nat) : Int), ((hb h 3 : Nat) : Int)] := by
  have h0 : shr .u64 (h : Int) 24 % 256 = ((hb h 0 : Nat) : Int) := shr_nat h 24 (by decide)
  have h1 : shr .u64 (h : Int) 16 % 256 = ((hb h 1 : Nat) : Int) := shr_nat h 16 (by decide)
  have h2 : shr .u64 (h : Int) 8 % 256 = ((hb h 2 : Nat) : Int) := shr_nat h 8 (by decide)
  have h3 : shr .u64 (h : Int) 0 % 256 = ((hb h 3 : Nat) : Int) := shr_nat h 0 (by decide)
  rw [h0, h1, h2, h3]
theorem shr2 (p : Nat) : shr .u64 (p : Int) 8 % 256 = ((p / 256 % 256 : Nat) : Int) ∧ shr .u64 (p : Int) 0 % 256 = ((p % 256 : Nat) : Int) :=
  ⟨shr_nat p 8 (by decide), by have := shr_nat p 0 (by decide); rwa [Nat.pow_zero, Nat.div_one] at this⟩
theorem abytes_f (h p : Nat) (hh : h < 4294967296) (hp : p < 65536) : PA.addr_Bytes.f 9 (h : Int) (p : Int) = some (bL h p) := by
  unfold PA.addr_Bytes.f
  rw [wrap_u64 h hh, wrap_u64 p (by omega), put4, Option.bind_some, put2, Option.bind_some, (shr2 p).1, (shr2 p).2]
  have := shr4 h
  simp only [List.cons.injEq, and_true] at this
  rw [this.1, this.2.1, this.2.2.1, this.2.2.2]
  rfl
theorem rbytes_f (h p : Nat) (hh : h < 4294967296) (hp : p < 65536) : PA.signpostref06_Bytes.f 9 (h : Int) (p : Int) = some (bL h p) := by
  unfold PA.signpostref06_Bytes.f
  rw [wrap_u64 h hh, wrap_u64 p (by omega), rput4, Option.bind_some, rput2, Option.bind_some, (shr2 p).1, (shr2 p).2]
  have := shr4 h
  simp only [List.cons.injEq, and_true] at this
  rw [this.1, this.2.1, this.2.2.1, this.2.2.2]
  rfl
/-- What both Bytes tell. -/
def Own6 (h p : Nat) (w : World) (e : Ending) (w' : World) : Prop := ∃ A c, e = .returned (.slice A 6 c) ∧ 6 ≤ c ∧ w'.ownsRow w.heap.size 5 1 (.slice A 6 c) 6 (nums .u8 (bL h p)) ∧ Below w.heap.size w w'
theorem own6 {h p : Nat} {w w' : World} {e : Ending} (H : ∃ v0_ : Value, e = .returned (v0_) ∧ Kd.R (Kd.int .u8) 5 w' w.heap.size (fun _ => True) v0_ (bL h p) ∧ Below w.heap.size w w') : Own6 h p w e w' := by
  obtain ⟨v, rfl, hr, hb⟩ := H
  have ho : w'.ownsRow w.heap.size 5 1 v 6 (nums .u8 (bL h p)) := Kd.own_of_R hr
  obtain ⟨A, c, rfl⟩ := own_slice ho
  exact ⟨A, c, rfl, (Kd.R_reads' hr).2.1, ho, hb⟩
theorem abytes (h p : Nat) (w : World) (hh : h < 4294967296) (hp : p < 65536) : Calls Tryd.prog 10 #[.agg #[.int .u32 (h : Int), .int .u16 (p : Int)]] w (Own6 h p w) :=
  (PA.addr_Bytes.calls 9 _ _ _ w (abytes_f h p hh hp)).mono fun _ _ H => own6 H
theorem rbytes (h p : Nat) (w : World) (hh : h < 4294967296) (hp : p < 65536) : Calls Tryd.prog 11 #[.agg #[.int .u32 (h : Int), .int .u16 (p : Int)]] w (Own6 h p w) :=
  (PA.signpostref06_Bytes.calls 9 _ _ _ w (rbytes_f h p hh hp)).mono fun _ _ H => own6 H
/-- The order. -/
def cmpL : List Int → List Int → Int
  | x :: xs, y :: ys => if x < y then -1 else if x > y then 1 else cmpL xs ys
  | _, _ => 0
theorem cmp6 (a0 a1 a2 a3 a4 a5 b0 b1 b2 b3 b4 b5 : Int) : PA.signpostref06_Cmp.l0 9 [a0, a1, a2, a3, a4, a5] [b0, b1, b2, b3, b4, b5] 0 = some (cmpL [a0, a1, a2, a3, a4, a5] [b0, b1, b2, b3, b4, b5]) := by
  have e : PA.signpostref06_Cmp.l0 9 [a0, a1, a2, a3, a4, a5] [b0, b1, b2, b3, b4, b5] 0 = (if a0 < b0 then some (-1) else if a0 > b0 then some 1 else if a1 < b1 then some (-1) else if a1 > b1 then some 1 else if a2 < b2 then some (-1) else if a2 > b2 then some 1 else if a3 < b3 then some (-1) else if a3 > b3 then some 1 else if a4 < b4 then some (-1) else if a4 > b4 then some 1 else if a5 < b5 then some (-1) else if a5 > b5 then some 1 else some 0) := by kernel_rfl
  rw [e]
  simp only [cmpL, apply_ite some]
theorem rcmp_f (h p h2 p2 : Nat) (hh : h < 4294967296) (hp : p < 65536) (hh2 : h2 < 4294967296) (hp2 : p2 < 65536) : PA.signpostref06_Cmp.f 9 (h : Int) (p : Int) (h2 : Int) (p2 : Int) = some (cmpL (bL h p) (bL h2 p2)) := by
  unfold PA.signpostref06_Cmp.f
  rw [rbytes_f h p hh hp, rbytes_f h2 p2 hh2 hp2, Option.bind_some, Option.bind_some]
  exact cmp6 ..
theorem rcmp (h p h2 p2 : Nat) (w : World) (hh : h < 4294967296) (hp : p < 65536) (hh2 : h2 < 4294967296) (hp2 : p2 < 65536) :
    Calls Tryd.prog 13 #[.agg #[.int .u32 (h : Int), .int .u16 (p : Int)], .agg #[.int .u32 (h2 : Int), .int .u16 (p2 : Int)]] w fun e w' => e = .returned (.int .i64 (cmpL (bL h p) (bL h2 p2))) ∧ Below w.heap.size w w' :=
  PA.signpostref06_Cmp.calls 9 _ _ _ _ _ w (rcmp_f h p h2 p2 hh hp hh2 hp2)
end Go.Proofs.YtnkbbmfhdabbkaaDoor
