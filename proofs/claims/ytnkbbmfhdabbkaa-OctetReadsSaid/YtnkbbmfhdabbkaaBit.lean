/-
  Plain facts on the bits of a header's flags.
-/
import Derived.Laws.BitsAllLaws
import Derived.IntWalk
namespace Go.Proofs.Ytnkbbmfhdabbkaa
open Go.RowKit

def bitB (f m : Int) : Bool := f / m % 2 == 1
def flagsOf (f c : Int) (cut : Bool) : Int := 33792 + f / 2048 % 16 * 2048 + f / 256 % 2 * 256 + c + (if cut = true then 512 else 0)

theorem and_shl (f m k : Nat) : f &&& (m <<< k) = ((f >>> k) &&& m) <<< k := by
  apply Nat.eq_of_testBit_eq
  intro i
  simp only [Nat.testBit_and, Nat.testBit_shiftLeft, Nat.testBit_shiftRight]
  by_cases h : k ≤ i
  · simp [h, show k + (i - k) = i from by omega]
  · simp [h]
theorem and_bit_nat (x i : Nat) : x &&& 2 ^ i = x / 2 ^ i % 2 * 2 ^ i := by
  have h := and_shl x 1 i
  rw [Nat.shiftLeft_eq, Nat.shiftLeft_eq, Nat.one_mul, Nat.shiftRight_eq_div_pow, Nat.and_one_is_mod] at h
  exact h
theorem and_bit (x : Int) (i : Nat) (m : Int) (hm : m = ((2 ^ i : Nat) : Int)) (hi : 2 ^ i < 65536) (h0 : 0 ≤ x) (h1 : x ≤ 65535) : (Go.bits .and .u16 x m != 0) = bitB x m := by
  subst hm
  obtain ⟨n, rfl⟩ := Int.eq_ofNat_of_zero_le h0
  rw [u16_and_nat n (2 ^ i) (by omega) hi, and_bit_nat]
  unfold bitB
  have hp : 0 < 2 ^ i := Nat.two_pow_pos i
  have h : n / 2 ^ i % 2 < 2 := Nat.mod_lt _ (by decide)
  have e : ((n : Int) / ((2 ^ i : Nat) : Int) % 2) = ((n / 2 ^ i % 2 : Nat) : Int) := by omega
  rw [e]
  rcases Nat.lt_or_ge (n / 2 ^ i % 2) 1 with h2 | h2
  · have h3 : n / 2 ^ i % 2 = 0 := by omega
    rw [h3]; simp
  · have h3 : n / 2 ^ i % 2 = 1 := by omega
    rw [h3]
    have h4 : ((1 * 2 ^ i : Nat) : Int) ≠ 0 := by omega
    rw [bne_iff_ne.2 h4]; rfl
theorem pow16 : (2 : Int) ^ 16 = 65536 := by decide
theorem wraps_u16 (n : Int) (h : 0 ≤ n) (h' : n < 2 ^ 16) : IntKind.u16.wrap n = n := IntWalk.u16_in n ⟨h, by rw [pow16] at h'; omega⟩
theorem and_15 (x : Int) (h0 : 0 ≤ x) (h1 : x ≤ 65535) : Go.bits .and .u16 x 15 = x % 16 :=
  bits_mask .u16 16 (by decide) wraps_u16 4 (by decide) x h0 (by rw [pow16]; omega)
theorem and_30976_nat (f : Nat) (h : f < 65536) : f &&& 30976 = f / 2048 % 16 * 2048 + f / 256 % 2 * 256 := by
  have e : (30976 : Nat) = 121 <<< 8 := by decide
  rw [e, and_shl, Nat.shiftRight_eq_div_pow, Nat.shiftLeft_eq]
  have hk : ∀ x, x < 256 → x &&& 121 = x / 8 % 16 * 8 + x % 2 := by decide +kernel
  rw [hk (f / 2 ^ 8) (by omega)]
  omega
theorem and_30976 (f : Int) (h0 : 0 ≤ f) (h1 : f ≤ 65535) : Go.bits .and .u16 f 30976 = f / 2048 % 16 * 2048 + f / 256 % 2 * 256 := by
  obtain ⟨n, rfl⟩ := Int.eq_ofNat_of_zero_le h0
  rw [show (30976 : Int) = ((30976 : Nat) : Int) from rfl, u16_and_nat n 30976 (by omega) (by decide), and_30976_nat n (by omega)]
  omega
theorem or_1 (x y : Int) (hx0 : 0 ≤ x) (hx : x < 16) (hy0 : 0 ≤ y) (hy : y < 2) : Go.bits .or .u16 33792 (x * 2048 + y * 256) = 33792 + x * 2048 + y * 256 := by
  obtain ⟨a, rfl⟩ := Int.eq_ofNat_of_zero_le hx0
  obtain ⟨b, rfl⟩ := Int.eq_ofNat_of_zero_le hy0
  have hk : ∀ a, a < 16 → ∀ b, b < 2 → 33792 ||| (a * 2048 + b * 256) = 33792 + a * 2048 + b * 256 := by decide +kernel
  have h := u16_or_nat 33792 (a * 2048 + b * 256) (by decide) (by omega)
  rw [hk a (by omega) b (by omega)] at h
  have e1 : ((a * 2048 + b * 256 : Nat) : Int) = (a : Int) * 2048 + (b : Int) * 256 := by omega
  have e2 : ((33792 + a * 2048 + b * 256 : Nat) : Int) = 33792 + (a : Int) * 2048 + (b : Int) * 256 := by omega
  rw [e1, e2] at h
  exact h
theorem or_2 (x y c : Int) (hx0 : 0 ≤ x) (hx : x < 16) (hy0 : 0 ≤ y) (hy : y < 2) (hc0 : 0 ≤ c) (hc : c < 16) : Go.bits .or .u16 (33792 + x * 2048 + y * 256) c = 33792 + x * 2048 + y * 256 + c := by
  obtain ⟨a, rfl⟩ := Int.eq_ofNat_of_zero_le hx0
  obtain ⟨b, rfl⟩ := Int.eq_ofNat_of_zero_le hy0
  obtain ⟨d, rfl⟩ := Int.eq_ofNat_of_zero_le hc0
  have hk : ∀ a, a < 16 → ∀ b, b < 2 → ∀ d, d < 16 → (33792 + a * 2048 + b * 256) ||| d = 33792 + a * 2048 + b * 256 + d := by decide +kernel
  have h := u16_or_nat (33792 + a * 2048 + b * 256) d (by omega) (by omega)
  rw [hk a (by omega) b (by omega) d (by omega)] at h
  have e1 : ((33792 + a * 2048 + b * 256 : Nat) : Int) = 33792 + (a : Int) * 2048 + (b : Int) * 256 := by omega
  have e2 : ((33792 + a * 2048 + b * 256 + d : Nat) : Int) = 33792 + (a : Int) * 2048 + (b : Int) * 256 + (d : Int) := by omega
  rw [e1, e2] at h
  exact h
theorem or_3 (x y c : Int) (hx0 : 0 ≤ x) (hx : x < 16) (hy0 : 0 ≤ y) (hy : y < 2) (hc0 : 0 ≤ c) (hc : c < 16) : Go.bits .or .u16 (33792 + x * 2048 + y * 256 + c) 512 = 33792 + x * 2048 + y * 256 + c + 512 := by
  obtain ⟨a, rfl⟩ := Int.eq_ofNat_of_zero_le hx0
  obtain ⟨b, rfl⟩ := Int.eq_ofNat_of_zero_le hy0
  obtain ⟨d, rfl⟩ := Int.eq_ofNat_of_zero_le hc0
  have hk : ∀ a, a < 16 → ∀ b, b < 2 → ∀ d, d < 16 → (33792 + a * 2048 + b * 256 + d) ||| 512 = 33792 + a * 2048 + b * 256 + d + 512 := by decide +kernel
  have h := u16_or_nat (33792 + a * 2048 + b * 256 + d) 512 (by omega) (by omega)
  rw [hk a (by omega) b (by omega) d (by omega)] at h
  have e1 : ((33792 + a * 2048 + b * 256 + d : Nat) : Int) = 33792 + (a : Int) * 2048 + (b : Int) * 256 + (d : Int) := by omega
  have e2 : ((33792 + a * 2048 + b * 256 + d + 512 : Nat) : Int) = 33792 + (a : Int) * 2048 + (b : Int) * 256 + (d : Int) + 512 := by omega
  rw [e1, e2] at h
  exact h
theorem i64_and15 (x : Int) : Go.bits .and .i64 x 15 = x % 16 := by
  show IntKind.i64.wrap ((BitVec.ofInt 64 x &&& BitVec.ofInt 64 15).toNat : Int) = _
  have e : (BitVec.ofInt 64 15).toNat = 2 ^ 4 - 1 := by decide
  rw [BitVec.toNat_and, e, Nat.and_two_pow_sub_one_eq_mod, BitVec.toNat_ofInt]
  have h : ((2 ^ 64 : Nat) : Int) = 18446744073709551616 := by decide
  rw [h, IntWalk.i64_in _ (by omega)]
  omega
end Go.Proofs.Ytnkbbmfhdabbkaa
