/- Words of 64 bits, as natural numbers: their bits, counted as bits.OnesCount64 counts them, and taken off from below. -/
import Derived.Lib.TrailingZeros
namespace Go.Proofs.YtlfoehjjgbnkaaaDoor.Pu
set_option linter.unusedVariables false
set_option linter.unusedSimpArgs false
open Go.Proofs
theorem land_split (p r q s : Nat) (hp : p < 256) (hr : r < 256) : (p + 256 * q) &&& (r + 256 * s) = (p &&& r) + 256 * (q &&& s) := by
  have hpr : p &&& r < 2 ^ 8 := Nat.and_lt_two_pow _ (by omega)
  apply Nat.eq_of_testBit_eq
  intro i
  have e1 := Nat.testBit_two_pow_mul_add q (i := 8) (b := p) (by omega) i
  have e2 := Nat.testBit_two_pow_mul_add s (i := 8) (b := r) (by omega) i
  have e3 := Nat.testBit_two_pow_mul_add (q &&& s) (i := 8) (b := p &&& r) hpr i
  rw [show 2 ^ 8 = 256 from rfl] at e1 e2 e3
  rw [Nat.testBit_and, Nat.add_comm p, Nat.add_comm r, Nat.add_comm (p &&& r), e1, e2, e3]
  split <;> rw [Nat.testBit_and]
/-- The number of bits set among the lowest n. -/
def popN : Nat → Nat → Nat
  | 0, _ => 0
  | n + 1, x => x % 2 + popN n (x / 2)
theorem popN_add (m : Nat) : ∀ n x, popN (m + n) x = popN m x + popN n (x / 2 ^ m) := by
  induction m with
  | zero => intro n x; simp [popN]
  | succ m ih =>
    intro n x
    rw [show m + 1 + n = (m + n) + 1 by omega, popN, popN, ih, Nat.div_div_eq_div_mul, Nat.pow_succ, Nat.mul_comm 2]
    omega
theorem popN_mod (m : Nat) : ∀ x y, popN m (x + 2 ^ m * y) = popN m x := by
  induction m with
  | zero => intro x y; rfl
  | succ m ih =>
    intro x y
    rw [popN, popN, Nat.pow_succ]
    have h1 : (x + 2 ^ m * 2 * y) % 2 = x % 2 := by rw [Nat.mul_comm (2 ^ m), Nat.mul_assoc]; omega
    have h2 : (x + 2 ^ m * 2 * y) / 2 = x / 2 + 2 ^ m * y := by rw [Nat.mul_comm (2 ^ m), Nat.mul_assoc]; omega
    rw [h1, h2, ih]
/-- Step by step what OnesCount64 does to one byte. -/
def s1 (a : Nat) : Nat := ((a / 2) &&& 85) + (a &&& 85)
def s2 (a : Nat) : Nat := ((a / 4) &&& 51) + (a &&& 51)
def s3 (a : Nat) : Nat := (a / 16 + a) &&& 15
theorem s1_byte : ∀ a, a < 256 → ∀ c, c < 2 → ((a / 2 + 128 * c) &&& 85) = ((a / 2) &&& 85) := by decide +kernel
theorem s2_byte : ∀ a, a < 256 → ∀ c, c < 4 → ((a / 4 + 64 * c) &&& 51) = ((a / 4) &&& 51) := by decide +kernel
theorem s1_lt : ∀ a, a < 256 → s1 a < 256 := by decide +kernel
theorem s2_lt : ∀ a, a < 256 → s2 (s1 a) ≤ 68 := by decide +kernel
theorem s3_byte : ∀ a, a ≤ 68 → ∀ c, c < 16 → ((a / 16 + 16 * c + a) % 256 &&& 15) = s3 a := by decide +kernel
theorem s_pop : ∀ a, a < 256 → s3 (s2 (s1 a)) = popN 8 a := by decide +kernel
theorem s2_nib : ∀ a, a < 256 → s2 (s1 a) % 16 ≤ 4 := by decide +kernel
end Go.Proofs.YtlfoehjjgbnkaaaDoor.Pu
