/- The count of the bits, as bits.OnesCount64 adds them up; lists without the zeros at their end; the set of an ascending list. -/
import Derived.Test.YtlfoehjjgbnkaaaDoorBP2
namespace Go.Proofs.YtlfoehjjgbnkaaaDoor.Pu
set_option linter.unusedVariables false
set_option linter.unusedSimpArgs false
open Go.Proofs
theorem pop_filter : ∀ n x, ((List.range n).filter (fun k => x.testBit k)).length = popN n x
  | 0, x => rfl
  | n + 1, x => by
    rw [List.range_succ_eq_map, List.filter_cons, List.filter_map, popN]
    have h := pop_filter n (x / 2)
    have e : (List.range n).filter ((fun k => x.testBit k) ∘ Nat.succ) = (List.range n).filter (fun k => (x / 2).testBit k) := by
      apply List.filter_congr
      intro i _
      show x.testBit (i + 1) = _
      rw [Nat.testBit_succ]
    rw [e]
    by_cases hx : x % 2 = 1
    · rw [if_pos (by simp [Nat.testBit_zero, hx]), List.length_cons, List.length_map, h]
      omega
    · rw [if_neg (by simp [Nat.testBit_zero, hx]), List.length_map, h]
      omega
theorem pop_bitsOf (x : Nat) : (bitsOf x).length = popN 64 x := pop_filter 64 x
def m1 : Nat → Nat | 0 => 0 | n + 1 => 85 + 256 * m1 n
def m2 : Nat → Nat | 0 => 0 | n + 1 => 51 + 256 * m2 n
def m3 : Nat → Nat | 0 => 0 | n + 1 => 15 + 256 * m3 n
theorem m1_succ (n : Nat) : m1 (n + 1) = 85 + 256 * m1 n := rfl
theorem m2_succ (n : Nat) : m2 (n + 1) = 51 + 256 * m2 n := rfl
theorem m3_succ (n : Nat) : m3 (n + 1) = 15 + 256 * m3 n := rfl
def S1 (n x : Nat) : Nat := ((x / 2) &&& m1 n) + (x &&& m1 n)
def S2 (n x : Nat) : Nat := ((x / 4) &&& m2 n) + (x &&& m2 n)
def S3 (n x : Nat) : Nat := (x / 16 + x) &&& m3 n
theorem S1_step (n a y : Nat) (ha : a < 256) : S1 (n + 1) (a + 256 * y) = s1 a + 256 * S1 n y := by
  simp only [S1, s1, m1_succ]
  rw [show (a + 256 * y) / 2 = (a / 2 + 128 * (y % 2)) + 256 * (y / 2) by omega, land_split _ _ _ _ (by omega) (by omega), land_split _ _ _ _ ha (by omega), s1_byte a ha (y % 2) (by omega)]
  omega
theorem S2_step (n a y : Nat) (ha : a < 256) : S2 (n + 1) (a + 256 * y) = s2 a + 256 * S2 n y := by
  simp only [S2, s2, m2_succ]
  rw [show (a + 256 * y) / 4 = (a / 4 + 64 * (y % 4)) + 256 * (y / 4) by omega, land_split _ _ _ _ (by omega) (by omega), land_split _ _ _ _ ha (by omega), s2_byte a ha (y % 4) (by omega)]
  omega
theorem S3_step (n a y : Nat) (ha : a ≤ 68) (hy : y % 16 ≤ 4) : S3 (n + 1) (a + 256 * y) = s3 a + 256 * S3 n y := by
  simp only [S3, m3_succ]
  have h := s3_byte a ha (y % 16) (by omega)
  rw [Nat.mod_eq_of_lt (by omega)] at h
  rw [show (a + 256 * y) / 16 + (a + 256 * y) = (a / 16 + 16 * (y % 16) + a) + 256 * (y / 16 + y) by omega, land_split _ _ _ _ (by omega) (by omega), h]
/-- Byte by byte. -/
def T : Nat → Nat → Nat | 0, _ => 0 | n + 1, x => popN 8 (x % 256) + 256 * T n (x / 256)
theorem S2_low : ∀ n x, x < 256 ^ n → S2 n (S1 n x) % 16 ≤ 4
  | 0, x, h => by
    have : x = 0 := by simpa using h
    subst this
    decide
  | n + 1, x, h => by
    have hx : x = x % 256 + 256 * (x / 256) := by omega
    rw [hx, S1_step n _ _ (Nat.mod_lt _ (by decide)), S2_step n _ _ (s1_lt _ (Nat.mod_lt _ (by decide)))]
    have := s2_nib (x % 256) (Nat.mod_lt _ (by decide))
    omega
theorem S_T : ∀ n x, x < 256 ^ n → S3 n (S2 n (S1 n x)) = T n x
  | 0, x, h => by
    have : x = 0 := by simpa using h
    subst this
    decide
  | n + 1, x, h => by
    have hx : x = x % 256 + 256 * (x / 256) := by omega
    have hlt : x / 256 < 256 ^ n := by rw [Nat.pow_succ] at h; omega
    have hm : x % 256 < 256 := Nat.mod_lt _ (by decide)
    conv => lhs; rw [hx]
    rw [S1_step n _ _ hm, S2_step n _ _ (s1_lt _ hm), S3_step n _ _ (s2_lt _ hm) (S2_low n _ hlt), s_pop _ hm, S_T n _ hlt]
    rfl
theorem pop8_le : ∀ a, a < 256 → popN 8 a ≤ 8 := by decide +kernel
theorem popN_bytes (n : Nat) (x : Nat) : popN (8 + n) x = popN 8 (x % 256) + popN n (x / 256) := by
  rw [popN_add]
  congr 1
  have h := popN_mod 8 (x % 256) (x / 256)
  rw [show x % 256 + 2 ^ 8 * (x / 256) = x by omega] at h
  exact h
theorem fold8 (X : Nat) (x : Nat) (hX : X = T 8 x) :
    ((X + X / 256) + (X + X / 256) / 65536 + ((X + X / 256) + (X + X / 256) / 65536) / 4294967296) % 128 = popN 64 x ∧ X + X / 256 < 2 ^ 64 ∧ (X + X / 256) + (X + X / 256) / 65536 < 2 ^ 64 ∧ (X + X / 256) + (X + X / 256) / 65536 + ((X + X / 256) + (X + X / 256) / 65536) / 4294967296 < 2 ^ 63 := by
  have hb : ∀ y, popN 8 (y % 256) ≤ 8 := fun y => pop8_le _ (Nat.mod_lt _ (by decide))
  have q0 : popN 64 x = popN 8 (x % 256) + popN 56 (x / 256) := popN_bytes 56 _
  have q1 : popN 56 (x / 256) = popN 8 (x / 256 % 256) + popN 48 (x / 256 / 256) := popN_bytes 48 _
  have q2 : popN 48 (x / 256 / 256) = popN 8 (x / 256 / 256 % 256) + popN 40 (x / 256 / 256 / 256) := popN_bytes 40 _
  have q3 : popN 40 (x / 256 / 256 / 256) = popN 8 (x / 256 / 256 / 256 % 256) + popN 32 (x / 256 / 256 / 256 / 256) := popN_bytes 32 _
  have q4 : popN 32 (x / 256 / 256 / 256 / 256) = popN 8 (x / 256 / 256 / 256 / 256 % 256) + popN 24 (x / 256 / 256 / 256 / 256 / 256) := popN_bytes 24 _
  have q5 : popN 24 (x / 256 / 256 / 256 / 256 / 256) = popN 8 (x / 256 / 256 / 256 / 256 / 256 % 256) + popN 16 (x / 256 / 256 / 256 / 256 / 256 / 256) := popN_bytes 16 _
  have q6 : popN 16 (x / 256 / 256 / 256 / 256 / 256 / 256) = popN 8 (x / 256 / 256 / 256 / 256 / 256 / 256 % 256) + popN 8 (x / 256 / 256 / 256 / 256 / 256 / 256 / 256) := popN_bytes 8 _
  have q7 : popN 8 (x / 256 / 256 / 256 / 256 / 256 / 256 / 256) = popN 8 (x / 256 / 256 / 256 / 256 / 256 / 256 / 256 % 256) + popN 0 (x / 256 / 256 / 256 / 256 / 256 / 256 / 256 / 256) := popN_bytes 0 _
  have q8 : popN 0 (x / 256 / 256 / 256 / 256 / 256 / 256 / 256 / 256) = 0 := rfl
  rw [q8] at q7
  rw [q7] at q6
  rw [q6] at q5
  rw [q5] at q4
  rw [q4] at q3
  rw [q3] at q2
  rw [q2] at q1
  rw [q1] at q0
  rw [q0]
  clear q0 q1 q2 q3 q4 q5 q6 q7 q8
  have hT : T 8 x = popN 8 (x % 256) + 256 * (popN 8 (x / 256 % 256) + 256 * (popN 8 (x / 256 / 256 % 256) + 256 * (popN 8 (x / 256 / 256 / 256 % 256) + 256 * (popN 8 (x / 256 / 256 / 256 / 256 % 256) + 256 * (popN 8 (x / 256 / 256 / 256 / 256 / 256 % 256) + 256 * (popN 8 (x / 256 / 256 / 256 / 256 / 256 / 256 % 256) + 256 * (popN 8 (x / 256 / 256 / 256 / 256 / 256 / 256 / 256 % 256) + 256 * 0))))))) := rfl
  rw [hT] at hX
  clear hT
  have e0 := hb x
  have e1 := hb (x / 256)
  have e2 := hb (x / 256 / 256)
  have e3 := hb (x / 256 / 256 / 256)
  have e4 := hb (x / 256 / 256 / 256 / 256)
  have e5 := hb (x / 256 / 256 / 256 / 256 / 256)
  have e6 := hb (x / 256 / 256 / 256 / 256 / 256 / 256)
  have e7 := hb (x / 256 / 256 / 256 / 256 / 256 / 256 / 256)
  generalize popN 8 (x % 256) = p0 at *
  generalize popN 8 (x / 256 % 256) = p1 at *
  generalize popN 8 (x / 256 / 256 % 256) = p2 at *
  generalize popN 8 (x / 256 / 256 / 256 % 256) = p3 at *
  generalize popN 8 (x / 256 / 256 / 256 / 256 % 256) = p4 at *
  generalize popN 8 (x / 256 / 256 / 256 / 256 / 256 % 256) = p5 at *
  generalize popN 8 (x / 256 / 256 / 256 / 256 / 256 / 256 % 256) = p6 at *
  generalize popN 8 (x / 256 / 256 / 256 / 256 / 256 / 256 / 256 % 256) = p7 at *
  have h1 : X / 256 = p1 + 256 * (p2 + 256 * (p3 + 256 * (p4 + 256 * (p5 + 256 * (p6 + 256 * p7))))) := by omega
  obtain ⟨A, hA⟩ : ∃ A, A = X + X / 256 := ⟨_, rfl⟩
  have hA' : A = (p0 + p1) + 256 * ((p1 + p2) + 256 * ((p2 + p3) + 256 * ((p3 + p4) + 256 * ((p4 + p5) + 256 * ((p5 + p6) + 256 * ((p6 + p7) + 256 * p7)))))) := by omega
  have h2 : A / 65536 = (p2 + p3) + 256 * ((p3 + p4) + 256 * ((p4 + p5) + 256 * ((p5 + p6) + 256 * ((p6 + p7) + 256 * p7)))) := by omega
  rw [← hA]
  clear hA h1 hX
  obtain ⟨B, hB⟩ : ∃ B, B = A + A / 65536 := ⟨_, rfl⟩
  have hB' : B = (p0 + p1 + p2 + p3) + 256 * ((p1 + p2 + p3 + p4) + 256 * ((p2 + p3 + p4 + p5) + 256 * ((p3 + p4 + p5 + p6) + 256 * ((p4 + p5 + p6 + p7) + 256 * ((p5 + p6 + p7) + 256 * ((p6 + p7) + 256 * p7)))))) := by omega
  have h3 : B / 4294967296 = (p4 + p5 + p6 + p7) + 256 * ((p5 + p6 + p7) + 256 * ((p6 + p7) + 256 * p7)) := by omega
  rw [← hB]
  clear hB h2
  refine ⟨by omega, by omega, by omega, by omega⟩
end Go.Proofs.YtlfoehjjgbnkaaaDoor.Pu
