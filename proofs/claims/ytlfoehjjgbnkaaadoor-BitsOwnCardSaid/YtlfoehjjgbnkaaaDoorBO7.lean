/- Sets with one number more, or one less. -/
import Derived.Test.YtlfoehjjgbnkaaaDoorBO5
namespace Go.Proofs.YtlfoehjjgbnkaaaDoor.Pu
set_option linter.unusedVariables false
set_option linter.unusedSimpArgs false
open Go.RowKit Go.Proofs.YtlfoehjjgbnkaaaDoor.PO Go.Proofs.YtlfoehjjgbnkaaaDoorW.PrintWords Go.Proofs.YtlfoehjjgbnkaaaDoorW.PrintLast Go.Proofs.YtlfoehjjgbnkaaaDoorW.PrintMore
theorem getD_ints (L : List Nat) (i : Nat) : (ints L).getD i 0 = ((L.getD i 0 : Nat) : Int) := by
  have := rd_ints L i
  unfold rd at this
  rw [Int.toNat_natCast] at this
  exact this
def plus (L : List Nat) (x : Nat) : List Nat := (padTo L (x / 64 + 1)).set (x / 64) (L.getD (x / 64) 0 ||| 2 ^ (x % 64))
theorem plus_length (L : List Nat) (x : Nat) : (plus L x).length = max L.length (x / 64 + 1) := by unfold plus; rw [List.length_set, padTo_length]
theorem plus_getD (L : List Nat) (x i : Nat) : (plus L x).getD i 0 = if x / 64 = i then L.getD (x / 64) 0 ||| 2 ^ (x % 64) else L.getD i 0 := by
  unfold plus
  rw [getD_set _ _ _ _ (by rw [padTo_length]; omega), padTo_getD]
theorem bit_lt (x : Nat) : 2 ^ (x % 64) < 2 ^ 64 := Nat.pow_lt_pow_right (by decide) (Nat.mod_lt _ (by decide))
theorem of_getD_lt {M : List Nat} (h : ∀ i, M.getD i 0 < 2 ^ 64) : WW M := by
  intro y hy
  obtain ⟨j, hj, rfl⟩ := List.getElem_of_mem hy
  have := h j
  rw [List.getD_eq_getElem?_getD, List.getElem?_eq_getElem hj] at this
  exact this
theorem plus_WW {L : List Nat} (h : WW L) (x : Nat) : WW (plus L x) := by
  refine of_getD_lt fun i => ?_
  rw [plus_getD]
  split
  · exact Nat.or_lt_two_pow (h.getD _) (bit_lt x)
  · exact h.getD i
theorem plus_mem (L : List Nat) (x z : Nat) : mem (plus L x) z = (mem L z || decide (z = x)) := by
  show Nat.testBit ((plus L x).getD (z / 64) 0) (z % 64) = _
  rw [plus_getD]
  split
  · rename_i e
    rw [Nat.testBit_or, Nat.testBit_two_pow, e]
    unfold mem
    congr 1
    rw [Bool.eq_iff_iff, decide_eq_true_iff, decide_eq_true_iff]
    omega
  · rename_i e
    have : ¬ z = x := by rintro rfl; exact e rfl
    unfold mem
    simp [this]
theorem with_ (L : List Nat) (hW : WW L) (hl : L.length ≤ 1000000) (x : Nat) (hx : x < 65536) : bits_With.f (ints L) (x : Int) = some (ints (cut (plus L x)), 0) := by
  unfold bits_With.f
  rw [if_pos ⟨by omega, by omega⟩, if_pos (by rw [ints_length]; exact hl), Int.toNat_natCast]
  have hp : PO.pad (ints L) (max (ints L).length (x / 64 + 1)) = ints (padTo L (x / 64 + 1)) := by
    unfold PO.pad padTo
    rw [ints_append, ← ints_rep, ints_length]
    congr 2
    omega
  have hb := bit_lt x
  have h1 := hW.getD (x / 64)
  have e2 : IntKind.u64.wrap (2 ^ (x % 64)) = ((2 ^ (x % 64) : Nat) : Int) := by
    rw [Int.natCast_pow]
    refine u64w (Int.pow_nonneg (by decide)) ?_
    have : ((2 : Nat) : Int) ^ (x % 64) = ((2 ^ (x % 64) : Nat) : Int) := (Int.natCast_pow 2 (x % 64)).symm
    rw [show (2 : Int) = ((2 : Nat) : Int) from rfl, this]
    omega
  rw [hp, getD_ints, padTo_getD, e2, bits_or_u64_nat _ _ (by omega) (by omega), ints_set]
  show (bits_trim.f (ints (plus L x))).bind _ = _
  rw [trim]
  rfl
def less (L : List Nat) (x : Nat) : List Nat := L.set (x / 64) (L.getD (x / 64) 0 &&& (18446744073709551615 - 2 ^ (x % 64)))
theorem less_getD (L : List Nat) (x i : Nat) (hx : x < 64 * L.length) : (less L x).getD i 0 = if x / 64 = i then L.getD (x / 64) 0 &&& (18446744073709551615 - 2 ^ (x % 64)) else L.getD i 0 := by
  unfold less
  rw [getD_set _ _ _ _ (by omega)]
theorem less_WW {L : List Nat} (h : WW L) (x : Nat) (hx : x < 64 * L.length) : WW (less L x) := by
  refine of_getD_lt fun i => ?_
  rw [less_getD _ _ _ hx]
  split
  · exact Nat.lt_of_le_of_lt Nat.and_le_left (h.getD _)
  · exact h.getD i
theorem less_mem (L : List Nat) (x z : Nat) (hx : x < 64 * L.length) : mem (less L x) z = (mem L z && decide (z ≠ x)) := by
  show Nat.testBit ((less L x).getD (z / 64) 0) (z % 64) = _
  rw [less_getD _ _ _ hx]
  split
  · rename_i e
    rw [Nat.testBit_and, not_bit _ _ (bit_lt x) (Nat.mod_lt _ (by decide)), Nat.testBit_two_pow, e]
    unfold mem
    congr 1
    rw [Bool.eq_iff_iff, decide_eq_true_iff, Bool.not_eq_true', decide_eq_false_iff_not]
    omega
  · rename_i e
    have : ¬ z = x := by rintro rfl; exact e rfl
    unfold mem
    simp [this]
/-- What Without answers. -/
theorem without (L : List Nat) (hW : WW L) (hl : L.length ≤ 1000000) (x : Int) (h1 : -9223372036854775808 ≤ x) (h2 : x ≤ 9223372036854775807) :
    ∃ M, bits_Without.f (ints L) x = some (ints (cut M)) ∧ WW M ∧ M.length ≤ L.length ∧ ∀ z : Nat, mem M z = (mem L z && decide ((z : Int) ≠ x)) := by
  unfold bits_Without.f
  rw [if_pos (by rw [ints_length]; exact hl), has L hW x h1 h2, Option.bind_some]
  cases hm : memI L x with
  | false =>
    refine ⟨L, ?_, hW, Nat.le_refl _, fun z => ?_⟩
    · rw [if_neg (by simp), trim]
    · by_cases e : (z : Int) = x
      · rw [← e, memI_nat] at hm
        simp [hm]
      · simp [e]
  | true =>
    unfold memI at hm
    rw [Bool.and_eq_true, decide_eq_true_iff] at hm
    obtain ⟨n, rfl⟩ := Int.eq_ofNat_of_zero_le hm.1
    rw [Int.toNat_natCast] at hm ⊢
    have hlt := mem_lt hm.2
    refine ⟨less L n, ?_, less_WW hW n hlt, by unfold less; rw [List.length_set]; exact Nat.le_refl _, fun z => ?_⟩
    · have hb := bit_lt n
      have h1 := hW.getD (n / 64)
      have e2 : IntKind.u64.wrap (2 ^ (n % 64)) = ((2 ^ (n % 64) : Nat) : Int) := by
        rw [Int.natCast_pow]
        refine u64w (Int.pow_nonneg (by decide)) ?_
        have : ((2 : Nat) : Int) ^ (n % 64) = ((2 ^ (n % 64) : Nat) : Int) := (Int.natCast_pow 2 (n % 64)).symm
        rw [show (2 : Int) = ((2 : Nat) : Int) from rfl, this]
        omega
      rw [if_pos rfl, if_pos ⟨by omega, by rw [ints_length]; omega⟩, getD_ints, e2, u64_andNot_nat _ _ (by omega) (by omega), ints_set]
      show bits_trim.f (ints (less L n)) = _
      rw [trim]
    · rw [less_mem _ _ _ hlt]
      congr 1
      rw [Bool.eq_iff_iff, decide_eq_true_iff, decide_eq_true_iff]
      omega
/-! Drop -/
end Go.Proofs.YtlfoehjjgbnkaaaDoor.Pu
