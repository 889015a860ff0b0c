/- Sets with one number more, or one less. -/
import Derived.Test.YtlfoehjjgbnkaaaDoorBM6
namespace Go.Proofs.YtlfoehjjgbnkaaaDoor.Pu
set_option linter.unusedVariables false
set_option linter.unusedSimpArgs false
open Go.RowKit Go.Proofs.YtlfoehjjgbnkaaaDoor.PM Go.Proofs.YtlfoehjjgbnkaaaDoorW.PrintWords Go.Proofs.YtlfoehjjgbnkaaaDoorW.PrintLast Go.Proofs.YtlfoehjjgbnkaaaDoorW.PrintMore
theorem getD_ints (L : List Nat) (i : Nat) : (ints L).getD i 0 = ((L.getD i 0 : Nat) : Int) := by
  have := rd_ints L i
  unfold rd at this
  rw [Int.toNat_natCast] at this
  exact this
def plus (L : List Nat) (x : Nat) : List Nat := (padTo L (x / 64 + 1)).set (x / 64) (L.getD (x / 64) 0 ||| 2 ^ (x % 64))
theorem plus_length (L : List Nat) (x : Nat) : (plus L x).length = max L.length (x / 64 + 1) := by unfold plus; rw [List.length_set, padTo_length]
theorem plus_getD (L : List Nat) (x i : Nat) : (plus L x).getD i 0 = if x / 64 = i then L.getD (x / 64) 0 ||| 2 ^ (x % 64) else L.getD i 0 := by
  unfold plus
  rw [getD_set _ _ _ _ (by rw [padTo_length]; omega), padTo_getD]
theorem bit_lt (x : Nat) : 2 ^ (x % 64) < 2 ^ 64 := Nat.pow_lt_pow_right (by decide) (Nat.mod_lt _ (by decide))
theorem of_getD_lt {M : List Nat} (h : ∀ i, M.getD i 0 < 2 ^ 64) : WW M := by
  intro y hy
  obtain ⟨j, hj, rfl⟩ := List.getElem_of_mem hy
  have := h j
  rw [List.getD_eq_getElem?_getD, List.getElem?_eq_getElem hj] at this
  exact this
theorem plus_WW {L : List Nat} (h : WW L) (x : Nat) : WW (plus L x) := by
  refine of_getD_lt fun i => ?_
  rw [plus_getD]
  split
  · exact Nat.or_lt_two_pow (h.getD _) (bit_lt x)
  · exact h.getD i
theorem plus_mem (L : List Nat) (x z : Nat) : mem (plus L x) z = (mem L z || decide (z = x)) := by
  show Nat.testBit ((plus L x).getD (z / 64) 0) (z % 64) = _
  rw [plus_getD]
  split
  · rename_i e
    rw [Nat.testBit_or, Nat.testBit_two_pow, e]
    unfold mem
    congr 1
    rw [Bool.eq_iff_iff, decide_eq_true_iff, decide_eq_true_iff]
    omega
  · rename_i e
    have : ¬ z = x := by rintro rfl; exact e rfl
    unfold mem
    simp [this]
end Go.Proofs.YtlfoehjjgbnkaaaDoor.Pu
