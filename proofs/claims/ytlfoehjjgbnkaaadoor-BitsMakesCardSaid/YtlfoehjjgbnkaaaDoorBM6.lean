/- Questions on sets: validity, membership, the next element, inclusion, as the references answer them; equality of lists. -/
import Derived.Test.YtlfoehjjgbnkaaaDoorBM3
namespace Go.Proofs.YtlfoehjjgbnkaaaDoor.Pu
set_option linter.unusedVariables false
set_option linter.unusedSimpArgs false
open Go.RowKit Go.Proofs.YtlfoehjjgbnkaaaDoor.PM Go.Proofs.YtlfoehjjgbnkaaaDoorW.PrintWords Go.Proofs.YtlfoehjjgbnkaaaDoorW.PrintLast Go.Proofs.YtlfoehjjgbnkaaaDoorW.PrintMore
/-! Equal lists of numbers, whatever they are -/
theorem equalInts_loop (a b : List Int) (hl : a.length = b.length) (ha : a.length ≤ 1000000000) : ∀ d i, a.length - i = d → i ≤ a.length → (∀ j, j < i → a.getD j 0 = b.getD j 0) → Ev (fun k => dataflowref01_EqualInts.l0 k a b (i : Int)) (decide (a = b))
  | 0, i, hd, hi, he => by
    have : a = b := by
      apply List.ext_getElem hl
      intro j h1 h2
      have := he j (by omega)
      rw [List.getD_eq_getElem?_getD, List.getD_eq_getElem?_getD, List.getElem?_eq_getElem h1, List.getElem?_eq_getElem h2] at this
      simpa using this
    rw [decide_eq_true this]
    exact Ev.step (fun k => by rw [dataflowref01_EqualInts.l0]) (Ev_neg (by omega) (Ev.now _))
  | d + 1, i, hd, hi, he => by
    refine Ev.step (fun k => by rw [dataflowref01_EqualInts.l0]) (Ev_pos (by omega) (Ev_pos (by omega) (Ev_pos (by omega) ?_)))
    have ra : rd a (i : Int) = a.getD i 0 := by unfold rd; rw [Int.toNat_natCast]
    have rb : rd b (i : Int) = b.getD i 0 := by unfold rd; rw [Int.toNat_natCast]
    rw [ra, rb]
    by_cases h : a.getD i 0 = b.getD i 0
    · have ih := equalInts_loop a b hl ha d (i + 1) (by omega) (by omega) (fun j hj => by
        by_cases e : j = i
        · rw [e]; exact h
        · exact he j (by omega))
      refine Ev_pos h ?_
      rw [w64 (by omega) (by omega)]
      simpa using ih
    · refine Ev_neg h ?_
      have : a ≠ b := by rintro rfl; exact h rfl
      rw [decide_eq_false this]
      exact Ev.now _
theorem equalInts (a b : List Int) (ha : a.length ≤ 1000000000) : Ev (fun k => dataflowref01_EqualInts.f k a b) (decide (a = b)) := by
  unfold dataflowref01_EqualInts.f
  by_cases h : a.length = b.length
  · exact Ev_pos (by omega) (equalInts_loop a b h ha _ 0 rfl (Nat.zero_le _) (fun j hj => absurd hj (by omega)))
  · refine Ev_neg (by omega) ?_
    have : a ≠ b := by rintro rfl; exact h rfl
    rw [decide_eq_false this]
    exact Ev.now _
end Go.Proofs.YtlfoehjjgbnkaaaDoor.Pu
