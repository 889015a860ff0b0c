/- Questions on sets: validity, membership, the next element, inclusion, as the references answer them; equality of lists. -/
import Derived.Test.YtlfoehjjgbnkaaaDoorBA5
namespace Go.Proofs.YtlfoehjjgbnkaaaDoor.Pu
set_option linter.unusedVariables false
set_option linter.unusedSimpArgs false
open Go.RowKit Go.Proofs.YtlfoehjjgbnkaaaDoor.PA Go.Proofs.YtlfoehjjgbnkaaaDoorW.PrintWords Go.Proofs.YtlfoehjjgbnkaaaDoorW.PrintLast Go.Proofs.YtlfoehjjgbnkaaaDoorW.PrintMore
/-! Equal lists of numbers, whatever they are -/
def sub (A B : List Nat) : Bool := decide (∀ y ∈ elems A, y ∈ elems B)
theorem within_loop (A B : List Nat) (hA : WW A) (hB : WW B) (ha : A.length ≤ 1000000) : ∀ d i, A.length - i = d → i ≤ A.length → (∀ j, j < i → (dif A B).getD j 0 = 0) → Ev (fun k => bits_Within.l0 k (ints A) (ints B) (A.length : Int) (i : Int)) (sub A B)
  | 0, i, hd, hi, hz => by
    have : sub A B = true := by
      unfold sub
      rw [decide_eq_true_iff]
      intro y hy
      rw [mem_elems] at hy ⊢
      have hlt := mem_lt hy
      have h0 := hz (y / 64) (by omega)
      have hd := dif_mem (A := A) hB y
      unfold mem at hd
      rw [h0] at hd
      have hy' := hy
      unfold mem at hy'
      rw [hy'] at hd
      cases e : mem B y with
      | true => rfl
      | false => unfold mem at e; rw [e] at hd; simp at hd
    rw [this]
    exact Ev.step (fun k => by rw [bits_Within.l0]) (Ev_neg (by omega) (Ev.now _))
  | d + 1, i, hd, hi, hz => by
    have h1 := hA.getD i
    have h2 := hB.getD i
    refine Ev.step (fun k => by rw [bits_Within.l0]) (Ev_pos (by omega) (Ev_pos (by omega) (Ev_pos (by rw [ints_length]; omega) ?_)))
    refine Ev_bindc (at_ B i) ?_
    rw [rd_ints, u64_andNot_nat _ _ (by omega) (by omega), ← dif_getD]
    by_cases h : (dif A B).getD i 0 = 0
    · have ih := within_loop A B hA hB ha d (i + 1) (by omega) (by omega) (fun j hj => by
        by_cases e : j = i
        · rw [e]; exact h
        · exact hz j (by omega))
      refine Ev_pos (by omega) ?_
      rw [w64 (by omega) (by omega)]
      simpa using ih
    · refine Ev_neg (by omega) ?_
      have hc := ctz_spec ((dif A B).getD i 0) (by omega) ((dif_WW hA).getD i)
      have hm : mem (dif A B) (64 * i + Lib.ctz 64 ((dif A B).getD i 0)) = true := by rw [mem_at _ _ _ hc.1]; exact hc.2.1
      rw [dif_mem hB] at hm
      have hm' : mem A (64 * i + Lib.ctz 64 ((dif A B).getD i 0)) = true ∧ mem B (64 * i + Lib.ctz 64 ((dif A B).getD i 0)) = false := by simpa using hm
      have : ¬ sub A B = true := by
        unfold sub
        rw [decide_eq_true_iff]
        intro hs
        have := (mem_elems B _).1 (hs _ ((mem_elems A _).2 hm'.1))
        rw [hm'.2] at this
        cases this
      have : sub A B = false := by simpa using this
      rw [this]
      exact Ev.now _
theorem within (A B : List Nat) (hA : WW A) (hB : WW B) (ha : A.length ≤ 1000000) : Ev (fun k => bits_Within.f k (ints A) (ints B)) (sub A B) := by
  unfold bits_Within.f
  rw [ints_length]
  exact within_loop A B hA hB ha _ 0 rfl (Nat.zero_le _) (fun j hj => absurd hj (by omega))
/-- Searching by halves. -/
theorem same_is (A B : List Nat) : (sub A B && sub B A) = decide (elems A = elems B) := by
  rw [Bool.eq_iff_iff, Bool.and_eq_true, decide_eq_true_iff]
  unfold sub
  rw [decide_eq_true_iff, decide_eq_true_iff]
  constructor
  · rintro ⟨h1, h2⟩
    exact asc_ext (asc_elems A) (asc_elems B) (fun x => ⟨h1 x, h2 x⟩)
  · intro h
    rw [h]
    exact ⟨fun _ h => h, fun _ h => h⟩
theorem same (A B : List Nat) (hA : WW A) (hB : WW B) (ha : A.length ≤ 1000000) (hb : B.length ≤ 1000000) : Ev (fun k => bits_Same.f k (ints A) (ints B)) (decide (elems A = elems B)) := by
  rw [← same_is]
  unfold bits_Same.f
  refine Ev.bind (within A B hA hB ha) ?_
  cases h : sub A B with
  | true => exact Ev_pos rfl (Ev.bind (within B A hB hA hb) (Ev.now _))
  | false => exact Ev_neg (by simp) (Ev.now _)
end Go.Proofs.YtlfoehjjgbnkaaaDoor.Pu
