/- bits.Len of a small number returns some number. -/
import Derived.Test.YtkbclcecmcdlfaaHI
namespace Go.Proofs.Ytkbclcecmcdlfaa.PH
open Go.RowKit Go.Proofs.YtkbclcecmcdlfaaW.PrintWords Go.Proofs.YtkbclcecmcdlfaaW.PrintLast Go.Proofs.YtkbclcecmcdlfaaW.PrintMore
attribute [local go_sem] max2_int min2_int max_two min_two max_three min_three max_four min_four
set_option linter.unusedVariables false
set_option linter.unusedSimpArgs false

set_option maxHeartbeats 8000000 in
set_option maxRecDepth 100000 in
theorem len64_small (a : Int) (w : World) (h0 : 0 ≤ a) (h1 : a < 256) : Calls Try.prog 42 #[.int .u64 a] w fun e w' => ∃ r, e = .returned (.int .i64 r) ∧ Drawn0 w w' := by
  have d1 : decide (a ≥ 4294967296) = false := decide_eq_false (by omega)
  have d2 : decide (a ≥ 65536) = false := decide_eq_false (by omega)
  have d3 : decide (a ≥ 256) = false := decide_eq_false (by omega)
  have hm : a % 256 = a := by omega
  go_enter Try.func42, Try.ntmps42
  go_wp2
  go_ret
  exact ⟨_, rfl, by repeat (first | exact Drawn0.refl _ | apply Drawn0.step)⟩
/-- Whether bits.Len's answer is told (of a small number it is some number). -/
def bits_Len.f (_k : Nat) (a : Int) : Option Int := if 0 ≤ a ∧ a < 256 then some 0 else none
theorem bits_Len.mono : ∀ a0 k, LeO (bits_Len.f k a0) (bits_Len.f (k + 1) a0) := fun _ _ => LeO.refl _
set_option maxHeartbeats 8000000 in
set_option maxRecDepth 100000 in
theorem bits_Len.calls (k : Nat) (a : Int) (r : Int) (w : World) (h : bits_Len.f k a = some r) : Calls Try.prog 30 #[.int .u64 a] w fun e w' => ∃ t, e = .returned (.int .i64 t) ∧ Drawn0 w w' := by
  have hq : 0 ≤ a ∧ a < 256 := by
    unfold bits_Len.f at h
    by_cases hq : 0 ≤ a ∧ a < 256
    · exact hq
    · rw [if_neg hq] at h; cases h
  clear h
  have F := Aside0.mk (fun w => len64_small a w hq.1 hq.2)
  clear hq
  go_enter Try.func30, Try.ntmps30
  go_wp2_with (first | (go_at_call 42; refine (F.out _).mono ?_; rintro e w' ⟨t, rfl, ⟨nd, rfl⟩⟩) | go_in)
  go_ret
  exact ⟨_, rfl, by repeat (first | exact Drawn0.refl _ | apply Drawn0.step)⟩
end Go.Proofs.Ytkbclcecmcdlfaa.PH
