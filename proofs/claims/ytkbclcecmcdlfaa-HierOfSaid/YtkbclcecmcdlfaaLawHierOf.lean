/- HierOf: for every source, the hierarchy that the program makes of it is that of the specification, and the closed example holds: the law returns true, and the source reads as it did. No condition. -/
import Derived.Test.YtkbclcecmcdlfaaRows
import Derived.Test.YtkbclcecmcdlfaaHP2
import Derived.WalkKit
import Derived.ProofKit
import Derived.OpenShut
import Derived.ShutString
import Derived.ChangeOld
import Derived.Below
import Derived.SizedLaws
namespace Go.Proofs.Ytkbclcecmcdlfaa.hierOf
open Go.ChangeShapes Go.WideShapes Go.ChangeAt Go.RowKit
open Go.ChangeMaps (open_string shut_string)
set_option linter.unusedVariables false
theorem own : ownKnob Try.prog.godebug = none := by kernel_rfl
theorem laidOut : laidOutB Try.prog = true := by kernel_rfl
set_option maxRecDepth 100000 in
theorem lifted (os : Os) (started : os.Started) (H : Type) (enc : TypeId × Value → H) :
    ReturnsInHanded {} Try.checked os 3 .any (Rows.hierOfSpec.pre6 enc Try.prog Try.f3 Rows.hierOfRow.domain false) (Rows.hierOfSpec.post enc Try.prog Try.f3 false true false false) := by
  refine returnsInHanded_of_change_sized (C := Try.checked) own started (by kernel_rfl) Try.func3
    (ChangeSpec.witness6 (enc := enc) (C := Try.checked) false ⟨#[], #[.agg #[.slice none 0 0]], []⟩ 8 (by kernel_rfl) (by kernel_rfl) (by kernel_rfl) (by kernel_rfl)) ?_
  intro W base args ds gs before hval0 hW hcnd hsz0 _
  have hsz : (DataW.weightsEach Try.prog (Try.f3.params.toList ++ Rows.hierOfSpec.plain.varTypes Try.prog) (ds ++ gs)).all (· ≤ reachBytes) = true := hsz0
  have hval : ∀ (j : Nat) t v, Try.f3.params[j]? = some t → args[j]? = some v → Value.okWide Try.prog W .any base t v := hval0
  have hW' := hW
  obtain ⟨p, q, hA0, hV, rfl, hfz, hnd⟩ := hW
  have hA : DataW.TrodAll enc Try.prog W 0 (fun _ => true) true Try.f3.params.toList args.toList ds p := hA0
  rw [Try.params3] at hA hval hsz
  obtain ⟨v0, vs0, d0, ds0, p0, q0, hargs, rfl, rfl, h0, r0⟩ := trodAll_cons hA
  obtain ⟨rfl, rfl, rfl⟩ := trodAll_nil r0
  obtain rfl : args = #[v0] := by cases args; simp_all
  obtain ⟨rfl, rfl⟩ := trodVars_none hV
  obtain ⟨cs, rfl, hcs⟩ := okWide_struct Try.underlying24 (hval 0 24 v0 rfl rfl)
  have k0 := h0
  have lt0 : ∀ x ∈ p0, x.block < W.heap.size := by obtain ⟨m, hm⟩ := k0; exact DataW.trod_lt m _ _ _ hm
  have hw : ∀ z ∈ d0.weights Try.prog 24, z ≤ reachBytes := by
    intro z hz
    have h2 := List.all_eq_true.1 hsz z (by
      show z ∈ DataW.weightsEach Try.prog (24 :: _) (d0 :: _)
      rw [DataW.weightsEach]
      exact List.mem_append_left _ hz)
    exact of_decide_eq_true h2
  obtain ⟨l, hl, A, c, hcells, hle, hC⟩ : ∃ l, Pu.SzL 80 Pu.Sz44 l ∧ ∃ A c, cs.toList = [.slice A l.length c] ∧ l.length ≤ c ∧ PH.k44.C W A l.length l := by
    obtain ⟨fuel, hf⟩ := h0
    obtain ⟨l, ⟨A, c, h1, h2, h3⟩, hS⟩ := Pu.o24 W fuel H enc (fun _ => true) true _ _ hf hw
    exact ⟨l, hS, A, c, by simpa [Value.cells] using h1, h2, h3⟩
  obtain rfl : cs = #[.slice A l.length c] := by cases cs; simp_all
  clear hA0 hval0 hsz0 hsz
  obtain ⟨k, hk⟩ := Pu.HierOf l hl
  refine (PH.dataflowlaw10_HierOf.calls k A c l true W hC hle hk).mono fun e W' ⟨he, bel⟩ => ?_
  subst he
  exact ⟨_, rfl, _, _, _, [], _, [], hW', trodAll_mk1 (shut_bool Try.underlying4 _), (trodAll_cons_mk (Below.trod laidOut (by kernel_rfl) (of_decide_eq_true (by kernel_rfl)) k0 bel lt0) trodAll_mk0), rfl, bel.frame _, fun h => by cases h⟩
theorem over : Rows.hierOfRow.holds Try.pinned (OpenSpec.ofChange Rows.hierOfSpec) :=
  OpenClaim.holds_of_wide 3 Try.f3 rfl rfl rfl rfl rfl rfl rfl ⟨rfl, rfl, rfl, rfl, rfl⟩ rfl rfl rfl rfl rfl (by kernel_rfl) Try.func3 (by kernel_rfl)
    (of_decide_eq_true (by kernel_rfl)) (by unfold Func.isWrapper; first | (rw [if_pos (by decide +kernel)]; kernel_rfl) | (rw [if_neg (by decide +kernel)]; exact ⟨rfl, rfl⟩))
    (fun os started H enc _ => lifted os started H enc)
theorem proved : Rows.HierOfSaid := over
#print axioms proved
end Go.Proofs.Ytkbclcecmcdlfaa.hierOf
namespace Go.Proofs.Ytkbclcecmcdlfaa
/-- The row, under a short name, for the claim. -/
theorem hierOf_holds : Rows.HierOfSaid := hierOf.proved
end Go.Proofs.Ytkbclcecmcdlfaa
