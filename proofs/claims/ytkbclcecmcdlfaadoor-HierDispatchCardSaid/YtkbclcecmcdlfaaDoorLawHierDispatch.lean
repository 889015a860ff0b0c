/- THE STATEMENT HierDispatch, AS ITS TIED CARD: In every hierarchy that hier.Check accepts Lookup finds the nearest declaration of the chain, and Targets are exactly the results for all subclasses; and the statement's closed example holds. It holds for every input that can be read; the table dataflow/lex.keywords is as the program's text lays it (the card ties it). -/
import Derived.Test.YtkbclcecmcdlfaaDoorRows
import Derived.Test.YtkbclcecmcdlfaaDoorDP8
import Derived.Test.YtkbclcecmcdlfaaDoorDO1
import Derived.Test.YtkbclcecmcdlfaaDoorDLaid
import Derived.WalkKit
import Derived.ProofKit
import Derived.OpenShut
import Derived.ShutString
import Derived.ChangeOld
import Derived.Below
import Derived.LaidMore
import Derived.Stop.Joined
import Derived.SevenTiedAt
import Derived.Test.YtkbclcecmcdlfaaDoorCards
import Derived.Test.YtkbclcecmcdlfaaDoorTie
import Derived.SizedLaws
namespace Go.Proofs.YtkbclcecmcdlfaaDoor.hierDispatch
open Go.ChangeShapes Go.WideShapes Go.ChangeAt Go.RowKit
open Go.ChangeMaps (open_string shut_string)
set_option linter.unusedVariables false
theorem own : ownKnob Tryd.prog.godebug = none := by kernel_rfl
theorem laidOut : laidOutB Tryd.prog = true := by kernel_rfl
set_option maxRecDepth 100000 in
theorem lifted (os : Os) (started : os.Started) (H : Type) (enc : TypeId × Value → H) :
    ReturnsInHanded {} Tryd.checked os 3 .any (fun w args => (Rows.hierDispatchSpec.pre enc Tryd.prog Tryd.f3 [] false w args ∧ laidMetH Tryd.prog laidList w) ∧ sizedMet enc Tryd.prog Tryd.f3 (OpenSpec.ofChange Rows.hierDispatchSpec) false w args) (Rows.hierDispatchSpec.post enc Tryd.prog Tryd.f3 false true false false) := by
  refine returnsInHanded_of_change_and (C := Tryd.checked) (X := fun w _ => laidMetH Tryd.prog laidList w) (fun _ _ _ hh h => h.of_heap hh) own started (by kernel_rfl) Tryd.func3
    (ChangeSpec.witness_shaped (enc := enc) (C := Tryd.checked) (os := os) (X := fun w _ => laidMetH Tryd.prog laidList w) false (World.doorLaid Tryd.prog 400 os) #[.agg #[.slice none 0 0], .string ⟨#[]⟩] 8 rfl (World.shaped_of_RefB (by kernel_rfl) (by kernel_rfl)) (by kernel_rfl) (by kernel_rfl) (by kernel_rfl) (door_met os _)) ?_
  intro W base args ds gs before hval0 hW _ hsz0 hL _
  have hsz : (DataW.weightsEach Tryd.prog (Tryd.f3.params.toList ++ Rows.hierDispatchSpec.plain.varTypes Tryd.prog) (ds ++ gs)).all (· ≤ reachBytes) = true := hsz0
  have hval : ∀ (j : Nat) t v, Tryd.f3.params[j]? = some t → args[j]? = some v → Value.okWide Tryd.prog W .any base t v := hval0
  have hW' := hW
  obtain ⟨p, q, hA0, hV, rfl, hfz, hnd⟩ := hW
  have hA : DataW.TrodAll enc Tryd.prog W 0 (fun _ => true) true Tryd.f3.params.toList args.toList ds p := hA0
  rw [Tryd.params3] at hA hval hsz
  obtain ⟨v0, vs0, d0, ds0, p0, q0, hargs, rfl, rfl, h0, r0⟩ := trodAll_cons hA
  obtain ⟨v1, vs1, d1, ds1, p1, q1, rfl, rfl, rfl, h1, r1⟩ := trodAll_cons r0
  obtain ⟨rfl, rfl, rfl⟩ := trodAll_nil r1
  obtain rfl : args = #[v0, v1] := by cases args; simp_all
  obtain ⟨rfl, rfl⟩ := trodVars_none hV
  obtain ⟨cs, rfl, hcs⟩ := okWide_struct Tryd.underlying24 (hval 0 24 v0 rfl rfl)
  have k0 := h0
  have lt0 : ∀ x ∈ p0, x.block < W.heap.size := by obtain ⟨m, hm⟩ := k0; exact DataW.trod_lt m _ _ _ hm
  have hw : ∀ z ∈ d0.weights Tryd.prog 24, z ≤ reachBytes := by
    intro z hz
    have h2 := List.all_eq_true.1 hsz z (by
      show z ∈ DataW.weightsEach Tryd.prog (24 :: _) (d0 :: _)
      rw [DataW.weightsEach]
      exact List.mem_append_left _ hz)
    exact of_decide_eq_true h2
  obtain ⟨l, hl, A, c, hcells, hle, hC⟩ : ∃ l, Pu.SzL 80 Pu.Sz32 l ∧ ∃ A c, cs.toList = [.slice A l.length c] ∧ l.length ≤ c ∧ PD.k32.C W A l.length l := by
    obtain ⟨fuel, hf⟩ := h0
    obtain ⟨l, ⟨A, c, h1, h2, h3⟩, hS⟩ := Pu.o24 W fuel H enc (fun _ => true) true _ _ hf hw
    exact ⟨l, hS, A, c, by simpa [Value.cells] using h1, h2, h3⟩
  obtain rfl : cs = #[.slice A l.length c] := by cases cs; simp_all
  obtain ⟨a1, rfl, rfl, rfl, y1⟩ := open_string Tryd.underlying9 (hval 1 9 v1 rfl rfl) h1
  clear hA0 hval0 hsz0 hsz
  obtain ⟨k, hk⟩ := Pu.HierDispatch (Pu.sized_of hl) a1
  refine (PD.dataflowlaw10_HierDispatch.calls k A c l a1 true W hC hle hk (tab_of hL)).mono fun e W' ⟨he, bel⟩ => ?_
  subst he
  exact ⟨_, rfl, _, _, _, [], _, [], hW', trodAll_mk1 (shut_bool Tryd.underlying4 _), (trodAll_cons_mk (Below.trod laidOut (by kernel_rfl) (of_decide_eq_true (by kernel_rfl)) k0 bel lt0) (trodAll_cons_mk (shut_string Tryd.underlying9 y1) trodAll_mk0)), rfl, bel.frame _, fun h => by cases h⟩
theorem over : Rows.hierDispatchRow.holds Tryd.pinned (OpenSpec.ofChange Rows.hierDispatchSpec) :=
  OpenClaim.holds_of_wide 3 Tryd.f3 rfl rfl rfl rfl rfl rfl rfl ⟨rfl, rfl, rfl, rfl, rfl⟩ rfl rfl rfl rfl rfl (by kernel_rfl) Tryd.func3 (by kernel_rfl)
    (of_decide_eq_true (by kernel_rfl)) (by unfold Func.isWrapper; first | (rw [if_pos (by decide +kernel)]; kernel_rfl) | (rw [if_neg (by decide +kernel)]; exact ⟨rfl, rfl⟩))
    (fun os started H enc _ => lifted os started H enc)
theorem proved : Rows.HierDispatchSaid := over
theorem card : Rows.HierDispatchCardSaid :=
  Claim7.holds_tied_plain_at .later [] [.data] true (true, "f644f53d1fd44622b666dd4c1d0b060022f7be6e2453df35f0e377d2ae7cfc2a") false
    proved (fun _ h => by cases h) (by kernel_rfl) (fun _ h => by cases h) hierDispatch_row_tie rfl ⟨rfl, rfl⟩ (by kernel_rfl) rfl
    (fun f fn hf hfn => by
      obtain rfl : f = 3 := Option.some.inj ((show Tryd.prog.funcNamed "dataflow/dataflowlaw10.HierDispatch" = some 3 by kernel_rfl).symm.trans hf) |>.symm
      obtain rfl : fn = Tryd.f3 := (Option.some.inj (Tryd.func3.symm.trans hfn)).symm
      exact ⟨by kernel_rfl, fun j t ht => by
        rw [Tryd.params3] at ht
        have hm : t ∈ [24, 9] := by simpa using Array.mem_of_getElem? ht
        have hall : ([24, 9].all fun u => !Tryd.prog.wantsStandIn u) = true := by kernel_rfl
        exact (show Tryd.prog.wantsStandIn t = false by simpa using List.all_eq_true.1 hall t hm)⟩)
    (by kernel_rfl)
#print axioms card
end Go.Proofs.YtkbclcecmcdlfaaDoor.hierDispatch
namespace Go.Proofs.YtkbclcecmcdlfaaDoor
/-- The card, under a short name, for the claim. -/
theorem hierDispatch_card : Rows.HierDispatchCardSaid := hierDispatch.card
end Go.Proofs.YtkbclcecmcdlfaaDoor
