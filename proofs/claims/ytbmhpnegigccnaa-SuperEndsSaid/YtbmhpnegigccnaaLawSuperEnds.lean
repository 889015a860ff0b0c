/- SuperEnds: for every supergraph that is valid, each edge is among those out of its From and into its To, a node is found at its place, and a start node by its function; and the closed example holds: the law returns true, and the graph reads as it did. No condition. -/
import Derived.Test.YtbmhpnegigccnaaRows
import Derived.Test.YtbmhpnegigccnaaSP3
import Derived.Test.YtbmhpnegigccnaaSO1
import Derived.WalkKit
import Derived.ProofKit
import Derived.OpenShut
import Derived.ShutString
import Derived.ChangeOld
import Derived.Below
import Derived.SizedLaws
namespace Go.Proofs.Ytbmhpnegigccnaa.superEnds
open Go.ChangeShapes Go.WideShapes Go.ChangeAt Go.RowKit
open Go.ChangeMaps (open_string shut_string)
set_option linter.unusedVariables false
theorem own : ownKnob Try.prog.godebug = none := by kernel_rfl
theorem laidOut : laidOutB Try.prog = true := by kernel_rfl
set_option maxRecDepth 100000 in
theorem lifted (os : Os) (started : os.Started) (H : Type) (enc : TypeId × Value → H) :
    ReturnsInHanded {} Try.checked os 3 .any (Rows.superEndsSpec.pre6 enc Try.prog Try.f3 Rows.superEndsRow.domain false) (Rows.superEndsSpec.post enc Try.prog Try.f3 false true false false) := by
  refine returnsInHanded_of_change_sized (C := Try.checked) own started (by kernel_rfl) Try.func3
    (ChangeSpec.witness6 (enc := enc) (C := Try.checked) false ⟨#[], #[.agg #[.slice none 0 0, .slice none 0 0, .int .i64 0]], []⟩ 8 (by kernel_rfl) (by kernel_rfl) (by kernel_rfl) (by kernel_rfl)) ?_
  intro W base args ds gs before hval0 hW hcnd hsz0 _
  have hsz : (DataW.weightsEach Try.prog (Try.f3.params.toList ++ Rows.superEndsSpec.plain.varTypes Try.prog) (ds ++ gs)).all (· ≤ reachBytes) = true := hsz0
  have hval : ∀ (j : Nat) t v, Try.f3.params[j]? = some t → args[j]? = some v → Value.okWide Try.prog W .any base t v := hval0
  have hW' := hW
  obtain ⟨p, q, hA0, hV, rfl, hfz, hnd⟩ := hW
  have hA : DataW.TrodAll enc Try.prog W 0 (fun _ => true) true Try.f3.params.toList args.toList ds p := hA0
  rw [Try.params3] at hA hval hsz
  obtain ⟨v0, vs0, d0, ds0, p0, q0, hargs, rfl, rfl, h0, r0⟩ := trodAll_cons hA
  obtain ⟨rfl, rfl, rfl⟩ := trodAll_nil r0
  obtain rfl : args = #[v0] := by cases args; simp_all
  obtain ⟨rfl, rfl⟩ := trodVars_none hV
  obtain ⟨cs, rfl, hcs⟩ := okWide_struct Try.underlying25 (hval 0 25 v0 rfl rfl)
  have k0 := h0
  have lt0 : ∀ x ∈ p0, x.block < W.heap.size := by obtain ⟨m, hm⟩ := k0; exact DataW.trod_lt m _ _ _ hm
  have hw : ∀ z ∈ d0.weights Try.prog 25, z ≤ reachBytes := by
    intro z hz
    have h2 := List.all_eq_true.1 hsz z (by
      show z ∈ DataW.weightsEach Try.prog (25 :: _) (d0 :: _)
      rw [DataW.weightsEach]
      exact List.mem_append_left _ hz)
    exact of_decide_eq_true h2
  obtain ⟨L, E, M, A, c, A', c', hcells, hle, hC, hle', hC'⟩ : ∃ (L : List PS.S36) (E : List PS.S33) (M : Int) (A : Option Addr) (c : Nat) (A' : Option Addr) (c' : Nat), cs.toList = [.slice A L.length c, .slice A' E.length c', .int .i64 M] ∧ L.length ≤ c ∧ PS.k36.C W A L.length L ∧ E.length ≤ c' ∧ PS.k33.C W A' E.length E := by
    obtain ⟨fuel, hf⟩ := h0
    obtain ⟨⟨L, E, M⟩, hK, _⟩ := Pu.o25 W fuel H enc (fun _ => true) true _ _ hf hw
    obtain ⟨x1, x2, e1, ⟨A, c, rfl, h2, h3⟩, x3, x4, rfl, ⟨A', c', rfl, h5, h6⟩, rfl⟩ := hK
    exact ⟨L, E, M, A, c, A', c', by simpa [Value.cells] using e1, h2, h3, h5, h6⟩
  obtain rfl : cs = #[.slice A L.length c, .slice A' E.length c', .int .i64 M] := by cases cs; simp_all
  clear hA0 hval0 hsz0 hsz
  obtain ⟨k, hk⟩ := Pu.SuperEnds L E M
  refine (PS.dataflowlaw27_SuperEnds.calls k A c L A' c' E M true W hC hle hC' hle' hk).mono fun e W' ⟨he, bel⟩ => ?_
  subst he
  exact ⟨_, rfl, _, _, _, [], _, [], hW', trodAll_mk1 (shut_bool Try.underlying4 _), (trodAll_cons_mk (Below.trod laidOut (by kernel_rfl) (of_decide_eq_true (by kernel_rfl)) k0 bel lt0) trodAll_mk0), rfl, bel.frame _, fun h => by cases h⟩
theorem over : Rows.superEndsRow.holds Try.pinned (OpenSpec.ofChange Rows.superEndsSpec) :=
  OpenClaim.holds_of_wide 3 Try.f3 rfl rfl rfl rfl rfl rfl rfl ⟨rfl, rfl, rfl, rfl, rfl⟩ rfl rfl rfl rfl rfl (by kernel_rfl) Try.func3 (by kernel_rfl)
    (of_decide_eq_true (by kernel_rfl)) (by unfold Func.isWrapper; first | (rw [if_pos (by decide +kernel)]; kernel_rfl) | (rw [if_neg (by decide +kernel)]; exact ⟨rfl, rfl⟩))
    (fun os started H enc _ => lifted os started H enc)
theorem proved : Rows.SuperEndsSaid := over
#print axioms proved
end Go.Proofs.Ytbmhpnegigccnaa.superEnds
namespace Go.Proofs.Ytbmhpnegigccnaa
/-- The row, under a short name, for the claim. -/
theorem superEnds_holds : Rows.SuperEndsSaid := superEnds.proved
end Go.Proofs.Ytbmhpnegigccnaa
