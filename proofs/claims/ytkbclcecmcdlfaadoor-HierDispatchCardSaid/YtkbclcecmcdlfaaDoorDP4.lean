/- The closed example of the laws holds. -/
import Derived.Test.YtkbclcecmcdlfaaDoorDP3
import Derived.Test.YtkbclcecmcdlfaaDoorD11
namespace Go.Proofs.YtkbclcecmcdlfaaDoor.Pu
set_option linter.unusedVariables false
set_option linter.unusedSimpArgs false
open Go.RowKit Go.Proofs.YtkbclcecmcdlfaaDoor.PD Go.Proofs.YtkbclcecmcdlfaaDoorW.PrintWords Go.Proofs.YtkbclcecmcdlfaaDoorW.PrintLast Go.Proofs.YtkbclcecmcdlfaaDoorW.PrintMore
def H0 : List S32 := ([(⟨(⟨#[65]⟩ : ByteArray), (⟨#[]⟩ : ByteArray), (([(⟨(⟨#[102]⟩ : ByteArray), (⟨#[105, 110, 116]⟩ : ByteArray)⟩ : S67)] : List (S67))), (([(⟨(⟨#[109]⟩ : ByteArray), false, ([] : List ByteArray), (⟨#[]⟩ : ByteArray)⟩ : S37)] : List (S37)))⟩ : S32), (⟨(⟨#[66]⟩ : ByteArray), (⟨#[65]⟩ : ByteArray), ([] : List (S67)), (([(⟨(⟨#[109]⟩ : ByteArray), false, ([] : List ByteArray), (⟨#[]⟩ : ByteArray)⟩ : S37)] : List (S37)))⟩ : S32)] : List (S32))
def AB : List ByteArray := [⟨#[65]⟩, ⟨#[66]⟩]
theorem sort_AB : sortB AB = AB := by
  have h : (AB.map toL).mergeSort (fun x y => decide (x ≤ y)) = AB.map toL := by
    refine List.mergeSort_of_pairwise ?_
    show List.Pairwise _ [[(65 : UInt8)], [66]]
    refine List.Pairwise.cons (fun b hb => ?_) (List.pairwise_singleton _ _)
    obtain rfl : b = [66] := by simpa using hb
    decide
  unfold sortB
  rw [h]
  rfl
theorem comp_AB : compB AB = AB := by kernel_rfl
theorem sf_AB (k : Nat) : slices_Sort_string_string.f k AB = some AB := by
  unfold slices_Sort_string_string.f
  rw [if_pos (by decide), sort_AB]
theorem cf_AB : slices_Compact_string_string.f AB = some AB := by
  unfold slices_Compact_string_string.f
  rw [if_pos (by decide), comp_AB]
theorem subs_H0 : hier_Subs.f 40 H0 ⟨#[65]⟩ = some AB := by
  have h : hier_Subs.f 40 H0 ⟨#[65]⟩ = (slices_Sort_string_string.f 30 AB).bind fun t => (slices_Compact_string_string.f t).bind fun u => some u := by kernel_rfl
  rw [h, sf_AB, Option.bind_some, cf_AB]
  rfl
theorem targets_H0 : hier_Targets.f 40 H0 ⟨#[65]⟩ ⟨#[109]⟩ = some AB := by
  unfold hier_Targets.f
  rw [subs_H0]
  have h : hier_Targets.l0 40 ⟨#[109]⟩ [] AB (AB.length : Int) 0 H0 = (slices_Sort_string_string.f 30 AB).bind fun t => (slices_Compact_string_string.f t).bind fun u => some u := by kernel_rfl
  show hier_Targets.l0 40 ⟨#[109]⟩ [] AB (AB.length : Int) 0 H0 = some AB
  rw [h, sf_AB, Option.bind_some, cf_AB]
  rfl
theorem awake_true : dataflowlaw10_awake.f 40 = some true := by
  have e1 : dataflowlaw10_small.f = some H0 := rfl
  have e2 : hier_Lookup.f 40 H0 ⟨#[66]⟩ ⟨#[109]⟩ = some (⟨#[66]⟩, ⟨#[109]⟩, false, [], ⟨#[]⟩, true) := by kernel_rfl
  have e3 : hier_Find.f 40 H0 ⟨#[66]⟩ = some 1 := by kernel_rfl
  have e4 : hier_IsSub.f 40 H0 ⟨#[66]⟩ ⟨#[65]⟩ = some true := by kernel_rfl
  unfold dataflowlaw10_awake.f
  rw [e1, Option.bind_some, e2, Option.bind_some, if_pos rfl, if_pos (by kernel_rfl), e3, Option.bind_some, if_pos rfl, e4, Option.bind_some, if_pos rfl, subs_H0, Option.bind_some, if_pos (by decide), targets_H0]
  rfl
theorem awake_ev : Ev (fun k => dataflowlaw10_awake.f k) true := Ev.of (fun k => dataflowlaw10_awake.mono k) awake_true
theorem awake_tot : Tot (fun k => (dataflowlaw10_awake.f k).bind fun t => some t) (fun r => r = true) := Tot.bindE awake_ev (Tot.now rfl)
end Go.Proofs.YtkbclcecmcdlfaaDoor.Pu
