/- The closed example of the law: it holds. -/
import Derived.Test.YtkbclcecmcdlfaaH10
namespace Go.Proofs.Ytkbclcecmcdlfaa.Pu
set_option linter.unusedVariables false
set_option linter.unusedSimpArgs false
open Go.RowKit Go.Proofs.Ytkbclcecmcdlfaa.PH Go.Proofs.YtkbclcecmcdlfaaW.PrintWords Go.Proofs.YtkbclcecmcdlfaaW.PrintLast Go.Proofs.YtkbclcecmcdlfaaW.PrintMore
example : hier_index.f 40 [⟨⟨#[65]⟩, ⟨#[]⟩, [], []⟩, ⟨⟨#[66]⟩, ⟨#[65]⟩, [], []⟩] = some [(⟨#[65]⟩, 0), (⟨#[66]⟩, 1)] := by kernel_rfl
example : (⟨#[66]⟩ : ByteArray).toList = [66] := by kernel_rfl
theorem awake_true : dataflowlaw10_awake.f 40 = some true := by kernel_rfl
end Go.Proofs.Ytkbclcecmcdlfaa.Pu
