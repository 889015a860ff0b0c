/- What a hierarchy reads as: the kinds of the print, out of the row's own reading. -/
import Derived.Test.YtkbclcecmcdlfaaDoorOpen
import Derived.Test.YtkbclcecmcdlfaaDoorDP3
namespace Go.Proofs.YtkbclcecmcdlfaaDoor.Pu
set_option linter.unusedVariables false
open Go.RowKit Go.Proofs.YtkbclcecmcdlfaaDoor.Open Go.Proofs.YtkbclcecmcdlfaaDoor.PD Go.Proofs.YtkbclcecmcdlfaaDoorW.PrintWords Go.Proofs.YtkbclcecmcdlfaaDoorW.PrintLast Go.Proofs.YtkbclcecmcdlfaaDoorW.PrintMore
/-- A slice of things of b bytes each, all of them small. -/
abbrev SzL {α : Type} (b : Nat) (S : α → Prop) (l : List α) : Prop := l.length ≤ maxLen ∧ l.length * b ≤ reachBytes ∧ ∀ a ∈ l, S a
theorem o67 (w : World) (n : Nat) : Ld Tryd.prog w n 67 k67 (fun _ => True) :=
  (Ld.iso (fun x : S67 => (x.f0, x.f1)) (fun p => ⟨p.1, p.2⟩) (fun _ => rfl) (Ld.struct Tryd.underlying67 (by kernel_rfl) fun m _ =>
    LdP.cons rfl (by kernel_rfl) (Ld.string Tryd.underlying9) (LdP.one rfl (by kernel_rfl) (Ld.string Tryd.underlying9)))).imp (fun _ _ => trivial)
def Sz37 (x : S37) : Prop := x.f2.length * 16 ≤ reachBytes
theorem o37 (w : World) (n : Nat) : Ld Tryd.prog w n 37 k37 Sz37 :=
  (Ld.iso (fun x : S37 => (x.f0, x.f1, x.f2, x.f3)) (fun p => ⟨p.1, p.2.1, p.2.2.1, p.2.2.2⟩) (fun _ => rfl) (Ld.struct Tryd.underlying37 (by kernel_rfl) fun m _ =>
    LdP.cons rfl (by kernel_rfl) (Ld.string (by kernel_rfl)) (LdP.cons rfl (by kernel_rfl) (Ld.bool (by kernel_rfl)) (LdP.cons rfl (by kernel_rfl) (Ld.slice (b := 16) (by kernel_rfl) (by kernel_rfl) (by kernel_rfl) fun m' _ => Ld.string (by kernel_rfl)) (LdP.one rfl (by kernel_rfl) (Ld.string (by kernel_rfl))))))).imp
    (fun x h => h.2.2.1.2.1)
def Sz32 (x : S32) : Prop := x.f2.length * 32 ≤ reachBytes ∧ x.f3.length * 64 ≤ reachBytes ∧ ∀ s ∈ x.f3, Sz37 s
theorem o32 (w : World) (n : Nat) : Ld Tryd.prog w n 32 k32 Sz32 :=
  (Ld.iso (fun x : S32 => (x.f0, x.f1, x.f2, x.f3)) (fun p => ⟨p.1, p.2.1, p.2.2.1, p.2.2.2⟩) (fun _ => rfl) (Ld.struct Tryd.underlying32 (by kernel_rfl) fun m _ =>
    LdP.cons rfl (by kernel_rfl) (Ld.string (by kernel_rfl)) (LdP.cons rfl (by kernel_rfl) (Ld.string (by kernel_rfl)) (LdP.cons rfl (by kernel_rfl) (Ld.slice (b := 32) (by kernel_rfl) (by kernel_rfl) (by kernel_rfl) fun m' _ => o67 w m') (LdP.one rfl (by kernel_rfl) (Ld.slice (b := 64) (by kernel_rfl) (by kernel_rfl) (by kernel_rfl) fun m' _ => o37 w m')))))).imp
    (fun x h => ⟨h.2.2.1.2.1, h.2.2.2.2.1, h.2.2.2.2.2⟩)
theorem o24 (w : World) (n : Nat) : Ld Tryd.prog w n 24 (Kd.slice 32 k32) (SzL 80 Sz32) :=
  Ld.struct Tryd.underlying24 (by kernel_rfl) fun m _ => LdP.one rfl (by kernel_rfl) (Ld.slice (b := 80) (by kernel_rfl) (by kernel_rfl) (by kernel_rfl) fun m' _ => o32 w m')
theorem cl_mem {H : List S32} {i : Nat} (h : i < H.length) : cl H i ∈ H := by
  have : cl H i = H.getD i z32 := by simp [cl, rd_T32]
  rw [this]
  exact getD_mem z32 H i h
theorem sized_of {H : List S32} (h : SzL 80 Sz32 H) : Sized H where
  fld := fun i hi => by have h1 := (h.2.2 _ (cl_mem hi)).1; rw [show reachBytes = 140737488351232 from rfl] at h1; omega
  mth := fun i hi => by have h1 := (h.2.2 _ (cl_mem hi)).2.1; rw [show reachBytes = 140737488351232 from rfl] at h1; omega
  prm := fun i hi s hs => by have h1 : s.f2.length * 16 ≤ reachBytes := (h.2.2 _ (cl_mem hi)).2.2 s hs; rw [show reachBytes = 140737488351232 from rfl] at h1; omega
end Go.Proofs.YtkbclcecmcdlfaaDoor.Pu
