/- What HierOf's input reads as: the kinds of the print, out of the row's own reading. -/
import Derived.Test.YtkbclcecmcdlfaaOpen
import Derived.Test.YtkbclcecmcdlfaaPHx0
namespace Go.Proofs.Ytkbclcecmcdlfaa.Pu
set_option linter.unusedVariables false
open Go.RowKit Go.Proofs.Ytkbclcecmcdlfaa.Open Go.Proofs.Ytkbclcecmcdlfaa.PH Go.Proofs.YtkbclcecmcdlfaaW.PrintWords Go.Proofs.YtkbclcecmcdlfaaW.PrintLast Go.Proofs.YtkbclcecmcdlfaaW.PrintMore
theorem o37 (w : World) (n : Nat) : Ld Try.prog w n 37 k37 (fun x => x.f0.size ≤ reachBytes ∧ x.f1.size ≤ reachBytes) :=
  Ld.iso (fun x : S37 => (x.f0, x.f1)) (fun p => ⟨p.1, p.2⟩) (fun _ => rfl) (Ld.struct Try.underlying37 (by kernel_rfl) fun m _ =>
    LdP.cons rfl (by kernel_rfl) (Ld.string Try.underlying9) (LdP.one rfl (by kernel_rfl) (Ld.string Try.underlying9)))
theorem o117 (w : World) (n : Nat) : Ld Try.prog w n 117 k117 (fun _ => True) :=
  Ld.fix mono117 (fun n k ih =>
    (Ld.iso (S := fun _ => True) (fun x : S117 => (x.f0, x.f1, x.f2, x.f3, x.f4)) (fun p => ⟨p.1, p.2.1, p.2.2.1, p.2.2.2.1, p.2.2.2.2⟩) (fun _ => rfl) ((Ld.struct Try.underlying117 (by kernel_rfl) fun m hm =>
    LdP.cons rfl (by kernel_rfl) (Ld.int (by kernel_rfl)) (LdP.cons rfl (by kernel_rfl) (Ld.int (by kernel_rfl)) (LdP.cons rfl (by kernel_rfl) (Ld.string (by kernel_rfl)) (LdP.cons rfl (by kernel_rfl) (Ld.string (by kernel_rfl)) (LdP.one rfl (by kernel_rfl) (Ld.slice (b := 72) (by kernel_rfl) (by rw [sz117]; kernel_rfl) (by kernel_rfl) fun m' hm' => ih m' (by omega))))))).imp (fun _ _ => trivial)))) n
theorem o114 (w : World) (n : Nat) : Ld Try.prog w n 114 k114 (fun _ => True) :=
  Ld.fix mono114 (fun n k ih =>
    (Ld.iso (S := fun _ => True) (fun x : S114 => (x.f0, x.f1, x.f2, x.f3, x.f4, x.f5)) (fun p => ⟨p.1, p.2.1, p.2.2.1, p.2.2.2.1, p.2.2.2.2.1, p.2.2.2.2.2⟩) (fun _ => rfl) ((Ld.struct Try.underlying114 (by kernel_rfl) fun m hm =>
    LdP.cons rfl (by kernel_rfl) (Ld.int (by kernel_rfl)) (LdP.cons rfl (by kernel_rfl) (Ld.string (by kernel_rfl)) (LdP.cons rfl (by kernel_rfl) (Ld.string (by kernel_rfl)) (LdP.cons rfl (by kernel_rfl) (Ld.slice (b := 72) (by kernel_rfl) (by kernel_rfl) (by kernel_rfl) fun m' _ => o117 w m') (LdP.cons rfl (by kernel_rfl) (Ld.slice (b := 112) (by kernel_rfl) (by rw [sz114]; kernel_rfl) (by kernel_rfl) fun m' hm' => ih m' (by omega)) (LdP.one rfl (by kernel_rfl) (Ld.slice (b := 112) (by kernel_rfl) (by rw [sz114]; kernel_rfl) (by kernel_rfl) fun m' hm' => ih m' (by omega)))))))).imp (fun _ _ => trivial)))) n
/-- A slice of things of b bytes each, all of them small. -/
abbrev SzL {α : Type} (b : Nat) (S : α → Prop) (l : List α) : Prop := l.length ≤ maxLen ∧ l.length * b ≤ reachBytes ∧ ∀ a ∈ l, S a
def Sz37 (x : S37) : Prop := x.f0.size ≤ reachBytes ∧ x.f1.size ≤ reachBytes
def Sz48 (x : S48) : Prop := x.f0.size ≤ reachBytes ∧ SzL 32 Sz37 x.f2 ∧ x.f3.size ≤ reachBytes
def Sz44 (x : S44) : Prop := x.f0.size ≤ reachBytes ∧ x.f1.size ≤ reachBytes ∧ SzL 32 Sz37 x.f2 ∧ SzL 88 Sz48 x.f3
theorem o48 (w : World) (n : Nat) : Ld Try.prog w n 48 k48 Sz48 :=
  (Ld.iso (fun x : S48 => (x.f0, x.f1, x.f2, x.f3, x.f4)) (fun p => ⟨p.1, p.2.1, p.2.2.1, p.2.2.2.1, p.2.2.2.2⟩) (fun _ => rfl) (Ld.struct Try.underlying48 (by kernel_rfl) fun m _ =>
    LdP.cons rfl (by kernel_rfl) (Ld.string (by kernel_rfl)) (LdP.cons rfl (by kernel_rfl) (Ld.bool (by kernel_rfl)) (LdP.cons rfl (by kernel_rfl) (Ld.slice (b := 32) (by kernel_rfl) (by kernel_rfl) (by kernel_rfl) fun m' _ => o37 w m') (LdP.cons rfl (by kernel_rfl) (Ld.string (by kernel_rfl)) (LdP.one rfl (by kernel_rfl) (Ld.slice (b := 112) (by kernel_rfl) (by kernel_rfl) (by kernel_rfl) fun m' _ => o114 w m'))))))).imp
    (fun x h => ⟨h.1, h.2.2.1, h.2.2.2.1⟩)
theorem o44 (w : World) (n : Nat) : Ld Try.prog w n 44 k44 Sz44 :=
  (Ld.iso (fun x : S44 => (x.f0, x.f1, x.f2, x.f3)) (fun p => ⟨p.1, p.2.1, p.2.2.1, p.2.2.2⟩) (fun _ => rfl) (Ld.struct Try.underlying44 (by kernel_rfl) fun m _ =>
    LdP.cons rfl (by kernel_rfl) (Ld.string (by kernel_rfl)) (LdP.cons rfl (by kernel_rfl) (Ld.string (by kernel_rfl)) (LdP.cons rfl (by kernel_rfl) (Ld.slice (b := 32) (by kernel_rfl) (by kernel_rfl) (by kernel_rfl) fun m' _ => o37 w m') (LdP.one rfl (by kernel_rfl) (Ld.slice (b := 88) (by kernel_rfl) (by kernel_rfl) (by kernel_rfl) fun m' _ => o48 w m')))))).imp
    (fun x h => h)
theorem o24 (w : World) (n : Nat) : Ld Try.prog w n 24 (Kd.slice 44 k44) (SzL 80 Sz44) :=
  Ld.struct Try.underlying24 (by kernel_rfl) fun m _ => LdP.one rfl (by kernel_rfl) (Ld.slice (b := 80) (by kernel_rfl) (by kernel_rfl) (by kernel_rfl) fun m' _ => o44 w m')
end Go.Proofs.Ytkbclcecmcdlfaa.Pu
