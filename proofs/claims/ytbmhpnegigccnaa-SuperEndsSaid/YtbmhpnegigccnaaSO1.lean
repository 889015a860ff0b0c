/- What the law's input reads as: the kinds of the print, out of the row's own reading. -/
import Derived.Test.YtbmhpnegigccnaaOpen
import Derived.Test.YtbmhpnegigccnaaPSx0
namespace Go.Proofs.Ytbmhpnegigccnaa.Pu
set_option linter.unusedVariables false
open Go.RowKit Go.Proofs.Ytbmhpnegigccnaa.Open Go.Proofs.Ytbmhpnegigccnaa.PS Go.Proofs.YtbmhpnegigccnaaW.PrintWords Go.Proofs.YtbmhpnegigccnaaW.PrintLast Go.Proofs.YtbmhpnegigccnaaW.PrintMore
theorem o36 (w : World) (n : Nat) : Ld Try.prog w n 36 k36 (fun _ => True) :=
  (Ld.iso (fun x : S36 => (x.f0, x.f1, x.f2)) (fun p => ⟨p.1, p.2.1, p.2.2⟩) (fun _ => rfl) (Ld.struct Try.underlying36 (by kernel_rfl) fun m _ =>
    LdP.cons rfl (by kernel_rfl) (Ld.int Try.underlying3) (LdP.cons rfl (by kernel_rfl) (Ld.int Try.underlying3) (LdP.one rfl (by kernel_rfl) (Ld.int Try.underlying3))))).imp (fun _ _ => trivial)
theorem o33 (w : World) (n : Nat) : Ld Try.prog w n 33 k33 (fun _ => True) :=
  (Ld.iso (fun x : S33 => (x.f0, x.f1, x.f2, x.f3)) (fun p => ⟨p.1, p.2.1, p.2.2.1, p.2.2.2⟩) (fun _ => rfl) (Ld.struct Try.underlying33 (by kernel_rfl) fun m _ =>
    LdP.cons rfl (by kernel_rfl) (Ld.int Try.underlying3) (LdP.cons rfl (by kernel_rfl) (Ld.int Try.underlying3) (LdP.cons rfl (by kernel_rfl) (Ld.int Try.underlying3) (LdP.one rfl (by kernel_rfl) (Ld.int Try.underlying3)))))).imp (fun _ _ => trivial)
theorem o25 (w : World) (n : Nat) : Ld Try.prog w n 25 (Kd.pair (Kd.slice 36 k36) (Kd.pair (Kd.slice 33 k33) (Kd.int .i64))) (fun _ => True) :=
  (Ld.struct Try.underlying25 (by kernel_rfl) fun m _ =>
    LdP.cons rfl (by kernel_rfl) (Ld.slice (b := 24) (by kernel_rfl) (by kernel_rfl) (by kernel_rfl) fun m' _ => o36 w m') (LdP.cons rfl (by kernel_rfl) (Ld.slice (b := 32) (by kernel_rfl) (by kernel_rfl) (by kernel_rfl) fun m' _ => o33 w m') (LdP.one rfl (by kernel_rfl) (Ld.int Try.underlying3)))).imp (fun _ _ => trivial)
end Go.Proofs.Ytbmhpnegigccnaa.Pu
