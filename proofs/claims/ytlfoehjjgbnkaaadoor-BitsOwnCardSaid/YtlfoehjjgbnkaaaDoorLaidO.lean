/- What the rows' condition on math/bits.deBruijn64tab gives the walks: the table's cells; and a world that meets it. -/
import Derived.Test.YtlfoehjjgbnkaaaDoorRows
import Derived.Test.YtlfoehjjgbnkaaaDoorPOx0
import Derived.Test.YtlfoehjjgbnkaaaDoorPOx1
import Derived.ProofKit
import Derived.LaidMore
import Derived.OpenShut
import Derived.Stop.Joined
import Derived.Lib.LaidTab
namespace Go.Proofs.YtlfoehjjgbnkaaaDoor
open Go.ChangeShapes Go.WideShapes Go.ChangeAt Go.WideMaps Go.WideElems Go.RowKit
abbrev laidList {H : Type} : List (String × DataW H) := [("math/bits.deBruijn64tab", Rows.laid_math_bits_deBruijn64tab)]
theorem door_met (os : Os) (args : Array Value) : laidMetH Tryd.prog laidList ((World.doorLaid Tryd.prog 400 os).forCall (fun _ _ => 0) ⟨#[], args, []⟩).memory :=
  laidMetH_of_parts3 (fuel := 8) (laidMet_of_run' 8 (by kernel_rfl) (by kernel_rfl)) (by kernel_rfl) (by kernel_rfl)
theorem gTab : Tryd.prog.globalNamed "math/bits.deBruijn64tab" = some 0 := by kernel_rfl
theorem tTab : (Tryd.prog.globals[0]?).map (·.type) = some 60 := by kernel_rfl
theorem tab_of {W : World} (h : laidMetH Tryd.prog laidList W) : PO.TabW W := by
  rw [MakeChecks.laidMetH_plain _ _ _ (by kernel_rfl)] at h
  obtain ⟨ps, ⟨g0, t0, cs0, f0, p0, q0, hg0, ht0, hv0, hd0, _⟩, _⟩ := h
  obtain rfl := Option.some.inj (gTab.symm.trans hg0)
  obtain rfl := Option.some.inj (tTab.symm.trans ht0)
  have hz := Lib.cells_of_tab (k := .u8) (zs := Lib.deBruijn64tab.map Int.ofNat) Tryd.underlying60 Tryd.underlying5 (by kernel_rfl) (by kernel_rfl) hd0
  intro j hj
  have := World.var?_cell hg0 hv0 j
  rw [this, ← Array.getElem?_toList, hz]
  simp [hj]
end Go.Proofs.YtlfoehjjgbnkaaaDoor
