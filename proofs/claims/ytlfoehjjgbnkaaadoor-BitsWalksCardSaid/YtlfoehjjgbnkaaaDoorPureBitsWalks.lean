/- BitsWalks, the statement over lists alone: the elements that Next finds one after the other are those of List. -/
import Derived.Test.YtlfoehjjgbnkaaaDoorPBx3
import Derived.Test.YtlfoehjjgbnkaaaDoorBE2
namespace Go.Proofs.YtlfoehjjgbnkaaaDoor.Pure
set_option linter.unusedVariables false
set_option linter.unusedSimpArgs false
open Go.RowKit Go.Proofs.YtlfoehjjgbnkaaaDoor.Pu Go.Proofs.YtlfoehjjgbnkaaaDoor.PB Go.Proofs.YtlfoehjjgbnkaaaDoorW.PrintWords Go.Proofs.YtlfoehjjgbnkaaaDoorW.PrintLast
theorem BitsWalks : dataflowlaw01_BitsWalks.Pure := by
  intro l0 _ _ hwf
  obtain ⟨L, rfl, hW⟩ := nats_of l0 hwf
  apply Ev.rounds
  unfold dataflowlaw01_BitsWalks.f
  by_cases hlen : ((ints L).length : Int) > 1100
  · exact Ev_pos hlen (Ev.bind awake (Ev.now _))
  · rw [ints_length] at hlen
    refine Ev_neg (by rw [ints_length]; exact hlen) ?_
    refine Ev.bind (list L hW (by omega)) (Ev.bind (count L hW (by omega)) (Ev_pos (by rw [ints_length]; rfl) ?_))
    exact walk_loop L hW (by omega) _ 0 (-1) rfl (Nat.zero_le _) (by omega) (by omega) (fun j hj => by simp; omega)
end Go.Proofs.YtlfoehjjgbnkaaaDoor.Pure
