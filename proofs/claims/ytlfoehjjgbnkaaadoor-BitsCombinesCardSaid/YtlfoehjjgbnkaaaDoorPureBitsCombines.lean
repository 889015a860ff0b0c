/- BitsCombines, the statement over lists alone: Union, Minus and Both have exactly the elements that belong there, in normal form. -/
import Derived.Test.YtlfoehjjgbnkaaaDoorPBx8
import Derived.Test.YtlfoehjjgbnkaaaDoorBE5
namespace Go.Proofs.YtlfoehjjgbnkaaaDoor.Pure
set_option linter.unusedVariables false
set_option linter.unusedSimpArgs false
open Go.RowKit Go.Proofs.YtlfoehjjgbnkaaaDoor.Pu Go.Proofs.YtlfoehjjgbnkaaaDoor.PB Go.Proofs.YtlfoehjjgbnkaaaDoorW.PrintWords Go.Proofs.YtlfoehjjgbnkaaaDoorW.PrintLast
theorem cut_length_le (L : List Nat) : (cut L).length ≤ L.length := by unfold cut; rw [List.length_take]; omega
theorem combines_awake (A B : List Int) : Ev (fun k => dataflowlaw01_BitsCombines.j0 k A B true) true :=
  Ev.step (fun k => by rw [dataflowlaw01_BitsCombines.j0]) (Ev_pos rfl (Ev.bind awake (Ev.now _)))
theorem BitsCombines : dataflowlaw01_BitsCombines.Pure := by
  intro l0 l1 _ _ hwf0 _ _ hwf1
  obtain ⟨A, rfl, hA⟩ := nats_of l0 hwf0
  obtain ⟨B, rfl, hB⟩ := nats_of l1 hwf1
  apply Ev.rounds
  unfold dataflowlaw01_BitsCombines.f
  by_cases ha : ((ints A).length : Int) > 1100
  · exact Ev_pos ha (combines_awake _ _)
  · refine Ev_neg ha ?_
    by_cases hb : ((ints B).length : Int) > 1100
    · rw [decide_eq_true hb]
      exact combines_awake _ _
    · rw [decide_eq_false hb]
      rw [ints_length] at ha hb
      have lu := cut_length_le (uni A B)
      have ld := cut_length_le (dif A B)
      have li := cut_length_le (int A B)
      have lu2 : (uni A B).length ≤ 2200 := by unfold uni; rw [List.length_map, List.length_range]; omega
      have ld2 : (dif A B).length ≤ 2200 := by unfold dif; rw [List.length_map, List.length_range]; omega
      have li2 : (int A B).length ≤ 2200 := by unfold int; rw [List.length_map, List.length_range]; omega
      refine Ev.step (fun k => by rw [dataflowlaw01_BitsCombines.j0]) (Ev_neg (by simp) ?_)
      have r1 : Ev (fun k => dataflowref01_Union.f k (ints A) (ints B)) (ints (cut (uni A B))) := by
        unfold dataflowref01_Union.f
        rw [← union_is A B hA hB]
        exact Ev.bind (merge true true true A B hA hB (by omega) (by omega)) (Ev.now _)
      have r2 : Ev (fun k => dataflowref01_Minus.f k (ints A) (ints B)) (ints (cut (dif A B))) := by
        unfold dataflowref01_Minus.f
        rw [← minus_is A B hA hB]
        exact Ev.bind (merge true false false A B hA hB (by omega) (by omega)) (Ev.now _)
      have r3 : Ev (fun k => dataflowref01_Both.f k (ints A) (ints B)) (ints (cut (int A B))) := by
        unfold dataflowref01_Both.f
        rw [← both_is A B hA]
        exact Ev.bind (merge false false true A B hA hB (by omega) (by omega)) (Ev.now _)
      refine Ev.bind (union A B hA hB (by omega) (by omega)) (Ev.bind r1 (Ev.bind (equal _ (by rw [ints_length]; omega)) (Ev_pos rfl ?_)))
      refine Ev.bind (minus A B hA hB (by omega)) (Ev.bind r2 (Ev.bind (equal _ (by rw [ints_length]; omega)) (Ev_pos rfl ?_)))
      refine Ev.bind (both A B hA hB (by omega) (by omega)) (Ev.bind r3 (Ev.bind (equal _ (by rw [ints_length]; omega)) (Ev_pos rfl ?_)))
      exact Ev.bind awake (Ev.now _)
end Go.Proofs.YtlfoehjjgbnkaaaDoor.Pure
