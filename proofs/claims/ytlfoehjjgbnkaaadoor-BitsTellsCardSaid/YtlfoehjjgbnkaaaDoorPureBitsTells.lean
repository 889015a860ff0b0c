/- BitsTells, the statement over lists alone: every question is answered as by the lists of the elements. -/
import Derived.Test.YtlfoehjjgbnkaaaDoorPBx10
import Derived.Test.YtlfoehjjgbnkaaaDoorBE6
namespace Go.Proofs.YtlfoehjjgbnkaaaDoor.Pure
set_option linter.unusedVariables false
set_option linter.unusedSimpArgs false
open Go.RowKit Go.Proofs.YtlfoehjjgbnkaaaDoor.Pu Go.Proofs.YtlfoehjjgbnkaaaDoor.PB Go.Proofs.YtlfoehjjgbnkaaaDoorW.PrintWords Go.Proofs.YtlfoehjjgbnkaaaDoorW.PrintLast
theorem tells_awake (A B : List Int) (x : Int) : Ev (fun k => dataflowlaw01_BitsTells.j0 k A B x true) true :=
  Ev.step (fun k => by rw [dataflowlaw01_BitsTells.j0]) (Ev_pos rfl (Ev.bind awake (Ev.now _)))
theorem tells_2 (A B : List Nat) (hA : WW A) (hB : WW B) (ha : A.length ≤ 1100) (hb : B.length ≤ 1100) : Ev (fun k => dataflowlaw01_BitsTells.j2 k (ints A) (ints B) false) true := by
  have la := length_elems A
  refine Ev.step (fun k => by rw [dataflowlaw01_BitsTells.j2]) (Ev_neg (by simp) ?_)
  refine Ev.bind (within A B hA hB (by omega)) (Ev.bind (ref_within A B hA hB (by omega) (by omega)) (Ev_pos (by simp) ?_))
  refine Ev.bind (same A B hA hB (by omega) (by omega)) (Ev.bind (ref_list A hA (by omega)) (Ev.bind (ref_list B hB (by omega)) ?_))
  refine Ev.bind (equalInts (ints (elems A)) (ints (elems B)) (by rw [ints_length]; omega)) (Ev_pos ?_ (Ev.bind awake (Ev.now _)))
  rw [beq_iff_eq, Bool.eq_iff_iff, decide_eq_true_iff, decide_eq_true_iff]
  exact ⟨fun h => by rw [h], fun h => ints_inj h⟩
theorem tells_1 (A B : List Nat) (hA : WW A) (hB : WW B) (ha : A.length ≤ 1100) (hb : B.length ≤ 1100) (x : Int) (h1 : -9223372036854775808 ≤ x) (h2 : x ≤ 9223372036854775807) : Ev (fun k => dataflowlaw01_BitsTells.j1 k (ints A) (ints B) x false) true := by
  have la := length_elems A
  obtain ⟨r, hr, hs⟩ := next A hA (by omega) x h1 h2
  obtain ⟨r', hr', hs'⟩ := ref_next A hA (by omega) x
  have e := hs.unique hs'
  subst e
  refine Ev.step (fun k => by rw [dataflowlaw01_BitsTells.j1]) (Ev_neg (by simp) ?_)
  refine Ev.bind (list A hA (by omega)) (Ev.bind (ref_list A hA (by omega)) (Ev.bind (equalInts (ints (elems A)) (ints (elems A)) (by rw [ints_length]; omega)) (Ev_pos (by simp) ?_)))
  refine Ev_bindc (has A hA x h1 h2) (Ev.bind (ref_has A hA (by omega) x) (Ev_neg (by simp) ?_))
  refine Ev.bind (count A hA (by omega)) (Ev.bind (ref_list A hA (by omega)) (Ev_pos (by rw [ints_length]; rfl) ?_))
  refine Ev.bind hr (Ev.bind hr' ?_)
  rw [show (r != r) = false by simp]
  exact tells_2 A B hA hB ha hb
theorem BitsTells : dataflowlaw01_BitsTells.Pure := by
  intro l0 l1 x _ _ hwf0 _ _ hwf1 hx
  obtain ⟨A, rfl, hA⟩ := nats_of l0 hwf0
  obtain ⟨B, rfl, hB⟩ := nats_of l1 hwf1
  obtain ⟨h1, h2⟩ := bd_i64 hx
  apply Ev.rounds
  unfold dataflowlaw01_BitsTells.f
  by_cases ha : ((ints A).length : Int) > 1100
  · exact Ev_pos ha (tells_awake _ _ _)
  · refine Ev_neg ha ?_
    by_cases hb : ((ints B).length : Int) > 1100
    · rw [decide_eq_true hb]
      exact tells_awake _ _ _
    · rw [decide_eq_false hb]
      rw [ints_length] at ha hb
      have t1 := tells_1 A B hA hB (by omega) (by omega) x h1 h2
      refine Ev.step (fun k => by rw [dataflowlaw01_BitsTells.j0]) (Ev_neg (by simp) ?_)
      refine Ev.bind (check A hA (by omega)) (Ev.bind (ref_valid A hA (by omega)) ?_)
      cases hv : valid A with
      | true =>
        refine Ev_neg (by simp) (Ev.bind (ref_valid A hA (by omega)) ?_)
        rw [hv]
        exact Ev_pos rfl t1
      | false =>
        refine Ev_neg (by simp) (Ev.bind (ref_valid A hA (by omega)) ?_)
        rw [hv]
        refine Ev_neg (by simp) (Ev.bind (check A hA (by omega)) ?_)
        rw [hv]
        simpa using t1
end Go.Proofs.YtlfoehjjgbnkaaaDoor.Pure
