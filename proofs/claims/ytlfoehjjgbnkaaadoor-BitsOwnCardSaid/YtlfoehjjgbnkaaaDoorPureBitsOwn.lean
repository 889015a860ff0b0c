/- BitsOwn, the statement over lists alone: the copies are still the arguments once the results have been written into. -/
import Derived.Test.YtlfoehjjgbnkaaaDoorPOx4
import Derived.Test.YtlfoehjjgbnkaaaDoorBO7
namespace Go.Proofs.YtlfoehjjgbnkaaaDoor.Pure
set_option linter.unusedVariables false
set_option linter.unusedSimpArgs false
open Go.RowKit Go.Proofs.YtlfoehjjgbnkaaaDoor.Pu Go.Proofs.YtlfoehjjgbnkaaaDoor.PO Go.Proofs.YtlfoehjjgbnkaaaDoorW.PrintWords Go.Proofs.YtlfoehjjgbnkaaaDoorW.PrintLast
theorem own_awake (A B : List Int) (x : Int) : Ev (fun k => dataflowlaw01_BitsOwn.j0 k A B x true) true :=
  Ev.step (fun k => by rw [dataflowlaw01_BitsOwn.j0]) (Ev_pos rfl (Ev.bind awake (Ev.now _)))
theorem with_some (A : List Nat) (hA : WW A) (hl : A.length ≤ 1000000) (x : Int) : ∃ p, bits_With.f (ints A) x = some p := by
  by_cases h : 0 ≤ x ∧ x < 65536
  · obtain ⟨n, rfl⟩ := Int.eq_ofNat_of_zero_le h.1
    exact ⟨_, with_ A hA hl n (by omega)⟩
  · exact ⟨([], 4), by unfold bits_With.f; rw [if_neg h]⟩
theorem own_main {A B : List Nat} (hA : WW A) (hB : WW B) (ha : A.length ≤ 1100) (hb : B.length ≤ 1100) (x : Int) (h1 : -9223372036854775808 ≤ x) (h2 : x ≤ 9223372036854775807) :
    Ev (fun k => dataflowlaw01_BitsOwn.j0 k (ints A) (ints B) x false) true := by
  obtain ⟨M, hM, -, -, -⟩ := without A hA (by omega) x h1 h2
  obtain ⟨p, hp⟩ := with_some A hA (by omega) x
  refine Ev.step (fun k => by rw [dataflowlaw01_BitsOwn.j0]) (Ev_neg (by simp) ?_)
  refine Ev_bindc rfl ?_
  refine Ev_pos (by rw [ints_length, List.length_nil]; omega) ?_
  refine Ev_bindc rfl ?_
  refine Ev_bindc rfl ?_
  refine Ev_pos (by rw [ints_length, List.length_nil]; omega) ?_
  refine Ev_bindc rfl ?_
  rw [List.nil_append, List.nil_append]
  refine Ev.bind (union A B hA hB (by omega) (by omega)) ?_
  refine Ev.bind (minus A B hA hB (by omega)) ?_
  refine Ev.bind (both A B hA hB (by omega) (by omega)) ?_
  refine Ev_bindc hM ?_
  refine Ev_bindc hp ?_
  refine Ev_pos (by simp) ?_
  refine Ev.bind (equal _ (by rw [ints_length]; omega)) (Ev_pos rfl ?_)
  refine Ev.bind (equal _ (by rw [ints_length]; omega)) (Ev_pos rfl ?_)
  exact Ev.bind awake (Ev.now _)
theorem BitsOwn : dataflowlaw01_BitsOwn.Pure := by
  intro l0 l1 a2 _ _ hwf0 _ _ hwf1 hwf2
  obtain ⟨A, rfl, hA⟩ := nats_of l0 hwf0
  obtain ⟨B, rfl, hB⟩ := nats_of l1 hwf1
  obtain ⟨h1, h2⟩ := bd_i64 hwf2
  apply Ev.rounds
  unfold dataflowlaw01_BitsOwn.f
  by_cases ha : ((ints A).length : Int) > 1100
  · exact Ev_pos ha (own_awake _ _ _)
  · refine Ev_neg ha ?_
    by_cases hb : ((ints B).length : Int) > 1100
    · rw [decide_eq_true hb]; exact own_awake _ _ _
    · rw [decide_eq_false hb]
      rw [ints_length] at ha hb
      exact own_main hA hB (by omega) (by omega) a2 h1 h2
end Go.Proofs.YtlfoehjjgbnkaaaDoor.Pure
