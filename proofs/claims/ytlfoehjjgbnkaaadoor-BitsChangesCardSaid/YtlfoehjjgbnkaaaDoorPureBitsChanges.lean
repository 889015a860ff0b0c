/- BitsChanges, the statement over lists alone: With and Without change the membership of one number alone. -/
import Derived.Test.YtlfoehjjgbnkaaaDoorPBx6
import Derived.Test.YtlfoehjjgbnkaaaDoorBE7
import Derived.Test.YtlfoehjjgbnkaaaDoorBE6
namespace Go.Proofs.YtlfoehjjgbnkaaaDoor.Pure
set_option linter.unusedVariables false
set_option linter.unusedSimpArgs false
open Go.RowKit Go.Proofs.YtlfoehjjgbnkaaaDoor.Pu Go.Proofs.YtlfoehjjgbnkaaaDoor.PB Go.Proofs.YtlfoehjjgbnkaaaDoorW.PrintWords Go.Proofs.YtlfoehjjgbnkaaaDoorW.PrintLast
theorem cut_length_le (L : List Nat) : (cut L).length ≤ L.length := by unfold cut; rw [List.length_take]; omega
theorem keep_is {L M : List Nat} (hM : WW M) (x : Int) (h : ∀ z : Nat, mem M z = (mem L z && decide ((z : Int) ≠ x))) : mk (keep x (elems L)) = cut M := by
  refine set_ext (mk_WW (keep_asc (asc_elems L) x)) (cut_WW hM) (mk_norm (keep_asc (asc_elems L) x)) (cut_norm _) (fun z => ?_)
  rw [keep_mem, cut_mem, h]
theorem elem_yes (x : Nat) (h : x < 65536) : dataflowref01_Elem.f (x : Int) = some true := by
  unfold dataflowref01_Elem.f
  rw [if_pos (by omega), decide_eq_true (by omega)]
theorem elem_no (x : Int) (h : ¬ (0 ≤ x ∧ x < 65536)) : dataflowref01_Elem.f x = some false := by
  unfold dataflowref01_Elem.f
  by_cases h0 : x ≥ 0
  · rw [if_pos h0, decide_eq_false (by omega)]
  · rw [if_neg h0]
theorem asc_single (x : Nat) : asc [x] := List.pairwise_singleton _ _
theorem plus_is (L : List Nat) (hL : WW L) (x : Nat) : mk (merged true true true L (mk [x])) = cut (plus L x) := by
  refine set_ext (mk_WW (merged_asc _ _ _ _ _)) (cut_WW (plus_WW hL x)) (mk_norm (merged_asc _ _ _ _ _)) (cut_norm _) (fun z => ?_)
  rw [mk_merged_mem, cut_mem, plus_mem, mk_mem (asc_single x)]
  have : decide (z ∈ [x]) = decide (z = x) := by simp
  rw [this]
  cases mem L z <;> cases decide (z = x) <;> rfl
theorem BitsChanges : dataflowlaw01_BitsChanges.Pure := by
  intro l0 x y _ _ hwf0 hx hy
  obtain ⟨L, rfl, hL⟩ := nats_of l0 hwf0
  obtain ⟨x1, x2⟩ := bd_i64 hx
  obtain ⟨y1, y2⟩ := bd_i64 hy
  apply Ev.rounds
  unfold dataflowlaw01_BitsChanges.f
  by_cases ha : ((ints L).length : Int) > 1100
  · exact Ev_pos ha (Ev.bind awake (Ev.now _))
  · refine Ev_neg ha ?_
    rw [ints_length] at ha
    obtain ⟨M, hM, hMW, hMl, hMm⟩ := without L hL (by omega) x x1 x2
    have hdrop := drop L hL (by omega) x
    rw [keep_is hMW x hMm] at hdrop
    have hcl := cut_length_le M
    have heq : Ev (fun k => dataflowref01_Equal.f k (ints (cut M)) (ints (cut M))) true := equal _ (by rw [ints_length]; omega)
    by_cases hin : 0 ≤ x ∧ x < 65536
    · obtain ⟨n, rfl⟩ := Int.eq_ofNat_of_zero_le hin.1
      have hw := with_ L hL (by omega) n (by omega)
      have pw := cut_WW (plus_WW hL n)
      have mw := cut_WW hMW
      have hpl : (cut (plus L n)).length ≤ 2200 := by have := cut_length_le (plus L n); rw [plus_length] at this; omega
      refine Ev_bindc hw (Ev_bindc hM (Ev_bindc (elem_yes n (by omega)) (Ev_pos rfl (Ev_pos rfl ?_))))
      refine Ev_bindc (has _ pw _ (by omega) (by omega)) (Ev_pos (by rw [memI_nat, cut_mem, plus_mem]; simp) ?_)
      refine Ev_bindc (has _ mw _ (by omega) (by omega)) ?_
      have hf : memI (cut M) (n : Int) = false := by rw [memI_nat, cut_mem, hMm]; simp
      rw [hf]
      refine Ev.step (fun k => by rw [dataflowlaw01_BitsChanges.j0]) (Ev_neg (by simp) ?_)
      -- the last part
      have fin : Ev (fun k => dataflowlaw01_BitsChanges.j1 k (ints L) (n : Int) (ints (cut (plus L n))) (ints (cut M)) false) true := by
        have hmk : Ev (fun k => dataflowref01_Make.f k [(n : Int)]) (ints (mk [n])) := make [n] (asc_single n) (by simp) (by simp; omega)
        have hmlen := mk_len (asc_single n) (n + 1) (by simp)
        have huni : Ev (fun k => dataflowref01_Union.f k (ints L) (ints (mk [n]))) (ints (cut (plus L n))) := by
          unfold dataflowref01_Union.f
          rw [← plus_is L hL n]
          exact Ev.bind (merge true true true L (mk [n]) hL (mk_WW (asc_single n)) (by omega) (by omega)) (Ev.now _)
        refine Ev.step (fun k => by rw [dataflowlaw01_BitsChanges.j1]) (Ev_neg (by simp) ?_)
        refine Ev.bind hmk (Ev.bind huni (Ev.bind (equal _ (by rw [ints_length]; omega)) (Ev_pos rfl ?_)))
        exact Ev.bind hdrop (Ev.bind heq (Ev_pos rfl (Ev.bind awake (Ev.now _))))
      by_cases hxy : (n : Int) = y
      · exact Ev_pos hxy fin
      · refine Ev_neg hxy ?_
        have g1 : memI (cut (plus L n)) y = memI L y := by
          unfold memI
          by_cases h0 : 0 ≤ y
          · rw [cut_mem, plus_mem]
            have : ¬ y.toNat = n := by omega
            simp [this]
          · simp [h0]
        have g2 : memI (cut M) y = memI L y := by
          unfold memI
          by_cases h0 : 0 ≤ y
          · rw [cut_mem, hMm]
            have hd : decide (((y.toNat : Nat) : Int) ≠ (n : Int)) = true := by rw [decide_eq_true_iff]; omega
            rw [hd, Bool.and_true]
          · simp [h0]
        refine Ev_bindc (has _ pw y y1 y2) (Ev.bind (ref_has L hL (by omega) y) (Ev_neg (by rw [g1]; simp) ?_))
        refine Ev_bindc (has _ mw y y1 y2) (Ev.bind (ref_has L hL (by omega) y) ?_)
        rw [g2, show (memI L y != memI L y) = false by simp]
        exact fin
    · have hw : bits_With.f (ints L) x = some ([], 4) := by unfold bits_With.f; rw [if_neg hin]
      refine Ev_bindc hw (Ev_bindc hM (Ev_bindc (elem_no x hin) (Ev_neg (by simp) (Ev_pos rfl (Ev_pos rfl ?_)))))
      exact Ev.bind hdrop (Ev.bind heq (Ev_pos rfl (Ev.bind awake (Ev.now _))))
end Go.Proofs.YtlfoehjjgbnkaaaDoor.Pure
