/- The law's loops, and the law: it answers true. -/
import Derived.Test.YtbmhpnegigccnaaSP2
import Derived.Test.YtbmhpnegigccnaaSH
namespace Go.Proofs.Ytbmhpnegigccnaa.Pu
set_option linter.unusedVariables false
set_option linter.unusedSimpArgs false
open Go.RowKit Go.Proofs.Ytbmhpnegigccnaa.PS Go.Proofs.YtbmhpnegigccnaaW.PrintWords Go.Proofs.YtbmhpnegigccnaaW.PrintLast Go.Proofs.YtbmhpnegigccnaaW.PrintMore
theorem awake_true : dataflowlaw27_awake.f 60 = some true := by kernel_rfl
theorem awake_ev : Ev (fun k => dataflowlaw27_awake.f k) true := Ev.of (fun k => dataflowlaw27_awake.mono k) awake_true
variable (L : List S36) (E : List S33) (M : Int)
/-- The edges out of a node: every one of them is there, and they are no more than all. -/
theorem out_l0 (hE : E.length ≤ 200) (v : Int) : ∀ n, n ≤ E.length → ∀ acc : List Int, acc.length ≤ n →
    Tot (fun k => super_Out.l0 k v acc E (E.length : Int) (n : Int)) (fun r => r.length ≤ E.length ∧ (∀ x ∈ acc, x ∈ r) ∧ ∀ j, n ≤ j → j < E.length → (rd_T33 E (j : Int)).f0 = v → (j : Int) ∈ r) := by
  refine up E.length _ ?_ ?_
  · intro acc ha
    exact Tot.step (fun k => by rw [super_Out.l0]) (Tot.ite (fun h => absurd h (by omega)) (fun _ => Tot.now ⟨ha, fun x hx => hx, fun j h1 h2 => by omega⟩))
  · intro n hn ih acc ha
    have hw := w64n n (by omega)
    refine Tot.step (fun k => by rw [super_Out.l0]) (Tot.ite (fun _ => Tot.ite (fun _ => Tot.ite (fun _ => Tot.ite (fun hv => Tot.ite (fun _ => ?_) (fun h => absurd (by omega) h)) (fun hv => ?_)) (fun h => absurd (show (n : Int) < (E.length : Int) by omega) h)) (fun h => absurd (Int.natCast_nonneg n) h)) (fun h => absurd (show (n : Int) < (E.length : Int) by omega) h))
    · have := ih (acc ++ [(n : Int)]) (by rw [List.length_append]; simp; omega)
      rw [← hw] at this
      refine this.imp (fun r hr => ⟨hr.1, fun x hx => hr.2.1 x (List.mem_append_left _ hx), fun j h1 h2 h3 => ?_⟩)
      rcases Nat.eq_or_lt_of_le h1 with rfl | h4
      · exact hr.2.1 _ (List.mem_append_right _ (List.mem_singleton_self _))
      · exact hr.2.2 j h4 h2 h3
    · have := ih acc (by omega)
      rw [← hw] at this
      refine this.imp (fun r hr => ⟨hr.1, hr.2.1, fun j h1 h2 h3 => ?_⟩)
      rcases Nat.eq_or_lt_of_le h1 with rfl | h4
      · exact absurd h3 hv
      · exact hr.2.2 j h4 h2 h3
theorem in_l0' (hE : E.length ≤ 200) (v : Int) : ∀ n, n ≤ E.length → ∀ acc : List Int, acc.length ≤ n →
    Tot (fun k => super_In.l0 k v acc E (E.length : Int) (n : Int)) (fun r => r.length ≤ E.length ∧ (∀ x ∈ acc, x ∈ r) ∧ ∀ j, n ≤ j → j < E.length → (rd_T33 E (j : Int)).f1 = v → (j : Int) ∈ r) := by
  refine up E.length _ ?_ ?_
  · intro acc ha
    exact Tot.step (fun k => by rw [super_In.l0]) (Tot.ite (fun h => absurd h (by omega)) (fun _ => Tot.now ⟨ha, fun x hx => hx, fun j h1 h2 => by omega⟩))
  · intro n hn ih acc ha
    have hw := w64n n (by omega)
    refine Tot.step (fun k => by rw [super_In.l0]) (Tot.ite (fun _ => Tot.ite (fun _ => Tot.ite (fun _ => Tot.ite (fun hv => Tot.ite (fun _ => ?_) (fun h => absurd (by omega) h)) (fun hv => ?_)) (fun h => absurd (show (n : Int) < (E.length : Int) by omega) h)) (fun h => absurd (Int.natCast_nonneg n) h)) (fun h => absurd (show (n : Int) < (E.length : Int) by omega) h))
    · have := ih (acc ++ [(n : Int)]) (by rw [List.length_append]; simp; omega)
      rw [← hw] at this
      refine this.imp (fun r hr => ⟨hr.1, fun x hx => hr.2.1 x (List.mem_append_left _ hx), fun j h1 h2 h3 => ?_⟩)
      rcases Nat.eq_or_lt_of_le h1 with rfl | h4
      · exact hr.2.1 _ (List.mem_append_right _ (List.mem_singleton_self _))
      · exact hr.2.2 j h4 h2 h3
    · have := ih acc (by omega)
      rw [← hw] at this
      refine this.imp (fun r hr => ⟨hr.1, hr.2.1, fun j h1 h2 h3 => ?_⟩)
      rcases Nat.eq_or_lt_of_le h1 with rfl | h4
      · exact absurd h3 hv
      · exact hr.2.2 j h4 h2 h3
/-- A number in a list is found in it. -/
theorem in_ev (l : List Int) (hl : l.length ≤ 1000) (x : Int) (m : Nat) (hm : m < l.length) (hx : rd l (m : Int) = x) : Ev (fun k => dataflowlaw27_in.f k l x) true := by
  have key : ∀ n, n ≤ m → Ev (fun k => dataflowlaw27_in.l0 k l x (n : Int)) true := by
    refine up m _ ?_ ?_
    · exact Ev.step (fun k => by rw [dataflowlaw27_in.l0]) (Ev_pos (by omega) (Ev_pos (by omega) (Ev_pos hx (Ev.now true))))
    · intro n hn ih
      by_cases h : rd l (n : Int) = x
      · exact Ev.step (fun k => by rw [dataflowlaw27_in.l0]) (Ev_pos (by omega) (Ev_pos (by omega) (Ev_pos h (Ev.now true))))
      · rw [← w64n n (by omega)] at ih
        exact Ev.step (fun k => by rw [dataflowlaw27_in.l0]) (Ev_pos (by omega) (Ev_pos (by omega) (Ev_neg h ih)))
  exact key 0 (Nat.zero_le _)
theorem mem_rd {l : List Int} {x : Int} (h : x ∈ l) : ∃ m, m < l.length ∧ rd l (m : Int) = x := by
  obtain ⟨i, hi, rfl⟩ := List.getElem_of_mem h
  exact ⟨i, hi, by simp [rd, hi]⟩
/-- The nodes ascend. -/
theorem asc (hg : ∀ j, j < L.length → Good L j) : ∀ j, j < L.length → ∀ i, i < j → lt3 (rd_T36 L (i : Int)) (rd_T36 L (j : Int)) := by
  intro j
  induction j with
  | zero => intro _ i hi; omega
  | succ j ih =>
    intro hj i hi
    have h1 := (hg (j + 1) hj).2 (by omega)
    rw [show j + 1 - 1 = j from rfl] at h1
    rcases Nat.eq_or_lt_of_le (Nat.le_of_lt_succ hi) with rfl | h2
    · exact h1
    · have h3 := ih (by omega) i h2
      unfold lt3 at *
      omega
theorem node_ev (hL : L.length ≤ 200) (hg : ∀ j, j < L.length → Good L j) (n : Nat) (hn : n < L.length) :
    Ev (fun k => super_Node.f k L E M (rd_T36 L (n : Int)).f0 (rd_T36 L (n : Int)).f1 (rd_T36 L (n : Int)).f2) (n : Int) := by
  have key : ∀ j, j ≤ n → Ev (fun k => api_Node_17.l0 k L (L.length : Int) (j : Int) (rd_T36 L (n : Int)).f0 (rd_T36 L (n : Int)).f1 (rd_T36 L (n : Int)).f2) (n : Int) := by
    refine up n _ ?_ ?_
    · exact Ev.step (fun k => by rw [api_Node_17.l0]) (Ev_pos (by omega) (Ev_pos (by omega) (Ev_pos (by omega) (Ev_pos (by simp) (Ev.now _)))))
    · intro j hj ih
      rw [← w64n j (by omega)] at ih
      refine Ev.step (fun k => by rw [api_Node_17.l0]) (Ev_pos (by omega) (Ev_pos (by omega) (Ev_pos (by omega) (Ev_neg ?_ ih))))
      have h := asc L hg n hn j hj
      unfold lt3 at h
      simp only [Bool.and_eq_true, beq_iff_eq]
      omega
  exact Ev.bind (key 0 (Nat.zero_le _)) (Ev.now _)
theorem first_eq (hg : ∀ j, j < L.length → Good L j) (n : Nat) (hn : n < L.length) (h1 : (rd_T36 L (n : Int)).f1 = 1) :
    ∀ d j, j ≤ n → j + d = L.length → firstN L (rd_T36 L (n : Int)).f0 1 d j = (n : Int) := by
  intro d
  induction d with
  | zero => intro j h2 h3; omega
  | succ d ih =>
    intro j h2 h3
    rw [firstN]
    rcases Nat.eq_or_lt_of_le h2 with rfl | h4
    · rw [if_pos (by simp [h1])]
    · rw [if_neg ?_]
      · exact ih (j + 1) h4 (by omega)
      · intro h
        simp only [Bool.and_eq_true, beq_iff_eq] at h
        have h5 := asc L hg n hn j h4
        have h6 := (hg j (by omega)).1 (by omega)
        have h7 := (hg n hn).1 (by omega)
        unfold lt3 at h5
        omega
theorem start_ev (hL : L.length ≤ 200) (hg : ∀ j, j < L.length → Good L j) (n : Nat) (hn : n < L.length) (h1 : (rd_T36 L (n : Int)).f1 = 1) :
    Ev (fun k => super_Start.f k L E M (rd_T36 L (n : Int)).f0) (n : Int) := by
  have h : ∀ k, super_Start.f k L E M (rd_T36 L (n : Int)).f0 = some (n : Int) := by
    intro k
    unfold super_Start.f super_first.f
    rw [if_pos (by omega), first_eq L hg n hn h1 L.length 0 (Nat.zero_le _) (by omega)]
    rfl
  exact Ev.congr h (Ev.now _)
theorem law_l1 (hL : L.length ≤ 200) (hg : ∀ j, j < L.length → Good L j) : ∀ n, n ≤ L.length → Ev (fun k => dataflowlaw27_SuperEnds.l1 k false (n : Int) L E M) true := by
  refine up L.length _ ?_ ?_
  · exact Ev.step (fun k => by rw [dataflowlaw27_SuperEnds.l1]) (Ev_neg (by omega) (Ev.bind awake_ev (Ev.now true)))
  · intro n hn ih
    rw [← w64n n (by omega)] at ih
    refine Ev.step (fun k => by rw [dataflowlaw27_SuperEnds.l1]) (Ev_pos (by omega) (Ev_pos (by omega) (Ev.bind (node_ev L E M hL hg n hn) (Ev_pos rfl ?_))))
    by_cases h1 : (rd_T36 L (n : Int)).f1 = 1
    · exact Ev_pos h1 (Ev.bind (start_ev L E M hL hg n hn h1) (Ev_pos rfl ih))
    · exact Ev_neg h1 ih
theorem law_l0 (hL : L.length ≤ 200) (hE : E.length ≤ 200) (hg : ∀ j, j < L.length → Good L j) : ∀ n, n ≤ E.length → Ev (fun k => dataflowlaw27_SuperEnds.l0 k false (n : Int) L E M) true := by
  refine up E.length _ ?_ ?_
  · have h := law_l1 L E M hL hg 0 (Nat.zero_le _)
    exact Ev.step (f := fun k => dataflowlaw27_SuperEnds.l1 k false 0 L E M) (fun k => by rw [dataflowlaw27_SuperEnds.l0, if_neg (by omega)]) h
  · intro n hn ih
    rw [← w64n n (by omega)] at ih
    obtain ⟨o, ho, h1, _, h2⟩ := out_l0 E hE (rd_T33 E (n : Int)).f0 0 (Nat.zero_le _) [] (Nat.le_refl _)
    obtain ⟨i, hi, h3, _, h4⟩ := in_l0' E hE (rd_T33 E (n : Int)).f1 0 (Nat.zero_le _) [] (Nat.le_refl _)
    obtain ⟨m, hm, hx⟩ := mem_rd (h2 n (Nat.zero_le _) hn rfl)
    obtain ⟨m', hm', hx'⟩ := mem_rd (h4 n (Nat.zero_le _) hn rfl)
    have ho' : Ev (fun k => super_Out.f k L E M (rd_T33 E (n : Int)).f0) o := ho
    have hi' : Ev (fun k => super_In.f k L E M (rd_T33 E (n : Int)).f1) i := hi
    exact Ev.step (fun k => by rw [dataflowlaw27_SuperEnds.l0]) (Ev_pos (by omega) (Ev_pos (by omega) (Ev.bind ho' (Ev.bind (in_ev o (by omega) _ m hm hx) (Ev_pos rfl (Ev.bind hi' (Ev.bind (in_ev i (by omega) _ m' hm' hx') (Ev_pos rfl ih))))))))
theorem SuperEnds : ∃ k, dataflowlaw27_SuperEnds.f k L E M = some true := by
  have A : Ev (fun k => dataflowlaw27_SuperEnds.j0 k false true L E M) true := Ev.step (fun k => by rw [dataflowlaw27_SuperEnds.j0]) (Ev_pos rfl (Ev.bind awake_ev (Ev.now true)))
  refine Ev.rounds ?_
  unfold dataflowlaw27_SuperEnds.f
  by_cases h1 : (L.length : Int) > 200
  · exact Ev_pos h1 A
  · refine Ev_neg h1 ?_
    by_cases h2 : (E.length : Int) > 200
    · exact Ev_pos h2 A
    · refine Ev_neg h2 ?_
      obtain ⟨r, hr, hg⟩ := check_tot L E M (by omega) (by omega)
      refine Ev.bind hr ?_
      by_cases h0 : r = 0
      · rw [show (r != 0) = false by rw [h0]; rfl]
        have h := law_l0 L E M (by omega) (by omega) (hg h0) 0 (Nat.zero_le _)
        exact Ev.step (f := fun k => dataflowlaw27_SuperEnds.l0 k false 0 L E M) (fun k => by rw [dataflowlaw27_SuperEnds.j0, if_neg (by decide)]) h
      · rw [show (r != 0) = true from bne_iff_ne.2 h0]
        exact A
end Go.Proofs.Ytbmhpnegigccnaa.Pu
