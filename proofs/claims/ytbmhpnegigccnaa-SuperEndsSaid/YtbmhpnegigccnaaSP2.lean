/- .. for the edges, and whole. -/
import Derived.Test.YtbmhpnegigccnaaSP1
namespace Go.Proofs.Ytbmhpnegigccnaa.Pu
set_option linter.unusedVariables false
set_option linter.unusedSimpArgs false
open Go.RowKit Go.Proofs.Ytbmhpnegigccnaa.PS Go.Proofs.YtbmhpnegigccnaaW.PrintWords Go.Proofs.YtbmhpnegigccnaaW.PrintLast Go.Proofs.YtbmhpnegigccnaaW.PrintMore
variable (L : List S36) (E : List S33) (M : Int)
theorem fitsA_tot (a b c d : Int) (h0 : 0 ≤ a) (h1 : a < (L.length : Int)) (h2 : 0 ≤ b) (h3 : b < (L.length : Int)) (h : c = 1 ∨ c = 5) : Tot (fun k => fitsA.f k L E M a b c d) (fun _ => True) := by
  have J : Tot (fun k => fitsA.j0 k false L c true a b c d (rd_T36 L a).f0 (rd_T36 L a).f1 (rd_T36 L a).f2 (rd_T36 L b).f0 (rd_T36 L b).f1 (rd_T36 L b).f2) (fun _ => True) :=
    Tot.step (fun k => by rw [fitsA.j0]) (Tot.ite (fun _ => Tot.ite (fun _ => Tot.ite (fun _ => Tot.now trivial) (fun _ => Tot.ite (fun _ => Tot.now trivial) (fun _ => Tot.ite (fun _ => Tot.now trivial) (fun _ => Tot.ite (fun _ => Tot.now trivial) (fun _ => Tot.now trivial))))) (fun _ => Tot.now trivial)) (fun h => absurd rfl h))
  unfold fitsA.f
  refine Tot.ite (fun _ => Tot.ite (fun _ => Tot.ite (fun _ => Tot.ite (fun _ => Tot.ite (fun hc => ?_) (fun hc => ?_)) (fun h => absurd h3 h)) (fun h => absurd h2 h)) (fun h => absurd h1 h)) (fun h => absurd h0 h)
  · rw [show (c == 1) = true from beq_iff_eq.2 hc]; exact J
  · rw [show (c == 5) = true from beq_iff_eq.2 (h.resolve_left hc)]; exact J
theorem fitsB_tot (a b c d : Int) (h0 : 0 ≤ a) (h1 : a < (L.length : Int)) (h2 : 0 ≤ b) (h3 : b < (L.length : Int)) (h : c = 2) : Tot (fun k => fitsB.f k L E M a b c d) (fun _ => True) := by
  have J : Tot (fun k => fitsB.j0 k false L c false a b c d (rd_T36 L a).f0 (rd_T36 L a).f1 (rd_T36 L a).f2 (rd_T36 L b).f0 (rd_T36 L b).f1 (rd_T36 L b).f2) (fun _ => True) :=
    Tot.step (fun k => by rw [fitsB.j0]) (Tot.ite (fun h => absurd h (by decide)) (fun _ => Tot.ite (fun _ => Tot.ite (fun _ => Tot.ite (fun _ => Tot.now trivial) (fun _ => Tot.now trivial)) (fun _ => Tot.now trivial)) (fun hc => absurd h hc)))
  unfold fitsB.f
  refine Tot.ite (fun _ => Tot.ite (fun _ => Tot.ite (fun _ => Tot.ite (fun _ => Tot.ite (fun hc => ?_) (fun hc => ?_)) (fun h => absurd h3 h)) (fun h => absurd h2 h)) (fun h => absurd h1 h)) (fun h => absurd h0 h)
  · omega
  · rw [show (c == 5) = false from beq_eq_false_iff_ne.2 (by omega)]; exact J
theorem fitsC_tot (hE : E.length ≤ 200) (a b c d : Int) (h0 : 0 ≤ a) (h1 : a < (L.length : Int)) (h2 : 0 ≤ b) (h3 : b < (L.length : Int)) (h : c = 3 ∨ c = 4) (h4 : 0 ≤ d) (h5 : d < (L.length : Int)) : Tot (fun k => fitsC.f k L E M a b c d) (fun _ => True) := by
  have C := calls_tot L E M hE d (rd_T36 L a).f0 0 (Nat.zero_le _)
  have C' : Tot (fun k => dataflowref27_calls.f k L E M d (rd_T36 L a).f0) (fun _ => True) := C
  have J : Tot (fun k => fitsC.j0 k false L c false L E M a b c d (rd_T36 L a).f0 (rd_T36 L a).f1 (rd_T36 L a).f2 (rd_T36 L b).f0 (rd_T36 L b).f1 (rd_T36 L b).f2) (fun _ => True) :=
    Tot.step (fun k => by rw [fitsC.j0]) (Tot.ite (fun h => absurd h (by decide)) (fun _ => Tot.ite (fun hc => absurd hc (by omega)) (fun _ => Tot.ite (fun _ => Tot.ite (fun _ => Tot.ite (fun hc => Tot.ite (fun _ => Tot.ite (fun hc' => absurd hc' (by omega)) (fun _ => Tot.ite (fun _ => Tot.bind C' (fun t _ => Tot.ite (fun _ => Tot.ite (fun _ => Tot.now trivial) (fun _ => Tot.now trivial)) (fun _ => Tot.now trivial))) (fun _ => Tot.now trivial))) (fun _ => Tot.now trivial))
      (fun hc => Tot.ite (fun _ => Tot.ite (fun _ => Tot.ite (fun _ => Tot.bind C' (fun t _ => Tot.ite (fun _ => Tot.ite (fun _ => Tot.now trivial) (fun _ => Tot.now trivial)) (fun _ => Tot.now trivial))) (fun _ => Tot.now trivial)) (fun _ => Tot.now trivial)) (fun hc' => absurd (h.resolve_left hc) hc'))) (fun hc => absurd h5 hc)) (fun hc => absurd h4 hc))))
  unfold fitsC.f
  refine Tot.ite (fun _ => Tot.ite (fun _ => Tot.ite (fun _ => Tot.ite (fun _ => Tot.ite (fun hc => ?_) (fun hc => ?_)) (fun h => absurd h3 h)) (fun h => absurd h2 h)) (fun h => absurd h1 h)) (fun h => absurd h0 h)
  · omega
  · rw [show (c == 5) = false from beq_eq_false_iff_ne.2 (by omega)]; exact J
theorem fits_tot (hE : E.length ≤ 200) (a b c d : Int) (h0 : 0 ≤ a) (h1 : a < (L.length : Int)) (h2 : 0 ≤ b) (h3 : b < (L.length : Int)) (h6 : 1 ≤ c) (h7 : c ≤ 5) (h : (c = 1 ∨ c = 5) ∨ (0 ≤ d ∧ d < (L.length : Int))) : Tot (fun k => dataflowref27_fits.f k L E M a b c d) (fun _ => True) := by
  unfold dataflowref27_fits.f
  refine Tot.ite (fun hc => fitsA_tot L E M a b c d h0 h1 h2 h3 (.inl hc)) (fun hc1 => Tot.ite (fun hc => fitsA_tot L E M a b c d h0 h1 h2 h3 (.inr hc)) (fun hc5 => Tot.ite (fun hc => fitsB_tot L E M a b c d h0 h1 h2 h3 hc) (fun hc2 => ?_)))
  obtain ⟨h4, h5⟩ := h.resolve_left (by omega)
  exact fitsC_tot L E M hE a b c d h0 h1 h2 h3 (by omega) h4 h5
theorem lessEdge_tot (a b c d a' b' c' d' : Int) : ∃ t, dataflowref27_lessEdge.f a b c d a' b' c' d' = some t := by
  unfold dataflowref27_lessEdge.f
  by_cases h0 : a = a'
  · rw [if_pos h0]
    by_cases h1 : b = b'
    · rw [if_pos h1]
      by_cases h2 : c = c'
      · rw [if_pos h2]; exact ⟨_, rfl⟩
      · rw [if_neg h2]; exact ⟨_, rfl⟩
    · rw [if_neg h1]; exact ⟨_, rfl⟩
  · rw [if_neg h0]; exact ⟨_, rfl⟩
theorem check_l0 (hE : E.length ≤ 200) : ∀ n, n ≤ E.length → Tot (fun k => dataflowref27_Check.l0 k (n : Int) L E M) (fun _ => True) := by
  refine up E.length _ ?_ ?_
  · exact Tot.step (fun k => by rw [dataflowref27_Check.l0]) (Tot.ite (fun h => absurd h (by omega)) (fun _ => Tot.now trivial))
  · intro n hn ih
    rw [← w64n n (by omega)] at ih
    obtain ⟨e, he⟩ : ∃ e, e = rd_T33 E (n : Int) := ⟨_, rfl⟩
    have J6 : ∀ b, 0 ≤ e.f0 → e.f0 < (L.length : Int) → 0 ≤ e.f1 → e.f1 < (L.length : Int) → 1 ≤ e.f2 → e.f2 ≤ 5 → ((e.f2 = 1 ∨ e.f2 = 5) ∨ (0 ≤ e.f3 ∧ e.f3 < (L.length : Int))) →
        Tot (fun k => dataflowref27_Check.j6 k (n : Int) b L E M e.f0 e.f1 e.f2 e.f3) (fun _ => True) := by
      intro b h0 h1 h2 h3 h6 h7 h
      exact Tot.step (fun k => by rw [dataflowref27_Check.j6]) (Tot.ite (fun _ => Tot.now trivial) (fun _ => Tot.bind (fits_tot L E M hE _ _ _ _ h0 h1 h2 h3 h6 h7 h) (fun t _ => Tot.ite (fun _ => ih) (fun _ => Tot.now trivial))))
    have J5 : ∀ b, 0 ≤ e.f0 → e.f0 < (L.length : Int) → 0 ≤ e.f1 → e.f1 < (L.length : Int) → 1 ≤ e.f2 → e.f2 ≤ 5 → (b = false → ((e.f2 = 1 ∨ e.f2 = 5) ∨ (0 ≤ e.f3 ∧ e.f3 < (L.length : Int)))) →
        Tot (fun k => dataflowref27_Check.j5 k (n : Int) b L E M e.f0 e.f1 e.f2 e.f3) (fun _ => True) := by
      intro b h0 h1 h2 h3 h6 h7 h
      refine Tot.step (fun k => by rw [dataflowref27_Check.j5]) (Tot.ite (fun _ => Tot.now trivial) (fun hb => ?_))
      have h' := h (Bool.eq_false_iff.2 hb)
      refine Tot.ite (fun hn0 => ?_) (fun _ => J6 _ h0 h1 h2 h3 h6 h7 h')
      rw [w64m n (by omega) (by omega)]
      refine Tot.ite (fun _ => Tot.ite (fun _ => ?_) (fun h => absurd (show ((n - 1 : Nat) : Int) < (E.length : Int) by omega) h)) (fun h => absurd (Int.natCast_nonneg _) h)
      obtain ⟨t, ht⟩ := lessEdge_tot (rd_T33 E ((n - 1 : Nat) : Int)).f0 (rd_T33 E ((n - 1 : Nat) : Int)).f1 (rd_T33 E ((n - 1 : Nat) : Int)).f2 (rd_T33 E ((n - 1 : Nat) : Int)).f3 e.f0 e.f1 e.f2 e.f3
      exact Tot.bindc ht (J6 _ h0 h1 h2 h3 h6 h7 h')
    have J4 : ∀ x b, (x = true ↔ (e.f2 = 1 ∨ e.f2 = 5)) → 0 ≤ e.f0 → e.f0 < (L.length : Int) → 0 ≤ e.f1 → e.f1 < (L.length : Int) → (b = false → 1 ≤ e.f2 ∧ e.f2 ≤ 5) →
        Tot (fun k => dataflowref27_Check.j4 k (n : Int) x b L E M e.f0 e.f1 e.f2 e.f3) (fun _ => True) := by
      intro x b hx h0 h1 h2 h3 h
      refine Tot.step (fun k => by rw [dataflowref27_Check.j4]) (Tot.ite (fun _ => Tot.now trivial) (fun hb => ?_))
      obtain ⟨h6, h7⟩ := h (Bool.eq_false_iff.2 hb)
      exact Tot.ite (fun hx1 => Tot.ite (fun _ => J5 _ h0 h1 h2 h3 h6 h7 (fun _ => .inl (hx.1 hx1))) (fun _ => J5 _ h0 h1 h2 h3 h6 h7 (by simp))) (fun hx1 => Tot.ite (fun _ => J5 _ h0 h1 h2 h3 h6 h7 (by simp)) (fun h8 => J5 _ h0 h1 h2 h3 h6 h7 (fun h9 => .inr ⟨by omega, by have := of_decide_eq_false h9; omega⟩)))
    have J3 : ∀ x b, (x = true ↔ (e.f2 = 1 ∨ e.f2 = 5)) → (b = false → 0 ≤ e.f0 ∧ e.f0 < (L.length : Int) ∧ 0 ≤ e.f1 ∧ e.f1 < (L.length : Int)) →
        Tot (fun k => dataflowref27_Check.j3 k (n : Int) x b L E M e.f0 e.f1 e.f2 e.f3) (fun _ => True) := by
      intro x b hx h
      refine Tot.step (fun k => by rw [dataflowref27_Check.j3]) (Tot.ite (fun _ => Tot.now trivial) (fun hb => ?_))
      obtain ⟨h0, h1, h2, h3⟩ := h (Bool.eq_false_iff.2 hb)
      exact Tot.ite (fun _ => J4 _ _ hx h0 h1 h2 h3 (by simp)) (fun h6 => J4 _ _ hx h0 h1 h2 h3 (fun h7 => ⟨by omega, by have := of_decide_eq_false h7; omega⟩))
    have J2 : ∀ x, (x = true ↔ (e.f2 = 1 ∨ e.f2 = 5)) → Tot (fun k => dataflowref27_Check.j2 k (n : Int) x L E M e.f0 e.f1 e.f2 e.f3) (fun _ => True) := by
      intro x hx
      exact Tot.step (fun k => by rw [dataflowref27_Check.j2]) (Tot.ite (fun _ => J3 _ _ hx (by simp)) (fun h0 => Tot.ite (fun _ => J3 _ _ hx (by simp)) (fun h1 => Tot.ite (fun _ => J3 _ _ hx (by simp)) (fun h2 => J3 _ _ hx (fun h3 => ⟨by omega, by omega, by omega, by have := of_decide_eq_false h3; omega⟩)))))
    subst he
    exact Tot.step (fun k => by rw [dataflowref27_Check.l0]) (Tot.ite (fun _ => Tot.ite (fun _ => Tot.ite (fun h => J2 true ⟨fun _ => .inl h, fun _ => rfl⟩) (fun h => J2 _ ⟨fun h5 => .inr (beq_iff_eq.1 h5), fun h5 => beq_iff_eq.2 (h5.resolve_left h)⟩)) (fun h => absurd (Int.natCast_nonneg n) h)) (fun h => absurd (show (n : Int) < (E.length : Int) by omega) h))
theorem check_tot (hL : L.length ≤ 200) (hE : E.length ≤ 200) : Tot (fun k => dataflowref27_Check.f k L E M) (fun r => r = 0 → ∀ j, j < L.length → Good L j) := by
  have J : ∀ b, b = false → Tot (fun k => dataflowref27_Check.j0 k b L E M) (fun r => r = 0 → ∀ j, j < L.length → Good L j) := by
    intro b hb
    subst hb
    have N := nodes_l0 L E M hL 0 (Nat.zero_le _)
    have N' : Tot (fun k => dataflowref27_nodes.f k L E M) (fun r => r = 0 → ∀ j, 0 ≤ j → j < L.length → Good L j) := N
    refine Tot.step (fun k => by rw [dataflowref27_Check.j0]) (Tot.ite (fun h => absurd h (by decide)) (fun _ => Tot.bind N' (fun t ht => Tot.ite (fun h0 => ?_) (fun h0 => Tot.now (fun h => absurd h h0)))))
    exact (check_l0 L E M hE 0 (Nat.zero_le _)).imp (fun r _ _ j hj => ht h0 j (Nat.zero_le _) hj)
  unfold dataflowref27_Check.f
  exact Tot.ite (fun h => absurd h (by omega)) (fun _ => J _ (decide_eq_false (by omega)))
end Go.Proofs.Ytbmhpnegigccnaa.Pu
