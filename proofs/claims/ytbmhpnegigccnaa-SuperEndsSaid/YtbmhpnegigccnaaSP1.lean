/- The specification's check of a supergraph answers for every graph; where it answers 0, the nodes ascend. -/
import Derived.Test.YtbmhpnegigccnaaS7
namespace Go.Proofs.Ytbmhpnegigccnaa.Pu
set_option linter.unusedVariables false
set_option linter.unusedSimpArgs false
open Go.RowKit Go.Proofs.Ytbmhpnegigccnaa.PS Go.Proofs.YtbmhpnegigccnaaW.PrintWords Go.Proofs.YtbmhpnegigccnaaW.PrintLast Go.Proofs.YtbmhpnegigccnaaW.PrintMore
section
variable {α β : Type} {c : Prop} [Decidable c] {f g : Nat → Option α} {r : α}
theorem Ev_pos (h : c) (k : Ev f r) : Ev (fun n => if c then f n else g n) r := Ev.congr (fun _ => if_pos h) k
theorem Ev_neg (h : ¬ c) (k : Ev g r) : Ev (fun n => if c then f n else g n) r := Ev.congr (fun _ => if_neg h) k
/-- It answers, and the answer has P. -/
def Tot (g : Nat → Option α) (P : α → Prop) : Prop := ∃ r, Ev g r ∧ P r
theorem Tot.now {P : α → Prop} {v : α} (h : P v) : Tot (fun _ => some v) P := ⟨v, Ev.now v, h⟩
theorem Tot.ite {P : α → Prop} (h1 : c → Tot f P) (h2 : ¬ c → Tot g P) : Tot (fun n => if c then f n else g n) P := by
  by_cases h : c
  · obtain ⟨r, hr, hp⟩ := h1 h
    exact ⟨r, Ev_pos h hr, hp⟩
  · obtain ⟨r, hr, hp⟩ := h2 h
    exact ⟨r, Ev_neg h hr, hp⟩
theorem Tot.bind {P : α → Prop} {Q : β → Prop} {o : Nat → Option β} {F : Nat → β → Option α} (h : Tot o Q) (k : ∀ a, Q a → Tot (fun n => F n a) P) : Tot (fun n => (o n).bind (F n)) P := by
  obtain ⟨a, ha, hq⟩ := h
  obtain ⟨r, hr, hp⟩ := k a hq
  exact ⟨r, Ev.bind ha hr, hp⟩
theorem Tot.bindc {P : α → Prop} {o : Option β} {a : β} {F : Nat → β → Option α} (h : o = some a) (k : Tot (fun n => F n a) P) : Tot (fun n => o.bind (F n)) P := by
  obtain ⟨r, hr, hp⟩ := k
  exact ⟨r, Ev.congr (fun _ => by rw [h]; rfl) hr, hp⟩
theorem Tot.step {P : α → Prop} {F : Nat → Option α} (h : ∀ k, F (k + 1) = f k) (k : Tot f P) : Tot F P := by
  obtain ⟨r, hr, hp⟩ := k
  exact ⟨r, Ev.step h hr, hp⟩
theorem Tot.imp {P Q : α → Prop} (h : Tot f P) (hq : ∀ a, P a → Q a) : Tot f Q := by
  obtain ⟨r, hr, hp⟩ := h
  exact ⟨r, hr, hq r hp⟩
end
theorem w64n (n : Nat) (h : n < 9223372036854775807) : wrap64 ((n : Int) + 1) = ((n + 1 : Nat) : Int) := by unfold wrap64; omega
theorem w64m (n : Nat) (h : n < 9223372036854775807) (h0 : 0 < n) : wrap64 ((n : Int) - 1) = ((n - 1 : Nat) : Int) := by unfold wrap64; omega
theorem up (len : Nat) (P : Nat → Prop) (hend : P len) (hstep : ∀ n, n < len → P (n + 1) → P n) : ∀ n, n ≤ len → P n := by
  intro n hn
  obtain ⟨d, hd⟩ : ∃ d, len = n + d := ⟨len - n, by omega⟩
  induction d generalizing n with
  | zero => have : n = len := by omega
            rw [this]; exact hend
  | succ d ih => exact hstep n (by omega) (ih (n + 1) (by omega) (by omega))

variable (L : List S36) (E : List S33) (M : Int)

theorem kind_tot (hL : L.length ≤ 200) (a b : Int) : ∀ n, n ≤ L.length → Tot (fun k => dataflowref27_kind.l0 k a b (n : Int) L E M) (fun _ => True) := by
  refine up L.length _ ?_ ?_
  · exact Tot.step (fun k => by rw [dataflowref27_kind.l0]) (Tot.ite (fun h => absurd h (by omega)) (fun _ => Tot.now trivial))
  · intro n hn ih
    rw [← w64n n (by omega)] at ih
    exact Tot.step (fun k => by rw [dataflowref27_kind.l0]) (Tot.ite (fun _ => Tot.ite (fun _ => Tot.ite (fun _ => Tot.ite (fun _ => Tot.now trivial) (fun _ => ih)) (fun _ => ih)) (fun h => absurd (Int.natCast_nonneg n) h)) (fun h => absurd (show (n : Int) < (L.length : Int) by omega) h))
theorem kind_ev (hL : L.length ≤ 200) (a b : Int) : Tot (fun k => dataflowref27_kind.f k L E M a b) (fun _ => True) := kind_tot L E M hL a b 0 (Nat.zero_le _)
theorem exit_tot (hL : L.length ≤ 200) (a : Int) : Tot (fun k => dataflowref27_Exit.f k L E M a) (fun _ => True) :=
  Tot.bind (kind_ev L E M hL a 3) (fun t _ => Tot.bind (kind_ev L E M hL a 4) (fun u _ => Tot.now trivial))
theorem start_tot (hL : L.length ≤ 200) (a : Int) : Tot (fun k => dataflowref27_Start.f k L E M a) (fun _ => True) :=
  Tot.bind (kind_ev L E M hL a 1) (fun t _ => Tot.now trivial)
theorem nodes_l1 (hL : L.length ≤ 200) : ∀ n, n ≤ L.length → Tot (fun k => dataflowref27_nodes.l1 k (n : Int) L E M) (fun _ => True) := by
  refine up L.length _ ?_ ?_
  · refine Tot.step (fun k => by rw [dataflowref27_nodes.l1]) (Tot.ite (fun h => absurd h (by omega)) (fun _ => ?_))
    exact Tot.ite (fun _ => Tot.now trivial) (fun h0 => Tot.ite (fun _ => Tot.now trivial) (fun h1 => Tot.ite (fun _ => Tot.ite (fun _ => Tot.ite (fun _ => Tot.now trivial) (fun _ => Tot.now trivial)) (fun h => absurd (by omega) h)) (fun h => absurd (by omega) h)))
  · intro n hn ih
    rw [← w64n n (by omega)] at ih
    exact Tot.step (fun k => by rw [dataflowref27_nodes.l1]) (Tot.ite (fun _ => Tot.ite (fun _ => Tot.bind (exit_tot L E M hL _) (fun t _ => Tot.bind (start_tot L E M hL _) (fun u _ => Tot.ite (fun _ => Tot.now trivial) (fun _ => Tot.ite (fun _ => Tot.now trivial) (fun _ => Tot.ite (fun _ => Tot.now trivial) (fun _ => ih)))))) (fun h => absurd (Int.natCast_nonneg n) h)) (fun h => absurd (show (n : Int) < (L.length : Int) by omega) h))
def lt3 (a b : S36) : Prop := a.f0 < b.f0 ∨ (a.f0 = b.f0 ∧ (a.f1 < b.f1 ∨ (a.f1 = b.f1 ∧ a.f2 < b.f2)))
theorem less_f (a b : S36) : ∃ t, dataflowref27_less.f a.f0 a.f1 a.f2 b.f0 b.f1 b.f2 = some t ∧ (t = true → lt3 a b) := by
  unfold dataflowref27_less.f lt3
  by_cases h0 : a.f0 = b.f0
  · rw [if_pos h0]
    by_cases h1 : a.f1 = b.f1
    · rw [if_pos h1]; exact ⟨_, rfl, fun h => .inr ⟨h0, .inr ⟨h1, of_decide_eq_true h⟩⟩⟩
    · rw [if_neg h1]; exact ⟨_, rfl, fun h => .inr ⟨h0, .inl (of_decide_eq_true h)⟩⟩
  · rw [if_neg h0]; exact ⟨_, rfl, fun h => .inl (of_decide_eq_true h)⟩
/-- What the check asks of node j. -/
def Good (j : Nat) : Prop := ((rd_T36 L (j : Int)).f1 ≠ 2 → (rd_T36 L (j : Int)).f2 = -1) ∧ (0 < j → lt3 (rd_T36 L ((j - 1 : Nat) : Int)) (rd_T36 L (j : Int)))
theorem nodes_l0 (hL : L.length ≤ 200) : ∀ n, n ≤ L.length → Tot (fun k => dataflowref27_nodes.l0 k (n : Int) L E M) (fun r => r = 0 → ∀ j, n ≤ j → j < L.length → Good L j) := by
  refine up L.length _ ?_ ?_
  · refine Tot.step (fun k => by rw [dataflowref27_nodes.l0]) (Tot.ite (fun h => absurd h (by omega)) (fun _ => ?_))
    exact (nodes_l1 L E M hL 0 (Nat.zero_le _)).imp (fun r _ _ j h1 h2 => by omega)
  · intro n hn ih
    have hw := w64n n (by omega)
    rw [← hw] at ih
    have fin : ∀ v : Int, v ≠ 0 → (v = 0 → ∀ j, n ≤ j → j < L.length → Good L j) := fun v hv h => absurd h hv
    have J2 : ∀ b, (b = false → ((rd_T36 L (n : Int)).f1 ≠ 2 → (rd_T36 L (n : Int)).f2 = -1)) → Tot (fun k => dataflowref27_nodes.j2 k (n : Int) b L E M (rd_T36 L (n : Int)).f0 (rd_T36 L (n : Int)).f1 (rd_T36 L (n : Int)).f2) (fun r => r = 0 → ∀ j, n ≤ j → j < L.length → Good L j) := by
      intro b hb
      refine Tot.step (fun k => by rw [dataflowref27_nodes.j2]) (Tot.ite (fun _ => Tot.now (fin 4 (by decide))) (fun h => ?_))
      have hb' := hb (Bool.eq_false_iff.2 h)
      refine Tot.ite (fun h0 => ?_) (fun h0 => ?_)
      · have hw2 := w64m n (by omega) (by omega)
        rw [hw2]
        refine Tot.ite (fun _ => Tot.ite (fun _ => ?_) (fun h => absurd (show ((n - 1 : Nat) : Int) < (L.length : Int) by omega) h)) (fun h => absurd (Int.natCast_nonneg _) h)
        obtain ⟨t, ht, hlt⟩ := less_f (rd_T36 L ((n - 1 : Nat) : Int)) (rd_T36 L (n : Int))
        refine Tot.bindc ht (Tot.ite (fun h => ?_) (fun _ => Tot.now (fin 13 (by decide))))
        refine ih.imp (fun r hr h0' j h1 h2 => ?_)
        rcases Nat.eq_or_lt_of_le h1 with rfl | h3
        · exact ⟨hb', fun _ => hlt h⟩
        · exact hr h0' j h3 h2
      · refine ih.imp (fun r hr h0' j h1 h2 => ?_)
        rcases Nat.eq_or_lt_of_le h1 with rfl | h3
        · exact ⟨hb', fun hp => absurd (show (n : Int) > 0 by omega) h0⟩
        · exact hr h0' j h3 h2
    have J1 : ∀ b, Tot (fun k => dataflowref27_nodes.j1 k (n : Int) b L E M (rd_T36 L (n : Int)).f0 (rd_T36 L (n : Int)).f1 (rd_T36 L (n : Int)).f2) (fun r => r = 0 → ∀ j, n ≤ j → j < L.length → Good L j) := by
      intro b
      refine Tot.step (fun k => by rw [dataflowref27_nodes.j1]) (Tot.ite (fun _ => Tot.now (fin 12 (by decide))) (fun _ => Tot.ite (fun _ => J2 true (by simp)) (fun _ => Tot.ite (fun h2 => Tot.ite (fun _ => J2 true (by simp)) (fun _ => J2 false (fun _ h => absurd h2 h))) (fun _ => J2 _ (fun h _ => by simpa using h)))))
    exact Tot.step (fun k => by rw [dataflowref27_nodes.l0]) (Tot.ite (fun _ => Tot.ite (fun _ => Tot.ite (fun _ => J1 true) (fun _ => J1 _)) (fun h => absurd (Int.natCast_nonneg n) h)) (fun h => absurd (show (n : Int) < (L.length : Int) by omega) h))
theorem calls_tot (hE : E.length ≤ 200) (a b : Int) : ∀ n, n ≤ E.length → Tot (fun k => dataflowref27_calls.l0 k a b (n : Int) L E M) (fun _ => True) := by
  refine up E.length _ ?_ ?_
  · exact Tot.step (fun k => by rw [dataflowref27_calls.l0]) (Tot.ite (fun h => absurd h (by omega)) (fun _ => Tot.now trivial))
  · intro n hn ih
    rw [← w64n n (by omega)] at ih
    exact Tot.step (fun k => by rw [dataflowref27_calls.l0]) (Tot.ite (fun _ => Tot.ite (fun _ => Tot.ite (fun _ => Tot.ite (fun _ => Tot.ite (fun h => Tot.ite (fun _ => Tot.ite (fun _ => Tot.ite (fun _ => Tot.ite (fun _ => Tot.now trivial) (fun _ => ih)) (fun _ => ih)) (fun h' => absurd h h')) (fun _ => ih)) (fun _ => ih)) (fun _ => ih)) (fun _ => ih)) (fun h => absurd (Int.natCast_nonneg n) h)) (fun h => absurd (show (n : Int) < (E.length : Int) by omega) h))
end Go.Proofs.Ytbmhpnegigccnaa.Pu
