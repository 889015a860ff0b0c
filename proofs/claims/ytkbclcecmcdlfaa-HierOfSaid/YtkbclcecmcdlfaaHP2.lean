/- A hierarchy is told as the same as itself; so the law answers true. -/
import Derived.Test.YtkbclcecmcdlfaaHP1
namespace Go.Proofs.Ytkbclcecmcdlfaa.Pu
set_option linter.unusedVariables false
set_option linter.unusedSimpArgs false
open Go.RowKit Go.Proofs.Ytkbclcecmcdlfaa.PH Go.Proofs.YtkbclcecmcdlfaaW.PrintWords Go.Proofs.YtkbclcecmcdlfaaW.PrintLast Go.Proofs.YtkbclcecmcdlfaaW.PrintMore
abbrev Big : Nat := 4611686018427387904
theorem sig_l0 (a : ByteArray) (b : Bool) (l : List ByteArray) (c : ByteArray) (hl : l.length < Big) : ∀ n, n ≤ l.length → Ev (fun k => dataflowref10_SameSig.l0 k (n : Int) a b l c a b l c) true := by
  have hB : Big = 4611686018427387904 := rfl
  refine up (α := Unit) l.length _ ?_ ?_
  · exact Ev.step (fun k => by rw [dataflowref10_SameSig.l0]) (Ev_neg (by omega) (Ev.now _))
  · intro n hn ih
    refine Ev.step (fun k => by rw [dataflowref10_SameSig.l0]) (Ev_pos (by omega) (Ev_pos (by omega) (Ev_pos (by omega) (Ev_pos rfl ?_))))
    rw [w64n n (by omega)]
    exact ih
theorem sig_ev (a : ByteArray) (b : Bool) (l : List ByteArray) (c : ByteArray) (hl : l.length < Big) : Ev (fun k => dataflowref10_SameSig.f k a b l c a b l c) true := by
  unfold dataflowref10_SameSig.f
  have h := sig_l0 a b l c hl 0 (Nat.zero_le _)
  have h2 : Ev (fun k => dataflowref10_SameSig.j0 k (c.toList != c.toList) a b l c a b l c) true := Ev.step (f := fun k => dataflowref10_SameSig.l0 k 0 a b l c a b l c) (fun k => by rw [dataflowref10_SameSig.j0, if_neg (by simp)]) h
  exact Ev_pos rfl h2
theorem same_l2 (x4 : Bool) (x5 : Int) (L : List S35) (a0 a1 : ByteArray) (a2 : List S37) (ms : List S40) (hms : ms.length < Big) (hp : ∀ m ∈ ms, m.f2.length < Big) (r : Bool)
    (k : Ev (fun k => dataflowref10_Same.l0 k x4 (wrap64 (x5 + 1)) L L) r) : ∀ n, n ≤ ms.length → Ev (fun k => dataflowref10_Same.l2 k x4 x5 (n : Int) L L a0 a1 a2 ms a0 a1 a2 ms) r := by
  have hB : Big = 4611686018427387904 := rfl
  refine up (α := Unit) ms.length _ ?_ ?_
  · exact Ev.step (fun k => by rw [dataflowref10_Same.l2]) (Ev_neg (by omega) k)
  · intro n hn ih
    have hm : rd_T40 ms (n : Int) = ms.getD n z40 := by simp [rd_T40]
    have hmem : ms.getD n z40 ∈ ms := by
      rw [List.getD_eq_getElem?_getD, List.getElem?_eq_getElem hn]; exact List.getElem_mem hn
    refine Ev.step (fun k => by rw [dataflowref10_Same.l2]) (Ev_pos (by omega) (Ev_pos (by omega) (Ev_pos (by omega) (Ev_pos rfl (Ev_neg (by simp) (Ev.bind (sig_ev _ _ _ _ (by rw [hm]; exact hp _ hmem)) (Ev_pos rfl ?_)))))))
    rw [w64n n (by omega)]
    exact ih
theorem same_l1 (x4 : Bool) (x5 : Int) (L : List S35) (a0 a1 : ByteArray) (fs : List S37) (hfs : fs.length < Big) (ms : List S40) (r : Bool)
    (k : Ev (fun k => dataflowref10_Same.l2 k x4 x5 0 L L a0 a1 fs ms a0 a1 fs ms) r) : ∀ n, n ≤ fs.length → Ev (fun k => dataflowref10_Same.l1 k x4 x5 (n : Int) L L a0 a1 fs ms a0 a1 fs ms) r := by
  have hB : Big = 4611686018427387904 := rfl
  refine up (α := Unit) fs.length _ ?_ ?_
  · exact Ev.step (fun k => by rw [dataflowref10_Same.l1]) (Ev_neg (by omega) k)
  · intro n hn ih
    refine Ev.step (fun k => by rw [dataflowref10_Same.l1]) (Ev_pos (by omega) (Ev_pos (by omega) (Ev_pos (by omega) (Ev_neg (by simp) ?_))))
    rw [w64n n (by omega)]
    exact ih
def SmallC (c : S35) : Prop := c.f2.length < Big ∧ c.f3.length < Big ∧ ∀ m ∈ c.f3, m.f2.length < Big
theorem same_l0 (L : List S35) (hL : L.length < Big) (hc : ∀ c ∈ L, SmallC c) : ∀ n, n ≤ L.length → Ev (fun k => dataflowref10_Same.l0 k false (n : Int) L L) true := by
  have hB : Big = 4611686018427387904 := rfl
  refine up (α := Unit) L.length _ ?_ ?_
  · exact Ev.step (fun k => by rw [dataflowref10_Same.l0]) (Ev_neg (by omega) (Ev.now _))
  · intro n hn ih
    have hm : rd_T35 L (n : Int) = L.getD n z35 := by simp [rd_T35]
    have hmem : L.getD n z35 ∈ L := by
      rw [List.getD_eq_getElem?_getD, List.getElem?_eq_getElem hn]; exact List.getElem_mem hn
    obtain ⟨h1, h2, h3⟩ := hc _ hmem
    refine Ev.step (fun k => by rw [dataflowref10_Same.l0]) (Ev_pos (by omega) (Ev_pos (by omega) (Ev_pos (by omega) (Ev_pos rfl (Ev_pos rfl (Ev_pos rfl ?_))))))
    rw [hm]
    refine Ev.step (fun k => by rw [dataflowref10_Same.j1]) (Ev_neg (by simp) ?_)
    refine same_l1 _ _ _ _ _ _ h1 _ _ (same_l2 _ _ _ _ _ _ _ h2 h3 _ ?_ 0 (Nat.zero_le _)) 0 (Nat.zero_le _)
    rw [w64n n (by omega)]
    exact ih
theorem same_ev (L : List S35) (hL : L.length < Big) (hc : ∀ c ∈ L, SmallC c) : Ev (fun k => dataflowref10_Same.f k L L) true := by
  unfold dataflowref10_Same.f
  exact Ev_pos rfl (same_l0 L hL hc 0 (Nat.zero_le _))
theorem cls_small (c : S44) (h : Sz44 c) : SmallC (clsOf c) := by
  obtain ⟨_, _, ⟨_, h2, _⟩, ⟨_, h3, h4⟩⟩ := h
  rw [reach] at h2 h3
  have hB : Big = 4611686018427387904 := rfl
  refine ⟨by show c.f2.length < _; omega, by show (c.f3.map sigOf).length < _; rw [List.length_map]; omega, fun m hm => ?_⟩
  obtain ⟨q, hq, rfl⟩ := List.mem_map.1 (show m ∈ c.f3.map sigOf from hm)
  have h5 := (h4 q hq).2.1.2.1
  rw [reach] at h5
  show (q.f2.map (·.f1)).length < _
  rw [List.length_map]; omega
/-- The law answers true. -/
theorem HierOf (l : List S44) (hl : SzL 80 Sz44 l) : ∃ k, dataflowlaw10_HierOf.f k l = some true := by
  obtain ⟨_, h1, h2⟩ := hl
  refine Ev.rounds ?_
  unfold dataflowlaw10_HierOf.f
  refine Ev.bind (of_ev l h1 h2) (Ev.bind (rof_ev l h1 h2) (Ev.bind (same_ev _ ?_ ?_) (Ev_pos rfl (Ev.bind (Ev.of (fun k => dataflowlaw10_awake.mono k) awake_true) (Ev.now _)))))
  · have hB : Big = 4611686018427387904 := rfl
    rw [reach] at h1
    rw [List.length_map]; omega
  · intro c hc
    obtain ⟨q, hq, rfl⟩ := List.mem_map.1 hc
    exact cls_small q (h2 q hq)
end Go.Proofs.Ytkbclcecmcdlfaa.Pu
