/- HierDispatch's plain law. -/
import Derived.Test.YtkbclcecmcdlfaaDoorDP7
import Derived.Test.YtkbclcecmcdlfaaDoorD14
namespace Go.Proofs.YtkbclcecmcdlfaaDoor.Pu
set_option linter.unusedVariables false
set_option linter.unusedSimpArgs false
open Go.RowKit Go.Proofs.YtkbclcecmcdlfaaDoor.PD Go.Proofs.YtkbclcecmcdlfaaDoorW.PrintWords Go.Proofs.YtkbclcecmcdlfaaDoorW.PrintLast Go.Proofs.YtkbclcecmcdlfaaDoorW.PrintMore
variable {H : List S32}
theorem dispatch_l2 (m : ByteArray) (x7 : Int) (T U : List ByteArray) (hT : T.length ≤ 64) (hU : U.length ≤ 64) (hm : ∀ x ∈ T, x ∈ U) (hs : T.Pairwise (fun x y => Op.bytesLess x.toList y.toList = true))
    (next : Tot (fun k => dataflowlaw10_HierDispatch.l0 k m (wrap64 (x7 + 1)) H) (fun r => r = true)) :
    ∀ n, n ≤ T.length → Tot (fun k => dataflowlaw10_HierDispatch.l2 k m x7 T U (n : Int) H) (fun r => r = true) := by
  refine up_ T.length _ ?_ ?_
  · exact Tot.step (fun k => by rw [dataflowlaw10_HierDispatch.l2]) (Tot.neg (by omega) next)
  · intro n hn ih
    have hx : rdOf ByteArray.empty T (n : Int) = T.getD n ByteArray.empty := by simp [rdOf]
    rw [← w64n n (by omega)] at ih
    refine Tot.step (fun k => by rw [dataflowlaw10_HierDispatch.l2]) ?_
    refine Tot.pos (by omega) (Tot.pos (by omega) ?_)
    rw [hx]
    refine Tot.bindE (has_ev U (by omega) _) ?_
    refine Tot.pos (decide_eq_true (hm _ (getD_mem ByteArray.empty T n hn))) ?_
    refine Tot.ite (fun h0 => ?_) (fun _ => ih)
    have h1 : 0 < n := by omega
    rw [w64m n (by omega) h1]
    have hy : rdOf ByteArray.empty T ((n - 1 : Nat) : Int) = T.getD (n - 1) ByteArray.empty := by simp [rdOf]
    refine Tot.pos (by omega) (Tot.pos (by omega) ?_)
    rw [hy]
    refine Tot.pos ?_ ih
    have h2 := List.pairwise_iff_getElem.1 hs (n - 1) n (by omega) hn (by omega)
    have e1 : T.getD (n - 1) ByteArray.empty = T[n - 1]'(by omega) := by rw [List.getD_eq_getElem?_getD, List.getElem?_eq_getElem (by omega)]; rfl
    have e2 : T.getD n ByteArray.empty = T[n]'hn := by rw [List.getD_eq_getElem?_getD, List.getElem?_eq_getElem hn]; rfl
    rw [e1, e2]
    exact h2
/-- What Targets is to hold. -/
def Hit (H : List S32) (m s x : ByteArray) : Prop := ∃ i l j g, idx H s = some i ∧ CH H i l ∧ lk H m l = some (j, g) ∧ nm H j = x
theorem dispatch_l1 (W : Well H) (S : Sized H) (m : ByteArray) (x7 : Int) (B T : List ByteArray) (hB : B.length ≤ 64) (hT : T.length ≤ 64) (hall : ∀ s ∈ B, ∃ i l, idx H s = some i ∧ CH H i l)
    (hm : ∀ x, x ∈ T ↔ ∃ s ∈ B, Hit H m s x) (hs : T.Pairwise (fun x y => Op.bytesLess x.toList y.toList = true))
    (next : Tot (fun k => dataflowlaw10_HierDispatch.l0 k m (wrap64 (x7 + 1)) H) (fun r => r = true)) :
    ∀ n, n ≤ B.length → ∀ U : List ByteArray, U.length ≤ n → (∀ s ∈ B.take n, ∀ x, Hit H m s x → x ∈ U) → Tot (fun k => dataflowlaw10_HierDispatch.l1 k m x7 B T U (n : Int) H) (fun r => r = true) := by
  refine up_ B.length _ ?_ ?_
  · intro U hU hu
    refine Tot.step (fun k => by rw [dataflowlaw10_HierDispatch.l1]) (Tot.neg (by omega) ?_)
    refine dispatch_l2 m x7 T U hT (by omega) ?_ hs next 0 (Nat.zero_le _)
    intro x hx
    obtain ⟨s, h1, h2⟩ := (hm x).1 hx
    rw [List.take_length] at hu
    exact hu s h1 x h2
  · intro n hn ih U hU hu
    have hx : rdOf ByteArray.empty B (n : Int) = B.getD n ByteArray.empty := by simp [rdOf]
    have hmem := getD_mem ByteArray.empty B n hn
    obtain ⟨i, l, hi, hl⟩ := hall _ hmem
    have hlt := hl.lt (idx_lt H hi)
    have hln := hl.len (idx_lt H hi)
    have hN := W.few
    have more : ∀ y : ByteArray, (∀ x, Hit H m (B.getD n ByteArray.empty) x → x ∈ U ++ [y]) → Tot (fun k => dataflowlaw10_HierDispatch.l1 k m x7 B T (U ++ [y]) (wrap64 ((n : Int) + 1)) H) (fun r => r = true) := by
      intro y hy
      rw [w64n n (by omega)]
      refine ih (U ++ [y]) (by simp; omega) ?_
      intro s hs' x hx'
      rw [List.take_succ_eq_append_getElem hn, List.mem_append, List.mem_singleton] at hs'
      rcases hs' with hs' | rfl
      · exact List.mem_append_left _ (hu s hs' x hx')
      · refine hy x ?_
        rw [List.getD_eq_getElem?_getD, List.getElem?_eq_getElem hn]
        exact hx'
    refine Tot.step (fun k => by rw [dataflowlaw10_HierDispatch.l1]) ?_
    refine Tot.pos (by omega) (Tot.pos (by omega) ?_)
    rw [hx]
    refine Tot.bindE (lookup_some W S hi hl m) ?_
    refine Tot.bindE (rsupers W hi hl) ?_
    refine Tot.bindE (near_ev W S m l (by omega) hlt) ?_
    cases hk : lk H m l with
    | none =>
      refine Tot.neg (by simp [res, nearN, ByteArray.toList_mk]) ?_
      refine Tot.pos rfl ?_
      refine Tot.neg (by simp [res]) ?_
      refine Tot.pos (by omega) ?_
      refine more _ ?_
      rintro x ⟨i', l', j, g, h1, h2, h3, h4⟩
      rw [hi] at h1
      obtain rfl := Option.some.inj h1
      rw [← hl.det h2, hk] at h3
      cases h3
    | some jg =>
      obtain ⟨j, g⟩ := jg
      have hj := lk_mem hk
      have hnm := W.name j (hlt j hj.1)
      refine Tot.neg (by simp [res, nearN, hnm]) ?_
      refine Tot.pos rfl ?_
      refine Tot.pos rfl ?_
      refine Tot.pos (tl_inj.2 hj.2.2) ?_
      refine Tot.bindE (has_ev T (by omega) _) ?_
      refine Tot.pos (decide_eq_true ((hm _).2 ⟨_, hmem, i, l, j, g, hi, hl, hk, rfl⟩)) ?_
      refine Tot.pos (by omega) ?_
      refine more _ ?_
      rintro x ⟨i', l', j', g', h1, h2, h3, h4⟩
      rw [hi] at h1
      obtain rfl := Option.some.inj h1
      rw [← hl.det h2, hk] at h3
      simp only [Option.some.injEq, Prod.mk.injEq] at h3
      rw [← h4, ← h3.1]
      simp [res]
theorem dispatch_l0 (W : Well H) (S : Sized H) (m : ByteArray) : ∀ n, n ≤ H.length → Tot (fun k => dataflowlaw10_HierDispatch.l0 k m (n : Int) H) (fun r => r = true) := by
  have hN := W.few
  refine up_ H.length _ ?_ ?_
  · exact Tot.step (fun k => by rw [dataflowlaw10_HierDispatch.l0]) (Tot.neg (by omega) awake_tot)
  · intro n hn ih
    rw [← w64n n (by omega)] at ih
    refine Tot.step (fun k => by rw [dataflowlaw10_HierDispatch.l0]) ?_
    refine Tot.pos (by omega) (Tot.pos (by omega) ?_)
    obtain ⟨B, hB, o, ho, hol, hom⟩ := subs_tot W (rd_T32 H (n : Int)).f0
    have hBl : B.length ≤ 64 := by
      have := len_compB (sortB o)
      rw [← ho, len_sortB] at this
      omega
    have hall : ∀ s ∈ B, ∃ i l, idx H s = some i ∧ CH H i l := by
      intro s hs
      obtain ⟨i, l, _, _, _, h1, h2, _⟩ := sub_ch W ((hom s).1 ((subs_mem ho s).1 hs))
      exact ⟨i, l, h1, h2⟩
    refine Tot.bindE hB ?_
    obtain ⟨T, hT, o', ho', hol', hom'⟩ := targets_l0 W S m B hBl hall 0 (Nat.zero_le _) [] (Nat.le_refl _)
    refine Tot.bindE (a := T) (Ev.bind hB hT) ?_
    refine dispatch_l1 W S m (n : Int) B T hBl ?_ hall ?_ ?_ ih 0 (Nat.zero_le _) [] (Nat.le_refl _) (fun s hs => by simp at hs)
    · have := len_compB (sortB o')
      rw [← ho', len_sortB] at this
      omega
    · intro x
      rw [subs_mem ho', hom', List.drop_zero]
      constructor
      · rintro (h | h)
        · cases h
        · exact h
      · exact .inr
    · rw [ho']; exact comp_sorted o'
theorem HierDispatch (S : Sized H) (m : ByteArray) : ∃ k, dataflowlaw10_HierDispatch.f k H m = some true := by
  have key : Tot (fun k => dataflowlaw10_HierDispatch.f k H m) (fun r => r = true) := by
    refine Tot.bind (check_tot S) (fun r hr => Tot.ite (fun h0 => ?_) (fun _ => awake_tot))
    obtain ⟨hN, hok⟩ := hr h0
    exact dispatch_l0 (well_of hN hok) S m 0 (Nat.zero_le _)
  obtain ⟨r, hr, rfl⟩ := key
  exact hr.rounds
end Go.Proofs.YtkbclcecmcdlfaaDoor.Pu
