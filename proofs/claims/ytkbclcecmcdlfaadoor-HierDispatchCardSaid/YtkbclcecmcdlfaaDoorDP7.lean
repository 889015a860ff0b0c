/- What Targets, the reference's chain and 'nearest' answer; what is sorted and compacted ascends. -/
import Derived.Test.YtkbclcecmcdlfaaDoorDPL
import Derived.Test.YtkbclcecmcdlfaaDoorD10
import Derived.Test.YtkbclcecmcdlfaaDoorD17
namespace Go.Proofs.YtkbclcecmcdlfaaDoor.Pu
set_option linter.unusedVariables false
set_option linter.unusedSimpArgs false
open Go.RowKit Go.Proofs.YtkbclcecmcdlfaaDoor.PD Go.Proofs.YtkbclcecmcdlfaaDoorW.PrintWords Go.Proofs.YtkbclcecmcdlfaaDoorW.PrintLast Go.Proofs.YtkbclcecmcdlfaaDoorW.PrintMore
theorem le_tr (x y z : List UInt8) (h1 : decide (x ≤ y) = true) (h2 : decide (y ≤ z) = true) : decide (x ≤ z) = true := decide_eq_true (List.le_trans (of_decide_eq_true h1) (of_decide_eq_true h2))
theorem le_to (x y : List UInt8) : (decide (x ≤ y) || decide (y ≤ x)) = true := by
  rcases List.le_total x y with h | h <;> simp [h]
theorem sorted_ms (l : List (List UInt8)) : (l.mergeSort fun x y => decide (x ≤ y)).Pairwise (fun x y => x ≤ y) :=
  (List.pairwise_mergeSort le_tr le_to l).imp (fun h => of_decide_eq_true h)
theorem compact_lt (zs : List (List UInt8)) (h : zs.Pairwise (fun x y => x ≤ y)) : (Go.Lib.compact zs).Pairwise (fun x y => x < y) := by
  unfold Go.Lib.compact Go.Lib.compactUpTo
  rw [List.pairwise_map]
  have hg : ∀ j, (hj : j < zs.length) → zs.toArray[j]! = zs[j] := fun j hj => by rw [getElem!_pos _ j (by simpa using hj)]; simp
  have hr : (List.range zs.length).Pairwise (fun a b => a < b) := List.pairwise_lt_range
  have h2 : ((List.range zs.length).filter (Go.Lib.keeps zs.toArray)).Pairwise (fun a b => a < b) := hr.filter _
  refine List.Pairwise.imp_of_mem ?_ h2
  intro a b ha hb hab
  rw [List.mem_filter, List.mem_range] at ha hb
  have hb1 : b - 1 < zs.length := by omega
  rw [hg a ha.1, hg b hb.1]
  have hk : zs[b] ≠ zs[b - 1] := by
    have := hb.2
    simp only [Go.Lib.keeps, decide_eq_true_eq] at this
    rcases this with h3 | h3
    · omega
    · rwa [hg b hb.1, hg (b - 1) hb1] at h3
  have l1 : zs[a] ≤ zs[b - 1] := by
    rcases Nat.eq_or_lt_of_le (show a ≤ b - 1 by omega) with h3 | h3
    · subst h3; exact List.le_refl _
    · exact List.pairwise_iff_getElem.1 h a (b - 1) ha.1 hb1 h3
  have l2 : zs[b - 1] ≤ zs[b] := List.pairwise_iff_getElem.1 h (b - 1) b hb1 hb.1 (by omega)
  have l3 : zs[a] ≤ zs[b] := List.le_trans l1 l2
  by_cases h4 : zs[a] < zs[b]
  · exact h4
  · have h5 : zs[b] ≤ zs[a] := List.not_lt.1 h4
    exact absurd (List.le_antisymm (List.le_trans h5 l1) l2) hk
theorem comp_sorted (o : List ByteArray) : (compB (sortB o)).Pairwise (fun x y => Op.bytesLess x.toList y.toList = true) := by
  unfold compB sortB
  rw [List.map_map, List.pairwise_map]
  have : (toL ∘ ofL) = id := by funext x; exact toL_ofL x
  rw [this, List.map_id]
  refine (compact_lt _ (sorted_ms _)).imp ?_
  intro a b h
  rw [bytesLess_eq, decide_eq_true_eq, show (ofL a).toList = a from ByteArray.toList_mk a, show (ofL b).toList = b from ByteArray.toList_mk b]
  exact h
variable {H : List S32}
/-! ### Targets -/
def inOf : Option (Nat × S37) → List ByteArray → List ByteArray := fun o l => l
theorem targets_l0 (W : Well H) (S : Sized H) (m : ByteArray) (t : List ByteArray) (ht : t.length ≤ 64) (hall : ∀ s ∈ t, ∃ i l, idx H s = some i ∧ CH H i l) : ∀ n, n ≤ t.length → ∀ out : List ByteArray, out.length ≤ n →
    Tot (fun k => hier_Targets.l0 k m out t (t.length : Int) (n : Int) H) (fun r => ∃ o, r = compB (sortB o) ∧ o.length ≤ t.length ∧ ∀ x, x ∈ o ↔ x ∈ out ∨ ∃ s ∈ t.drop n, ∃ i l j g, idx H s = some i ∧ CH H i l ∧ lk H m l = some (j, g) ∧ nm H j = x) := by
  refine up_ t.length _ ?_ ?_
  · intro out ho
    refine Tot.step (fun k => by rw [hier_Targets.l0]) (Tot.neg (by omega) ?_)
    refine Tot.bindE (sort_ev out (by omega)) ?_
    refine Tot.bindc (comp_f (sortB out) (by rw [len_sortB]; omega)) ?_
    refine Tot.now ⟨out, rfl, ho, fun x => ?_⟩
    rw [List.drop_length]
    simp
  · intro n hn ih out ho
    have hx : rdOf ByteArray.empty t (n : Int) = t.getD n ByteArray.empty := by simp [rdOf]
    obtain ⟨i, l, hi, hl⟩ := hall _ (getD_mem ByteArray.empty t n hn)
    refine Tot.step (fun k => by rw [hier_Targets.l0]) ?_
    rw [hx]
    refine Tot.pos (by omega) (Tot.pos (by omega) (Tot.pos (by omega) ?_))
    refine Tot.bindE (lookup_some W S hi hl m) ?_
    rw [w64n n (by omega), drop_at ByteArray.empty t n hn]
    cases hk : lk H m l with
    | none =>
      refine Tot.neg (by simp [res]) ?_
      refine (ih out (by omega)).imp ?_
      rintro r ⟨o, h1, h2, h3⟩
      refine ⟨o, h1, h2, fun x => (h3 x).trans ?_⟩
      constructor
      · rintro (h | ⟨s, hs, h⟩)
        · exact .inl h
        · exact .inr ⟨s, List.mem_cons_of_mem _ hs, h⟩
      · rintro (h | ⟨s, hs, i', l', j, g, h4, h5, h6, h7⟩)
        · exact .inl h
        · rcases List.mem_cons.1 hs with rfl | hs
          · rw [hi] at h4
            obtain rfl := Option.some.inj h4
            rw [hl.det h5, h6] at hk
            cases hk
          · exact .inr ⟨s, hs, i', l', j, g, h4, h5, h6, h7⟩
    | some jg =>
      obtain ⟨j, g⟩ := jg
      refine Tot.pos rfl (Tot.pos (by omega) ?_)
      refine (ih (out ++ [nm H j]) (by simp; omega)).imp ?_
      rintro r ⟨o, h1, h2, h3⟩
      refine ⟨o, h1, h2, fun x => (h3 x).trans ?_⟩
      rw [List.mem_append, List.mem_singleton]
      constructor
      · rintro ((h | rfl) | ⟨s, hs, h⟩)
        · exact .inl h
        · exact .inr ⟨_, List.mem_cons_self, i, l, j, g, hi, hl, hk, rfl⟩
        · exact .inr ⟨s, List.mem_cons_of_mem _ hs, h⟩
      · rintro (h | ⟨s, hs, i', l', j', g', h4, h5, h6, h7⟩)
        · exact .inl (.inl h)
        · rcases List.mem_cons.1 hs with rfl | hs
          · rw [hi] at h4
            obtain rfl := Option.some.inj h4
            rw [← hl.det h5, hk] at h6
            simp only [Option.some.injEq, Prod.mk.injEq] at h6
            exact .inl (.inr (by rw [← h7, h6.1]))
          · exact .inr ⟨s, hs, i', l', j', g', h4, h5, h6, h7⟩
/-! ### The reference's chain -/
theorem nm_mem (W : Well H) {i : Nat} {v : List Nat} (hi : i < H.length) (hv : ∀ x ∈ v, x < H.length) : nm H i ∈ v.map (nm H) ↔ i ∈ v := by
  rw [List.mem_map]
  constructor
  · rintro ⟨x, hx, e⟩
    have h1 := W.own x (hv x hx)
    rw [e, W.own i hi] at h1
    rw [Option.some.inj h1]; exact hx
  · exact fun h => ⟨i, h, rfl⟩
theorem rstop (k0 : ByteArray) (out : List ByteArray) : Ev (fun k => dataflowref10_chain.l0 k k0 out (-1) H) (out, false) :=
  Ev.step (fun k => by rw [dataflowref10_chain.l0]) (Ev_neg (by decide) (Ev.now _))
theorem rchain (W : Well H) {i : Nat} {l : List Nat} (h : CH H i l) : ∀ v : List Nat, i < H.length → (∀ x ∈ v, x < H.length) → (∀ x ∈ l, x ∉ v) → v.length + l.length < 4096 → Ev (fun k => dataflowref10_chain.l0 k (nm H i) (v.map (nm H)) (i : Int) H) ((v ++ l).map (nm H), false) := by
  induction h with
  | @last i h =>
    intro v hi hv hd hl
    simp at hl
    refine Ev.step (fun k => by rw [dataflowref10_chain.l0]) ?_
    refine Ev_pos (by omega) (Ev.bind (in_ev _ (by rw [List.length_map]; omega) _) ?_)
    refine Ev_neg (by rw [decide_eq_true_eq, nm_mem W hi hv]; exact hd i (by simp)) ?_
    refine Ev_pos (by rw [List.length_map]; omega) ?_
    refine Ev_bindc rfl ?_
    refine Ev_pos (by omega) (Ev_pos (by omega) ?_)
    rw [show (v ++ [i]).map (nm H) = v.map (nm H) ++ [nm H i] by simp]
    unfold supi at h
    by_cases hs : (cl H i).f1.toList = []
    · refine Ev_pos hs ?_
      exact Ev.now _
    · rw [if_neg hs] at h
      refine Ev_neg hs (Ev.bind (a := -1) (by have h3 := rfind_ev W.few (cl H i).f1; rw [h] at h3; exact h3) ?_)
      exact rstop _ _
  | @more i j l h k ih =>
    intro v hi hv hd hl
    simp at hl
    have h0 := h
    unfold supi at h
    by_cases hs : (cl H i).f1.toList = []
    · rw [if_pos hs] at h; cases h
    · rw [if_neg hs] at h
      have hr := ih (v ++ [i]) (idx_lt H h) (fun x hx => by
        rcases List.mem_append.1 hx with hx | hx
        · exact hv x hx
        · obtain rfl : x = i := by simpa using hx
          exact hi) (fun x hx hm => by
        rcases List.mem_append.1 hm with hm | hm
        · exact hd x (List.mem_cons_of_mem _ hx) hm
        · obtain rfl : x = i := by simpa using hm
          exact (CH.more h0 k).tail hx) (by simp; omega)
      refine Ev.step (fun k => by rw [dataflowref10_chain.l0]) ?_
      refine Ev_pos (by omega) (Ev.bind (in_ev _ (by rw [List.length_map]; omega) _) ?_)
      refine Ev_neg (by rw [decide_eq_true_eq, nm_mem W hi hv]; exact hd i (by simp)) ?_
      refine Ev_pos (by rw [List.length_map]; omega) ?_
      refine Ev_bindc rfl ?_
      refine Ev_pos (by omega) (Ev_pos (by omega) ?_)
      refine Ev_neg hs (Ev.bind (a := (j : Int)) (by have h3 := rfind_ev W.few (cl H i).f1; rw [h] at h3; exact h3) ?_)
      rw [List.append_assoc, show (v ++ [i]).map (nm H) = v.map (nm H) ++ [nm H i] by simp, show nm H j = (cl H i).f1 from idx_nm H h] at hr
      exact hr
theorem rsupers (W : Well H) {a : ByteArray} {i : Nat} {l : List Nat} (hs : idx H a = some i) (h : CH H i l) : Ev (fun k => dataflowref10_Supers.f k H a) (l.map (nm H)) := by
  have hi := idx_lt H hs
  have hl := h.len hi
  have hN := W.few
  have hr := rchain W h [] hi (fun _ hx => by cases hx) (fun _ _ hx => by cases hx) (by simp; omega)
  rw [show nm H i = a from idx_nm H hs] at hr
  refine Ev.bind (a := (l.map (nm H), false)) ?_ ?_
  · refine Ev.bind (a := (i : Int)) (by have h3 := rfind_ev W.few a; rw [hs] at h3; exact h3) ?_
    exact hr
  · exact Ev.now _
/-! ### nearest -/
def nearN (H : List S32) : Option (Nat × S37) → ByteArray
  | some (j, _) => nm H j
  | none => ⟨#[]⟩
theorem near_l1 (S : Sized H) (m : ByteArray) (L : List ByteArray) (n : Int) (j : Nat) (hj : j < H.length) (R : ByteArray) (hnext : Ev (fun k => dataflowlaw10_nearest.l0 k L m (wrap64 (n + 1)) H) R) :
    ∀ p, p ≤ (cl H j).f3.length → Ev (fun k => dataflowlaw10_nearest.l1 k L m n (p : Int) H (cl H j).f0 (cl H j).f1 (cl H j).f2 (cl H j).f3) (match fm ((cl H j).f3.drop p) m with | some s => nm H j | none => R) := by
  have hl := S.mth j hj
  generalize (cl H j).f3 = ms at hl ⊢
  refine up_ ms.length _ ?_ ?_
  · refine Ev.step (fun k => by rw [dataflowlaw10_nearest.l1]) (Ev_neg (by omega) ?_)
    rw [List.drop_length]
    exact hnext
  · intro p hp1 ih
    rw [← w64n p (by omega)] at ih
    have hx : rd_T37 ms (p : Int) = ms.getD p z37 := by simp [rd_T37]
    refine Ev.step (fun k => by rw [dataflowlaw10_nearest.l1]) ?_
    rw [hx, drop_at z37 ms p hp1]
    refine Ev_pos (by omega) (Ev_pos (by omega) ?_)
    by_cases h : (ms.getD p z37).f0 = m
    · have hf : fm (ms.getD p z37 :: ms.drop (p + 1)) m = some (ms.getD p z37) := by unfold fm; rw [List.find?_cons_of_pos (by simpa using h)]
      rw [hf]
      refine Ev_pos (tl_inj.2 h) ?_
      exact Ev.now _
    · have hf : fm (ms.getD p z37 :: ms.drop (p + 1)) m = fm (ms.drop (p + 1)) m := by unfold fm; rw [List.find?_cons_of_neg (by simpa using h)]
      rw [hf]
      refine Ev_neg (fun e => h (tl_inj.1 e)) ?_
      exact ih
theorem near_l0 (W : Well H) (S : Sized H) (m : ByteArray) (l : List Nat) (hl : l.length ≤ 64) (hlt : ∀ x ∈ l, x < H.length) : ∀ n, n ≤ l.length → Ev (fun k => dataflowlaw10_nearest.l0 k (l.map (nm H)) m (n : Int) H) (nearN H (lk H m (l.drop n))) := by
  refine up_ l.length _ ?_ ?_
  · refine Ev.step (fun k => by rw [dataflowlaw10_nearest.l0]) (Ev_neg (by rw [List.length_map]; omega) ?_)
    rw [List.drop_length]
    exact Ev.now _
  · intro n hn ih
    have hj := hlt _ (getD_mem 0 l n hn)
    rw [← w64n n (by omega)] at ih
    have h1 := near_l1 S m (l.map (nm H)) (n : Int) (l.getD n 0) hj _ ih 0 (Nat.zero_le _)
    have hx : rdOf ByteArray.empty (l.map (nm H)) (n : Int) = nm H (l.getD n 0) := by simp [rdOf, hn]
    refine Ev.step (fun k => by rw [dataflowlaw10_nearest.l0]) ?_
    rw [hx, drop_at 0 l n hn]
    refine Ev_pos (by rw [List.length_map]; omega) (Ev_pos (by omega) ?_)
    refine Ev.bind (a := ((l.getD n 0 : Nat) : Int)) (by have h3 := rfind_ev W.few (nm H (l.getD n 0)); rw [W.own _ hj] at h3; exact h3) ?_
    refine Ev_pos (by omega) (Ev_pos (by omega) ?_)
    unfold lk
    rw [List.drop_zero] at h1
    cases hf : fm (cl H (l.getD n 0)).f3 m with
    | some s => rw [hf] at h1; exact h1
    | none => rw [hf] at h1; exact h1
theorem near_ev (W : Well H) (S : Sized H) (m : ByteArray) (l : List Nat) (hl : l.length ≤ 64) (hlt : ∀ x ∈ l, x < H.length) : Ev (fun k => dataflowlaw10_nearest.f k H (l.map (nm H)) m) (nearN H (lk H m l)) := near_l0 W S m l hl hlt 0 (Nat.zero_le _)
end Go.Proofs.YtkbclcecmcdlfaaDoor.Pu
