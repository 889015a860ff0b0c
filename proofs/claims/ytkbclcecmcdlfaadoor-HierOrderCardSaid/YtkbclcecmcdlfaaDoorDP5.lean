/- HierOrder's plain law. -/
import Derived.Test.YtkbclcecmcdlfaaDoorDP4
import Derived.Test.YtkbclcecmcdlfaaDoorD13
namespace Go.Proofs.YtkbclcecmcdlfaaDoor.Pu
set_option linter.unusedVariables false
set_option linter.unusedSimpArgs false
open Go.RowKit Go.Proofs.YtkbclcecmcdlfaaDoor.PD Go.Proofs.YtkbclcecmcdlfaaDoorW.PrintWords Go.Proofs.YtkbclcecmcdlfaaDoorW.PrintLast Go.Proofs.YtkbclcecmcdlfaaDoorW.PrintMore
variable {H : List S32}
theorem sub_refl (W : Well H) (a : ByteArray) : Sub H a a ↔ (idx H a).isSome = true := by
  constructor
  · rintro ⟨L, hL, hm⟩
    cases hL with
    | none h => simp at hm
    | some h k => rw [h]; rfl
  · intro h
    cases hx : idx H a with
    | none => rw [hx] at h; cases h
    | some i =>
      obtain ⟨l, hl⟩ := W.ends i (idx_lt H hx)
      refine ⟨_, .some hx hl, ?_⟩
      obtain ⟨t, rfl⟩ := hl.head
      rw [List.map_cons, show nm H i = a from idx_nm H hx]
      exact List.mem_cons_self
theorem sub_ch (W : Well H) {a b : ByteArray} (h : Sub H a b) : ∃ i l x p q, idx H a = some i ∧ CH H i l ∧ l = p ++ q ∧ CH H x q ∧ idx H b = some x := by
  obtain ⟨L, hL, hm⟩ := h
  cases hL with
  | none h => simp at hm
  | @some i l h k =>
    obtain ⟨x, hx, rfl⟩ := List.mem_map.1 hm
    obtain ⟨p, q, e, hq⟩ := k.mem x hx
    exact ⟨i, l, x, p, q, h, k, e, hq, W.own x (k.lt (idx_lt H h) x hx)⟩
theorem sub_of {i : Nat} {l : List Nat} {a b : ByteArray} {x : Nat} (h : idx H a = some i) (k : CH H i l) (hx : x ∈ l) (hb : nm H x = b) : Sub H a b := ⟨_, .some h k, List.mem_map.2 ⟨x, hx, hb⟩⟩
theorem sub_trans (W : Well H) {a b c : ByteArray} (h1 : Sub H a b) (h2 : Sub H b c) : Sub H a c := by
  obtain ⟨i, l, x, p, q, ha, k, e, hq, hb⟩ := sub_ch W h1
  obtain ⟨x', l', y, p', q', hb', k', e', hq', hc⟩ := sub_ch W h2
  rw [hb] at hb'
  obtain rfl := Option.some.inj hb'
  obtain rfl := hq.det k'
  refine sub_of ha k (x := y) ?_ (idx_nm H hc)
  obtain ⟨t, rfl⟩ := hq'.head
  rw [e, e']
  simp
theorem sub_anti (W : Well H) {a b : ByteArray} (h1 : Sub H a b) (h2 : Sub H b a) : a = b := by
  obtain ⟨i, l, x, p, q, ha, k, e, hq, hb⟩ := sub_ch W h1
  obtain ⟨x', l', y, p', q', hb', k', e', hq', hc⟩ := sub_ch W h2
  rw [hb] at hb'
  obtain rfl := Option.some.inj hb'
  obtain rfl := hq.det k'
  rw [ha] at hc
  obtain rfl := Option.some.inj hc
  have hi : i ∈ q := by
    obtain ⟨t, rfl⟩ := hq'.head
    rw [e']; simp
  cases p with
  | nil =>
    rw [List.nil_append] at e
    subst e
    obtain ⟨t1, e1⟩ := k.head
    obtain ⟨t2, e2⟩ := hq.head
    rw [e1] at e2
    injection e2 with e3
    subst e3
    rw [← idx_nm H ha, ← idx_nm H hb]
  | cons z p =>
    obtain ⟨t1, e1⟩ := k.head
    rw [e1] at e
    injection e with e2 e3
    exfalso
    rw [e1] at k
    exact k.tail (by rw [e3]; exact List.mem_append_right _ hi)
theorem ch_last {i : Nat} {l : List Nat} (h : CH H i l) : ∃ p y, l = p ++ [y] ∧ supi H y = none := by
  induction h with
  | last h => exact ⟨[], _, rfl, h⟩
  | @more i j l h k ih =>
    obtain ⟨p, y, e, hy⟩ := ih
    exact ⟨i :: p, y, by rw [e]; rfl, hy⟩
theorem order_j1 (W : Well H) (a : ByteArray) : Tot (fun k => dataflowlaw10_HierOrder.j1 k a false H) (fun r => r = true) := by
  obtain ⟨L, hL⟩ := above W a
  have hlen := hL.len W
  refine Tot.step (fun k => by rw [dataflowlaw10_HierOrder.j1]) (Tot.neg (by decide) ?_)
  refine Tot.bindE (hL.ev W) ?_
  refine Tot.ite (fun _ => awake_tot) (fun h0 => ?_)
  cases hL with
  | none h => exact absurd rfl h0
  | @some i l h k =>
    obtain ⟨p, y, e, hy⟩ := ch_last k
    have hyl : y < H.length := k.lt (idx_lt H h) y (by rw [e]; simp)
    have hl : (l.map (nm H)).length = p.length + 1 := by rw [e]; simp
    have hw : wrap64 (((l.map (nm H)).length : Int) - 1) = ((p.length : Nat) : Int) := by rw [hl]; unfold wrap64; omega
    rw [hw]
    refine Tot.pos (by omega) (Tot.pos (by omega) ?_)
    have hr : rdOf ByteArray.empty (l.map (nm H)) ((p.length : Nat) : Int) = nm H y := by rw [e]; simp [rdOf]
    rw [hr]
    refine Tot.bindE (a := (y : Int)) (by have h3 := rfind_ev W.few (nm H y); rw [W.own y hyl] at h3; exact h3) ?_
    refine Tot.pos (by omega) (Tot.pos (by omega) ?_)
    refine Tot.pos ?_ awake_tot
    show (cl H y).f1.toList = []
    rcases W.sup y hyl with h1 | ⟨j, h1⟩
    · exact h1
    · unfold supi at hy
      by_cases h2 : (cl H y).f1.toList = []
      · exact h2
      · rw [if_neg h2, h1] at hy; cases hy
theorem order_j0 (W : Well H) (a b : ByteArray) : Tot (fun k => dataflowlaw10_HierOrder.j0 k a b false H) (fun r => r = true) := by
  obtain ⟨t1, e1, p1⟩ := issub_ev W a a
  obtain ⟨t2, e2, p2⟩ := issub_ev W a b
  obtain ⟨r, er, o, ho, hol, hm⟩ := subs_tot W b
  refine Tot.step (fun k => by rw [dataflowlaw10_HierOrder.j0]) (Tot.neg (by decide) ?_)
  refine Tot.bindE e1 ?_
  refine Tot.bindE (find_ev W.few a) ?_
  have h1 : t1 = decide ((idx H a).elim (-1) (fun (j : Nat) => (j : Int)) ≥ 0) := by
    rw [Bool.eq_iff_iff, p1, sub_refl W]
    cases idx H a with
    | none => simp
    | some j => simp
  refine Tot.neg (by rw [← h1]; simp) ?_
  refine Tot.bindE e2 ?_
  refine Tot.bindE er ?_
  have hrl : r.length < 4611686018427387904 := by
    have h3 := len_compB (sortB o)
    rw [len_sortB] at h3
    have := W.few
    rw [ho]; omega
  refine Tot.bindE (has_ev r hrl a) ?_
  have h2 : (t2 != decide (a ∈ r)) = false := by
    have : t2 = decide (a ∈ r) := by rw [Bool.eq_iff_iff, p2, decide_eq_true_eq, subs_mem ho, hm]
    rw [this]; simp
  rw [h2]
  exact order_j1 W a
theorem HierOrder (S : Sized H) (a b c : ByteArray) : ∃ k, dataflowlaw10_HierOrder.f k H a b c = some true := by
  have key : Tot (fun k => dataflowlaw10_HierOrder.f k H a b c) (fun r => r = true) := by
    refine Tot.bind (check_tot S) (fun r hr => Tot.ite (fun h0 => ?_) (fun _ => awake_tot))
    obtain ⟨hN, hok⟩ := hr h0
    have W := well_of hN hok
    have J := order_j0 W a b
    obtain ⟨t1, e1, p1⟩ := issub_ev W a b
    obtain ⟨t2, e2, p2⟩ := issub_ev W b c
    obtain ⟨t3, e3, p3⟩ := issub_ev W a c
    obtain ⟨t4, e4, p4⟩ := issub_ev W b a
    have mid : Tot (fun k => if a.toList = b.toList then dataflowlaw10_HierOrder.j0 k a b false H else (hier_IsSub.f k H a b).bind fun t499 => (if t499 = true then ((hier_IsSub.f k H b a).bind fun t500 => (dataflowlaw10_HierOrder.j0 k a b t500 H)) else (dataflowlaw10_HierOrder.j0 k a b false H))) (fun r => r = true) := by
      refine Tot.ite (fun _ => J) (fun hne => ?_)
      refine Tot.bindE e1 (Tot.ite (fun h1 => ?_) (fun _ => J))
      refine Tot.bindE e4 ?_
      cases h4 : t4 with
      | false => exact J
      | true => exact absurd (tl_inj.2 (sub_anti W (p1.1 h1) (p4.1 h4))) hne
    refine Tot.bindE e1 (Tot.ite (fun h1 => ?_) (fun _ => mid))
    refine Tot.bindE e2 (Tot.ite (fun h2 => ?_) (fun _ => mid))
    refine Tot.bindE e3 (Tot.ite (fun _ => mid) (fun h3 => absurd (p3.2 (sub_trans W (p1.1 h1) (p2.1 h2))) h3))
  obtain ⟨r, hr, rfl⟩ := key
  exact hr.rounds
end Go.Proofs.YtkbclcecmcdlfaaDoor.Pu
