/- HierOrder's plain law. -/
import Derived.Test.YtkbclcecmcdlfaaDoorDP4
namespace Go.Proofs.YtkbclcecmcdlfaaDoor.Pu
set_option linter.unusedVariables false
set_option linter.unusedSimpArgs false
open Go.RowKit Go.Proofs.YtkbclcecmcdlfaaDoor.PD Go.Proofs.YtkbclcecmcdlfaaDoorW.PrintWords Go.Proofs.YtkbclcecmcdlfaaDoorW.PrintLast Go.Proofs.YtkbclcecmcdlfaaDoorW.PrintMore
variable {H : List S32}
theorem sub_refl (W : Well H) (a : ByteArray) : Sub H a a ↔ (idx H a).isSome = true := by
  constructor
  · rintro ⟨L, hL, hm⟩
    cases hL with
    | none h => simp at hm
    | some h k => rw [h]; rfl
  · intro h
    cases hx : idx H a with
    | none => rw [hx] at h; cases h
    | some i =>
      obtain ⟨l, hl⟩ := W.ends i (idx_lt H hx)
      refine ⟨_, .some hx hl, ?_⟩
      obtain ⟨t, rfl⟩ := hl.head
      rw [List.map_cons, show nm H i = a from idx_nm H hx]
      exact List.mem_cons_self
theorem sub_ch (W : Well H) {a b : ByteArray} (h : Sub H a b) : ∃ i l x p q, idx H a = some i ∧ CH H i l ∧ l = p ++ q ∧ CH H x q ∧ idx H b = some x := by
  obtain ⟨L, hL, hm⟩ := h
  cases hL with
  | none h => simp at hm
  | @some i l h k =>
    obtain ⟨x, hx, rfl⟩ := List.mem_map.1 hm
    obtain ⟨p, q, e, hq⟩ := k.mem x hx
    exact ⟨i, l, x, p, q, h, k, e, hq, W.own x (k.lt (idx_lt H h) x hx)⟩
theorem sub_of {i : Nat} {l : List Nat} {a b : ByteArray} {x : Nat} (h : idx H a = some i) (k : CH H i l) (hx : x ∈ l) (hb : nm H x = b) : Sub H a b := ⟨_, .some h k, List.mem_map.2 ⟨x, hx, hb⟩⟩
theorem sub_trans (W : Well H) {a b c : ByteArray} (h1 : Sub H a b) (h2 : Sub H b c) : Sub H a c := by
  obtain ⟨i, l, x, p, q, ha, k, e, hq, hb⟩ := sub_ch W h1
  obtain ⟨x', l', y, p', q', hb', k', e', hq', hc⟩ := sub_ch W h2
  rw [hb] at hb'
  obtain rfl := Option.some.inj hb'
  obtain rfl := hq.det k'
  refine sub_of ha k (x := y) ?_ (idx_nm H hc)
  obtain ⟨t, rfl⟩ := hq'.head
  rw [e, e']
  simp
theorem sub_anti (W : Well H) {a b : ByteArray} (h1 : Sub H a b) (h2 : Sub H b a) : a = b := by
  obtain ⟨i, l, x, p, q, ha, k, e, hq, hb⟩ := sub_ch W h1
  obtain ⟨x', l', y, p', q', hb', k', e', hq', hc⟩ := sub_ch W h2
  rw [hb] at hb'
  obtain rfl := Option.some.inj hb'
  obtain rfl := hq.det k'
  rw [ha] at hc
  obtain rfl := Option.some.inj hc
  have hi : i ∈ q := by
    obtain ⟨t, rfl⟩ := hq'.head
    rw [e']; simp
  cases p with
  | nil =>
    rw [List.nil_append] at e
    subst e
    obtain ⟨t1, e1⟩ := k.head
    obtain ⟨t2, e2⟩ := hq.head
    rw [e1] at e2
    injection e2 with e3
    subst e3
    rw [← idx_nm H ha, ← idx_nm H hb]
  | cons z p =>
    obtain ⟨t1, e1⟩ := k.head
    rw [e1] at e
    injection e with e2 e3
    exfalso
    rw [e1] at k
    exact k.tail (by rw [e3]; exact List.mem_append_right _ hi)
theorem ch_last {i : Nat} {l : List Nat} (h : CH H i l) : ∃ p y, l = p ++ [y] ∧ supi H y = none := by
  induction h with
  | last h => exact ⟨[], _, rfl, h⟩
  | @more i j l h k ih =>
    obtain ⟨p, y, e, hy⟩ := ih
    exact ⟨i :: p, y, by rw [e]; rfl, hy⟩

end Go.Proofs.YtkbclcecmcdlfaaDoor.Pu
