/- HierInherits' plain law. -/
import Derived.Test.YtkbclcecmcdlfaaDoorDPL
import Derived.Test.YtkbclcecmcdlfaaDoorD16
namespace Go.Proofs.YtkbclcecmcdlfaaDoor.Pu
set_option linter.unusedVariables false
set_option linter.unusedSimpArgs false
open Go.RowKit Go.Proofs.YtkbclcecmcdlfaaDoor.PD Go.Proofs.YtkbclcecmcdlfaaDoorW.PrintWords Go.Proofs.YtkbclcecmcdlfaaDoorW.PrintLast Go.Proofs.YtkbclcecmcdlfaaDoorW.PrintMore
variable {H : List S32}
def ff (ms : List S67) (m : ByteArray) : Option S67 := ms.find? fun s => decide (s.f0 = m)
def fk (H : List S32) (m : ByteArray) : List Nat → Option (Nat × S67)
  | [] => none
  | j :: r => match ff (cl H j).f2 m with
    | some s => some (j, s)
    | none => fk H m r
def resF (H : List S32) : Option (Nat × S67) → ByteArray × ByteArray × Bool
  | some (j, s) => (nm H j, s.f1, true)
  | none => (⟨#[]⟩, ⟨#[]⟩, false)
theorem ff_mem {ms : List S67} {m : ByteArray} {s : S67} (h : ff ms m = some s) : s ∈ ms ∧ s.f0 = m := by
  refine ⟨List.mem_of_find?_eq_some h, ?_⟩
  have := List.find?_some h
  simpa using this
theorem fk_mem {m : ByteArray} {j : Nat} {s : S67} : ∀ {l : List Nat}, fk H m l = some (j, s) → j ∈ l ∧ s ∈ (cl H j).f2 ∧ s.f0 = m
  | [], h => by cases h
  | x :: r, h => by
    unfold fk at h
    cases hx : ff (cl H x).f2 m with
    | some s' =>
      rw [hx] at h
      simp only [Option.some.injEq, Prod.mk.injEq] at h
      obtain ⟨rfl, rfl⟩ := h
      exact ⟨List.mem_cons_self, ff_mem hx⟩
    | none =>
      rw [hx] at h
      have := fk_mem h
      exact ⟨List.mem_cons_of_mem _ this.1, this.2⟩
theorem fk_app (m : ByteArray) (q : List Nat) : ∀ p : List Nat, fk H m (p ++ q) = (fk H m p).or (fk H m q)
  | [] => rfl
  | x :: r => by
    simp only [List.cons_append, fk]
    cases ff (cl H x).f2 m with
    | some s => rfl
    | none => exact fk_app m q r
theorem field_l1 (S : Sized H) (m : ByteArray) (l : List Nat) (n : Int) (j : Nat) (hj : j < H.length) (R : ByteArray × ByteArray × Bool) (hnext : Ev (fun k => hier_Field.l0 k m (ints l) ((ints l).length : Int) (wrap64 (n + 1)) H) R) :
    ∀ p, p ≤ (cl H j).f2.length → Ev (fun k => hier_Field.l1 k m (j : Int) (ints l) ((ints l).length : Int) n (cl H j).f2 ((cl H j).f2.length : Int) (p : Int) H) (match ff ((cl H j).f2.drop p) m with | some s => resF H (some (j, s)) | none => R) := by
  have hl := S.fld j hj
  generalize (cl H j).f2 = ms at hl ⊢
  refine up_ ms.length _ ?_ ?_
  · refine Ev.step (fun k => by rw [hier_Field.l1]) (Ev_neg (by omega) ?_)
    rw [List.drop_length]
    exact hnext
  · intro p hp1 ih
    rw [← w64n p (by omega)] at ih
    have hx : rd_T67 ms (p : Int) = ms.getD p z67 := by simp [rd_T67]
    refine Ev.step (fun k => by rw [hier_Field.l1]) ?_
    rw [hx, drop_at z67 ms p hp1]
    refine Ev_pos (by omega) (Ev_pos (by omega) (Ev_pos (by omega) ?_))
    by_cases h : (ms.getD p z67).f0 = m
    · have hf : ff (ms.getD p z67 :: ms.drop (p + 1)) m = some (ms.getD p z67) := by unfold ff; rw [List.find?_cons_of_pos (by simpa using h)]
      rw [hf]
      refine Ev_pos (tl_inj.2 h) (Ev_pos (by omega) (Ev_pos (by omega) ?_))
      exact Ev.now _
    · have hf : ff (ms.getD p z67 :: ms.drop (p + 1)) m = ff (ms.drop (p + 1)) m := by unfold ff; rw [List.find?_cons_of_neg (by simpa using h)]
      rw [hf]
      refine Ev_neg (fun e => h (tl_inj.1 e)) ?_
      exact ih
theorem field_l0 (S : Sized H) (m : ByteArray) (l : List Nat) (hl : l.length ≤ 64) (hlt : ∀ x ∈ l, x < H.length) : ∀ n, n ≤ l.length → Ev (fun k => hier_Field.l0 k m (ints l) ((ints l).length : Int) (n : Int) H) (resF H (fk H m (l.drop n))) := by
  refine up_ l.length _ ?_ ?_
  · refine Ev.step (fun k => by rw [hier_Field.l0]) (Ev_neg (by rw [ints_len]; omega) ?_)
    rw [List.drop_length]
    exact Ev.now _
  · intro n hn ih
    have hj := hlt _ (getD_mem 0 l n hn)
    rw [← w64n n (by omega)] at ih
    have h1 := field_l1 S m l (n : Int) (l.getD n 0) hj _ ih 0 (Nat.zero_le _)
    refine Ev.step (fun k => by rw [hier_Field.l0]) ?_
    rw [rd_ints l n hn, drop_at 0 l n hn]
    refine Ev_pos (by rw [ints_len]; omega) (Ev_pos (by omega) (Ev_pos (by rw [ints_len]; omega) (Ev_pos (by omega) (Ev_pos (by omega) ?_))))
    unfold fk
    rw [List.drop_zero] at h1
    cases hf : ff (cl H (l.getD n 0)).f2 m with
    | some s => rw [hf] at h1; exact h1
    | none => rw [hf] at h1; exact h1
theorem field_some (W : Well H) (S : Sized H) {a : ByteArray} {i : Nat} {l : List Nat} (hs : idx H a = some i) (h : CH H i l) (m : ByteArray) : Ev (fun k => hier_Field.f k H a m) (resF H (fk H m l)) := by
  have hi := idx_lt H hs
  have hl := h.len hi
  have hN := W.few
  refine Ev.bind (index_ev H hN) ?_
  refine Ev.bind (chain_f hN hs h) ?_
  exact field_l0 S m l (by omega) (h.lt hi) 0 (Nat.zero_le _)
theorem same_l0 (x0 : ByteArray) (x1 : Bool) (a : List ByteArray) (x3 y0 : ByteArray) (y1 : Bool) (y3 : ByteArray) (ha : a.length < 8796093022208) : ∀ n, n ≤ a.length → Ev (fun k => dataflowref10_SameSig.l0 k (n : Int) x0 x1 a x3 y0 y1 a y3) true := by
  refine up_ a.length _ ?_ ?_
  · exact Ev.step (fun k => by rw [dataflowref10_SameSig.l0]) (Ev_neg (by omega) (Ev.now _))
  · intro n hn ih
    rw [← w64n n (by omega)] at ih
    exact Ev.step (fun k => by rw [dataflowref10_SameSig.l0]) (Ev_pos (by omega) (Ev_pos (by omega) (Ev_pos (by omega) (Ev_pos rfl ih))))
theorem sig_ev (s t : S37) (h0 : s.f0 = t.f0) (h1 : s.f1 = t.f1) (h2 : s.f2 = t.f2) (h3 : s.f3 = t.f3) (hl : s.f2.length < 8796093022208) : Ev (fun k => dataflowlaw10_sig.f k s.f0 s.f1 s.f2 s.f3 t.f0 t.f1 t.f2 t.f3) true := by
  rw [← h2, ← h3]
  refine Ev_pos (tl_inj.2 h0) (Ev_pos (by rw [h1]; simp) ?_)
  refine Ev.bind ?_ (Ev.now _)
  refine Ev_pos rfl ?_
  rw [show (s.f3.toList != s.f3.toList) = false by simp]
  refine Ev.step (fun k => by rw [dataflowref10_SameSig.j0]) (Ev_neg (by decide) ?_)
  exact same_l0 _ _ _ _ _ _ _ hl 0 (Nat.zero_le _)
theorem HierInherits (S : Sized H) (a b c : ByteArray) : ∃ k, dataflowlaw10_HierInherits.f k H a b c = some true := by
  have key : Tot (fun k => dataflowlaw10_HierInherits.f k H a b c) (fun r => r = true) := by
    have jt : Tot (fun k => dataflowlaw10_HierInherits.j0 k a b c true H) (fun r => r = true) := Tot.step (fun k => by rw [dataflowlaw10_HierInherits.j0]) (Tot.pos rfl awake_tot)
    refine Tot.bind (check_tot S) (fun r hr => Tot.ite (fun h0 => ?_) (fun _ => jt))
    obtain ⟨hN, hok⟩ := hr h0
    have W := well_of hN hok
    obtain ⟨t1, e1, p1⟩ := issub_ev W a b
    refine Tot.bindE e1 ?_
    cases ht : t1 with
    | false => exact jt
    | true =>
      obtain ⟨i, l, x, p, q, ha, k, e, hq, hb⟩ := sub_ch W (p1.1 ht)
      have hlt := k.lt (idx_lt H ha)
      -- what stands above y in l
      have hab : ∀ y ∈ p, ∃ t, CH H y (y :: t) ∧ (∀ z ∈ q, z ∈ t) := by
        intro y hy
        obtain ⟨p1, p2, rfl⟩ := List.append_of_mem hy
        exact ⟨p2 ++ q, k.suffix p1 y (p2 ++ q) (by rw [e]; simp), fun z hz => List.mem_append_right _ hz⟩
      have hpl : ∀ y ∈ p, y < H.length := fun y hy => hlt y (by rw [e]; exact List.mem_append_left _ hy)
      have j1 : Tot (fun k => dataflowlaw10_HierInherits.j1 k a b c false H) (fun r => r = true) := by
        refine Tot.step (fun k => by rw [dataflowlaw10_HierInherits.j1]) (Tot.neg (by decide) ?_)
        refine Tot.bindE (lookup_some W S hb hq c) ?_
        refine Tot.bindE (lookup_some W S ha k c) ?_
        cases h1 : lk H c q with
        | none => exact Tot.neg (by simp [res]) awake_tot
        | some js =>
          obtain ⟨j, s⟩ := js
          have m1 := lk_mem h1
          have h2 : ∃ j2 s2, lk H c l = some (j2, s2) ∧ s2 ∈ (cl H j2).f3 ∧ j2 < H.length ∧ s.f0 = s2.f0 ∧ s.f1 = s2.f1 ∧ s.f2 = s2.f2 ∧ s.f3 = s2.f3 := by
            cases h3 : lk H c p with
            | none =>
              refine ⟨j, s, by rw [e, lk_app, h3, h1]; rfl, m1.2.1, hlt j (by rw [e]; exact List.mem_append_right _ m1.1), rfl, rfl, rfl, rfl⟩
            | some ys =>
              obtain ⟨y, s2⟩ := ys
              have m2 := lk_mem h3
              obtain ⟨t, hy, ht2⟩ := hab y m2.1
              obtain ⟨t', hc', _, hM⟩ := (hok y (hpl y m2.1)).ch
              have ett := hc'.det hy
              injection ett with _ ett
              subst ett
              have hc := hM s2 m2.2.1 j (ht2 j m1.1) s m1.2.1 (by rw [m1.2.2, m2.2.2])
              exact ⟨y, s2, by rw [e, lk_app, h3]; rfl, m2.2.1, hpl y m2.1, by rw [m1.2.2, m2.2.2], by rw [hc.1, hc.2.1], hc.2.2.2, hc.2.2.1⟩
          obtain ⟨j2, s2, h2, hm2, hj2, g0, g1, g2, g3⟩ := h2
          rw [h2]
          refine Tot.pos rfl (Tot.pos rfl ?_)
          refine Tot.bindE (sig_ev s s2 g0 g1 g2 g3 (by rw [g2]; exact S.prm j2 hj2 s2 hm2)) ?_
          exact Tot.pos rfl awake_tot
      refine Tot.step (fun k => by rw [dataflowlaw10_HierInherits.j0]) (Tot.neg (by decide) ?_)
      refine Tot.bindE (field_some W S hb hq c) ?_
      refine Tot.bindE (field_some W S ha k c) ?_
      cases h1 : fk H c q with
      | none => exact Tot.neg (by simp [resF]) j1
      | some js =>
        obtain ⟨j, s⟩ := js
        have m1 := fk_mem h1
        have h3 : fk H c p = none := by
          cases h3 : fk H c p with
          | none => rfl
          | some ys =>
            exfalso
            obtain ⟨y, s2⟩ := ys
            have m2 := fk_mem h3
            obtain ⟨t, hy, ht2⟩ := hab y m2.1
            obtain ⟨t', hc', hF, _⟩ := (hok y (hpl y m2.1)).ch
            have ett := hc'.det hy
            injection ett with _ ett
            subst ett
            exact hF s2 m2.2.1 j (ht2 j m1.1) s m1.2.1 (by rw [m1.2.2, m2.2.2])
        rw [show fk H c l = some (j, s) by rw [e, fk_app, h3, h1]; rfl]
        refine Tot.pos rfl (Tot.pos rfl (Tot.pos rfl ?_))
        rw [show ((resF H (some (j, s))).2.1.toList != (resF H (some (j, s))).2.1.toList) = false by simp]
        exact j1
  obtain ⟨r, hr, rfl⟩ := key
  exact hr.rounds
end Go.Proofs.YtkbclcecmcdlfaaDoor.Pu
