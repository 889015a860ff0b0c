/- What Lookup answers. -/
import Derived.Test.YtkbclcecmcdlfaaDoorDP5a
import Derived.Test.YtkbclcecmcdlfaaDoorD8
namespace Go.Proofs.YtkbclcecmcdlfaaDoor.Pu
set_option linter.unusedVariables false
set_option linter.unusedSimpArgs false
open Go.RowKit Go.Proofs.YtkbclcecmcdlfaaDoor.PD Go.Proofs.YtkbclcecmcdlfaaDoorW.PrintWords Go.Proofs.YtkbclcecmcdlfaaDoorW.PrintLast Go.Proofs.YtkbclcecmcdlfaaDoorW.PrintMore
variable {H : List S32}
def fm (ms : List S37) (m : ByteArray) : Option S37 := ms.find? fun s => decide (s.f0 = m)
def lk (H : List S32) (m : ByteArray) : List Nat → Option (Nat × S37)
  | [] => none
  | j :: r => match fm (cl H j).f3 m with
    | some s => some (j, s)
    | none => lk H m r
def res (H : List S32) : Option (Nat × S37) → ByteArray × ByteArray × Bool × List ByteArray × ByteArray × Bool
  | some (j, s) => (nm H j, s.f0, s.f1, s.f2, s.f3, true)
  | none => (⟨#[]⟩, ⟨#[]⟩, false, [], ⟨#[]⟩, false)
theorem fm_mem {ms : List S37} {m : ByteArray} {s : S37} (h : fm ms m = some s) : s ∈ ms ∧ s.f0 = m := by
  refine ⟨List.mem_of_find?_eq_some h, ?_⟩
  have := List.find?_some h
  simpa using this
theorem lk_mem {m : ByteArray} {j : Nat} {s : S37} : ∀ {l : List Nat}, lk H m l = some (j, s) → j ∈ l ∧ s ∈ (cl H j).f3 ∧ s.f0 = m
  | [], h => by cases h
  | x :: r, h => by
    unfold lk at h
    cases hx : fm (cl H x).f3 m with
    | some s' =>
      rw [hx] at h
      simp only [Option.some.injEq, Prod.mk.injEq] at h
      obtain ⟨rfl, rfl⟩ := h
      exact ⟨List.mem_cons_self, fm_mem hx⟩
    | none =>
      rw [hx] at h
      have := lk_mem h
      exact ⟨List.mem_cons_of_mem _ this.1, this.2⟩
theorem lk_app (m : ByteArray) (q : List Nat) : ∀ p : List Nat, lk H m (p ++ q) = (lk H m p).or (lk H m q)
  | [] => rfl
  | x :: r => by
    simp only [List.cons_append, lk]
    cases fm (cl H x).f3 m with
    | some s => rfl
    | none => exact lk_app m q r
theorem clone_ev (l : List ByteArray) (h : l.length < 8796093022208) : slices_Clone_string_string.f l = some l := by
  unfold slices_Clone_string_string.f
  rw [Option.bind_some, if_pos (by simp; omega), List.nil_append]
theorem copy_ev (s : S37) (h : s.f2.length < 8796093022208) : hier_copySig.f s.f0 s.f1 s.f2 s.f3 = some (s.f0, s.f1, s.f2, s.f3) := by
  unfold hier_copySig.f
  rw [clone_ev _ h]
  rfl
theorem lookup_l1 (S : Sized H) (m : ByteArray) (l : List Nat) (n : Int) (j : Nat) (hj : j < H.length) (R : ByteArray × ByteArray × Bool × List ByteArray × ByteArray × Bool) (hnext : Ev (fun k => hier_Lookup.l0 k m (ints l) ((ints l).length : Int) (wrap64 (n + 1)) H) R) :
    ∀ p, p ≤ (cl H j).f3.length → Ev (fun k => hier_Lookup.l1 k m (j : Int) (ints l) ((ints l).length : Int) n (cl H j).f3 ((cl H j).f3.length : Int) (p : Int) H) (match fm ((cl H j).f3.drop p) m with | some s => res H (some (j, s)) | none => R) := by
  have hl := S.mth j hj
  have hp := S.prm j hj
  generalize (cl H j).f3 = ms at hl hp ⊢
  refine up_ ms.length _ ?_ ?_
  · refine Ev.step (fun k => by rw [hier_Lookup.l1]) (Ev_neg (by omega) ?_)
    rw [List.drop_length]
    exact hnext
  · intro p hp1 ih
    rw [← w64n p (by omega)] at ih
    have hx : rd_T37 ms (p : Int) = ms.getD p z37 := by simp [rd_T37]
    have hmem := getD_mem z37 ms p hp1
    refine Ev.step (fun k => by rw [hier_Lookup.l1]) ?_
    rw [hx, drop_at z37 ms p hp1]
    refine Ev_pos (by omega) (Ev_pos (by omega) (Ev_pos (by omega) ?_))
    by_cases h : (ms.getD p z37).f0 = m
    · have hf : fm (ms.getD p z37 :: ms.drop (p + 1)) m = some (ms.getD p z37) := by unfold fm; rw [List.find?_cons_of_pos (by simpa using h)]
      rw [hf]
      refine Ev_pos (tl_inj.2 h) (Ev_pos (by omega) (Ev_pos (by omega) ?_))
      refine Ev_bindc (copy_ev _ (hp _ hmem)) ?_
      exact Ev.now _
    · have hf : fm (ms.getD p z37 :: ms.drop (p + 1)) m = fm (ms.drop (p + 1)) m := by unfold fm; rw [List.find?_cons_of_neg (by simpa using h)]
      rw [hf]
      refine Ev_neg (fun e => h (tl_inj.1 e)) ?_
      exact ih
theorem lookup_l0 (S : Sized H) (m : ByteArray) (l : List Nat) (hl : l.length ≤ 64) (hlt : ∀ x ∈ l, x < H.length) : ∀ n, n ≤ l.length → Ev (fun k => hier_Lookup.l0 k m (ints l) ((ints l).length : Int) (n : Int) H) (res H (lk H m (l.drop n))) := by
  refine up_ l.length _ ?_ ?_
  · refine Ev.step (fun k => by rw [hier_Lookup.l0]) (Ev_neg (by rw [ints_len]; omega) ?_)
    rw [List.drop_length]
    exact Ev.now _
  · intro n hn ih
    have hj := hlt _ (getD_mem 0 l n hn)
    rw [← w64n n (by omega)] at ih
    have h1 := lookup_l1 S m l (n : Int) (l.getD n 0) hj _ ih 0 (Nat.zero_le _)
    refine Ev.step (fun k => by rw [hier_Lookup.l0]) ?_
    rw [rd_ints l n hn, drop_at 0 l n hn]
    refine Ev_pos (by rw [ints_len]; omega) (Ev_pos (by omega) (Ev_pos (by rw [ints_len]; omega) (Ev_pos (by omega) (Ev_pos (by omega) ?_))))
    unfold lk
    rw [List.drop_zero] at h1
    cases hf : fm (cl H (l.getD n 0)).f3 m with
    | some s => rw [hf] at h1; exact h1
    | none => rw [hf] at h1; exact h1
theorem lookup_some (W : Well H) (S : Sized H) {a : ByteArray} {i : Nat} {l : List Nat} (hs : idx H a = some i) (h : CH H i l) (m : ByteArray) : Ev (fun k => hier_Lookup.f k H a m) (res H (lk H m l)) := by
  have hi := idx_lt H hs
  have hl := h.len hi
  have hN := W.few
  refine Ev.bind (index_ev H hN) ?_
  refine Ev.bind (chain_f hN hs h) ?_
  exact lookup_l0 S m l (by omega) (h.lt hi) 0 (Nat.zero_le _)
theorem CH.suffix {i : Nat} {l : List Nat} (h : CH H i l) : ∀ p y s, l = p ++ y :: s → CH H y (y :: s) := by
  induction h with
  | @last i h =>
    intro p y s e
    cases p with
    | nil =>
      injection e with e1 e2
      subst e1; subst e2
      exact .last h
    | cons z p => injection e with e1 e2; cases p <;> cases e2
  | @more i j l h k ih =>
    intro p y s e
    cases p with
    | nil =>
      injection e with e1 e2
      subst e1; subst e2
      exact .more h k
    | cons z p =>
      injection e with e1 e2
      exact ih p y s e2
end Go.Proofs.YtkbclcecmcdlfaaDoor.Pu
