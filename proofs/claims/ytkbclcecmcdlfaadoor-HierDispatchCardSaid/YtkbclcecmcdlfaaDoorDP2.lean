/- What Supers, IsSub, Find and Subs answer, where every chain ends. -/
import Derived.Test.YtkbclcecmcdlfaaDoorDP1
import Derived.Test.YtkbclcecmcdlfaaDoorD9
namespace Go.Proofs.YtkbclcecmcdlfaaDoor.Pu
set_option linter.unusedVariables false
set_option linter.unusedSimpArgs false
open Go.RowKit Go.Proofs.YtkbclcecmcdlfaaDoor.PD Go.Proofs.YtkbclcecmcdlfaaDoorW.PrintWords Go.Proofs.YtkbclcecmcdlfaaDoorW.PrintLast Go.Proofs.YtkbclcecmcdlfaaDoorW.PrintMore
theorem toL_ofL (s : List UInt8) : toL (ofL s) = s := by simp [toL, ofL]
theorem ofL_toL (s : ByteArray) : ofL (toL s) = s := by cases s; simp [toL, ofL]
theorem mem_sortB (x : ByteArray) (l : List ByteArray) : x ∈ sortB l ↔ x ∈ l := by
  unfold sortB
  rw [List.mem_map]
  constructor
  · rintro ⟨a, ha, rfl⟩
    rw [List.mem_mergeSort, List.mem_map] at ha
    obtain ⟨b, hb, rfl⟩ := ha
    rw [ofL_toL]; exact hb
  · intro h
    exact ⟨toL x, by rw [List.mem_mergeSort]; exact List.mem_map_of_mem h, ofL_toL x⟩
theorem len_sortB (l : List ByteArray) : (sortB l).length = l.length := by simp [sortB]
theorem mem_compact (zs : List (List UInt8)) (x : List UInt8) : x ∈ Go.Lib.compact zs ↔ x ∈ zs := by
  unfold Go.Lib.compact Go.Lib.compactUpTo
  rw [List.mem_map]
  constructor
  · rintro ⟨j, hj, rfl⟩
    rw [List.mem_filter, List.mem_range] at hj
    have hj2 : j < zs.toArray.size := by simpa using hj.1
    rw [getElem!_pos _ j hj2]
    simp
  · intro h
    obtain ⟨j, hj, rfl⟩ := List.getElem_of_mem h
    have key : ∀ j, (hj : j < zs.length) → ∃ a, a ∈ (List.range zs.length).filter (Go.Lib.keeps zs.toArray) ∧ zs.toArray[a]! = zs.toArray[j]! := by
      intro j
      induction j with
      | zero =>
        intro hj
        exact ⟨0, by rw [List.mem_filter, List.mem_range]; exact ⟨hj, by simp [Go.Lib.keeps]⟩, rfl⟩
      | succ j ih =>
        intro hj
        by_cases e : zs.toArray[j + 1]! = zs.toArray[j]!
        · obtain ⟨a, ha, h2⟩ := ih (by omega)
          exact ⟨a, ha, by rw [h2, e]⟩
        · exact ⟨j + 1, by rw [List.mem_filter, List.mem_range]; exact ⟨hj, by simp only [Go.Lib.keeps, decide_eq_true_eq, Nat.add_sub_cancel]; exact .inr e⟩, rfl⟩
    obtain ⟨a, ha, h2⟩ := key j hj
    refine ⟨a, ha, ?_⟩
    rw [h2, getElem!_pos _ j (by simpa using hj)]
    simp
theorem mem_compB (x : ByteArray) (l : List ByteArray) : x ∈ compB l ↔ x ∈ l := by
  unfold compB
  rw [List.mem_map]
  constructor
  · rintro ⟨a, ha, rfl⟩
    rw [mem_compact, List.mem_map] at ha
    obtain ⟨b, hb, rfl⟩ := ha
    rw [ofL_toL]; exact hb
  · intro h
    exact ⟨toL x, by rw [mem_compact]; exact List.mem_map_of_mem h, ofL_toL x⟩
theorem sort_ev (l : List ByteArray) (h : l.length < 4611686018427387904) : Ev (fun k => slices_Sort_string_string.f k l) (sortB l) := by
  have h : ∀ k, slices_Sort_string_string.f k l = some (sortB l) := fun k => by unfold slices_Sort_string_string.f; rw [if_pos h]
  exact Ev.congr h (Ev.now _)
theorem comp_f (l : List ByteArray) (h : l.length < 4611686018427387904) : slices_Compact_string_string.f l = some (compB l) := by unfold slices_Compact_string_string.f; rw [if_pos h]
theorem len_compB (l : List ByteArray) : (compB l).length ≤ l.length := by
  unfold compB Go.Lib.compact Go.Lib.compactUpTo
  rw [List.length_map, List.length_map]
  refine Nat.le_trans (List.length_filter_le _ _) ?_
  simp
section
variable {H : List S32}
def nm (H : List S32) (i : Nat) : ByteArray := (cl H i).f0
theorem rd_ints (l : List Nat) (n : Nat) (h : n < l.length) : rd (ints l) (n : Int) = ((l.getD n 0 : Nat) : Int) := by
  simp [rd, ints, h]
theorem take_map_succ {α β : Type} (l : List α) (z : α) (g : α → β) (n : Nat) (h : n < l.length) : (l.take (n + 1)).map g = (l.take n).map g ++ [g (l.getD n z)] := by
  rw [List.take_succ_eq_append_getElem h, List.map_append]
  simp [List.getD, h]
theorem supers_l0 (l : List Nat) (hl : l.length ≤ 64) (hlt : ∀ x ∈ l, x < H.length) (hN : H.length ≤ 64) : ∀ n, n ≤ l.length → Ev (fun k => hier_Supers.l0 k ((l.take n).map (nm H)) (ints l) ((ints l).length : Int) (n : Int) H) (l.map (nm H)) := by
  refine up_ l.length _ ?_ ?_
  · refine Ev.step (fun k => by rw [hier_Supers.l0]) (Ev_neg (by rw [ints_len]; omega) ?_)
    rw [List.take_length]; exact Ev.now _
  · intro n hn ih
    have hm := hlt _ (getD_mem 0 l n hn)
    rw [take_map_succ l 0 _ n hn] at ih
    refine Ev.step (fun k => by rw [hier_Supers.l0]) ?_
    rw [rd_ints l n hn, w64n n (by omega)]
    refine Ev_pos (by rw [ints_len]; omega) (Ev_pos (by omega) (Ev_pos (by rw [ints_len]; omega) (Ev_pos (by omega) (Ev_pos (by omega) (Ev_pos (by rw [List.length_map, List.length_take]; omega) ?_)))))
    exact ih
theorem supers_some (hN : H.length ≤ 64) {s : ByteArray} {i : Nat} {l : List Nat} (hs : idx H s = some i) (h : CH H i l) : Ev (fun k => hier_Supers.f k H s) (l.map (nm H)) := by
  have hi := idx_lt H hs
  have hl := h.len hi
  refine Ev.bind (index_ev H hN) ?_
  refine Ev.bind (chain_f hN hs h) ?_
  exact supers_l0 l (by omega) (h.lt hi) hN 0 (Nat.zero_le _)
theorem supers_none (hN : H.length ≤ 64) {s : ByteArray} (hs : idx H s = none) : Ev (fun k => hier_Supers.f k H s) [] := by
  refine Ev.bind (index_ev H hN) ?_
  refine Ev.bind (chain_none hs) ?_
  refine Ev.step (fun k => by rw [hier_Supers.l0]) (Ev_neg (by simp) (Ev.now _))
theorem find_ev (hN : H.length ≤ 64) (s : ByteArray) : Ev (fun k => hier_Find.f k H s) ((idx H s).elim (-1) (fun (j : Nat) => (j : Int))) := by
  refine Ev.bind (index_ev H hN) ?_
  cases h : idx H s with
  | none => refine Ev_bindc (look_none H h) ?_
            exact Ev_neg (by simp) (Ev.now _)
  | some j => refine Ev_bindc (look_some H h) ?_
              exact Ev_pos rfl (Ev.now _)
theorem fstN_min (s : ByteArray) : ∀ (n j : Nat), fstN H s n = some j → ∀ i, i < j → nm H i ≠ s
  | 0, j, h => by simp [fstN] at h
  | n + 1, j, h => by
    unfold fstN at h
    cases hq : fstN H s n with
    | some q =>
      rw [hq] at h
      obtain rfl : q = j := by simpa using h
      exact fstN_min s n q hq
    | none =>
      rw [hq] at h
      by_cases he : (cl H n).f0 = s
      · simp only [he, if_true, Option.some.injEq] at h
        subst h
        exact fstN_none H s n hq
      · simp [he] at h
theorem idx_first {s : ByteArray} {n : Nat} (hn : n < H.length) (h0 : ∀ i, i < n → nm H i ≠ s) (h : nm H n = s) : idx H s = some n := by
  cases hx : idx H s with
  | none => exact absurd h (fstN_none H s _ hx n hn)
  | some j =>
    have h1 := idx_nm H hx
    have h2 := fstN_min s _ j hx
    rcases Nat.lt_trichotomy j n with h3 | h3 | h3
    · exact absurd h1 (h0 j h3)
    · rw [h3]
    · exact absurd h (h2 n h3)
theorem rfind_l0 (hN : H.length ≤ 64) (s : ByteArray) : ∀ n, n ≤ H.length → (∀ i, i < n → nm H i ≠ s) → Ev (fun k => dataflowref10_Find.l0 k s (n : Int) H) ((idx H s).elim (-1) (fun (j : Nat) => (j : Int))) := by
  refine up_ H.length _ ?_ ?_
  · intro h
    have hx : idx H s = none := by
      cases hx : idx H s with
      | none => rfl
      | some j => exact absurd (idx_nm H hx) (h j (idx_lt H hx))
    rw [hx]
    refine Ev.step (fun k => by rw [dataflowref10_Find.l0]) (Ev_neg (by omega) ?_)
    exact Ev.now (-1)
  · intro n hn ih h
    refine Ev.step (fun k => by rw [dataflowref10_Find.l0]) (Ev_pos (by omega) (Ev_pos (by omega) ?_))
    by_cases he : nm H n = s
    · refine Ev_pos (by rw [tl_inj]; exact he) ?_
      rw [idx_first hn h he]
      exact Ev.now _
    · refine Ev_neg (by rw [tl_inj]; exact he) ?_
      rw [w64n n (by omega)]
      exact ih (fun i hi => by
        rcases Nat.lt_or_ge i n with h1 | h1
        · exact h i h1
        · have : i = n := by omega
          rw [this]; exact he)
theorem rfind_ev (hN : H.length ≤ 64) (s : ByteArray) : Ev (fun k => dataflowref10_Find.f k H s) ((idx H s).elim (-1) (fun (j : Nat) => (j : Int))) := rfind_l0 hN s 0 (Nat.zero_le _) (fun i hi => by omega)
/-- Every class is found by its name and has a chain. -/
structure Well (H : List S32) : Prop where
  few : H.length ≤ 64
  own : ∀ i, i < H.length → idx H (nm H i) = some i
  ends : ∀ i, i < H.length → ∃ l, CH H i l
  sup : ∀ i, i < H.length → (cl H i).f1.toList = [] ∨ ∃ j, idx H (cl H i).f1 = some j
  name : ∀ i, i < H.length → (nm H i).toList ≠ []
/-- The names of a class and of those above it. -/
inductive Above (H : List S32) (a : ByteArray) : List ByteArray → Prop
  | none (h : idx H a = none) : Above H a []
  | some {i : Nat} {l : List Nat} (h : idx H a = some i) (k : CH H i l) : Above H a (l.map (nm H))
theorem above (W : Well H) (a : ByteArray) : ∃ L, Above H a L := by
  cases h : idx H a with
  | none => exact ⟨_, .none h⟩
  | some i => obtain ⟨l, hl⟩ := W.ends i (idx_lt H h)
              exact ⟨_, .some h hl⟩
theorem Above.ev (W : Well H) {a : ByteArray} {L : List ByteArray} (h : Above H a L) : Ev (fun k => hier_Supers.f k H a) L := by
  cases h with
  | none h => exact supers_none W.few h
  | some h k => exact supers_some W.few h k
theorem Above.len (W : Well H) {a : ByteArray} {L : List ByteArray} (h : Above H a L) : L.length ≤ 64 := by
  cases h with
  | none h => simp
  | some h k => rw [List.length_map]; exact Nat.le_trans (k.len (idx_lt H h)) W.few
theorem Above.det {a : ByteArray} {L L' : List ByteArray} (h : Above H a L) (h' : Above H a L') : L = L' := by
  cases h with
  | none h => cases h' with
    | none _ => rfl
    | some h2 _ => rw [h] at h2; cases h2
  | some h k => cases h' with
    | none h2 => rw [h] at h2; cases h2
    | some h2 k2 =>
      rw [h] at h2
      obtain rfl := Option.some.inj h2
      rw [k.det k2]
/-- a is b or below it. -/
def Sub (H : List S32) (a b : ByteArray) : Prop := ∃ L, Above H a L ∧ b ∈ L
theorem issub_ev (W : Well H) (a b : ByteArray) : ∃ t, Ev (fun k => hier_IsSub.f k H a b) t ∧ (t = true ↔ Sub H a b) := by
  obtain ⟨L, hL⟩ := above W a
  refine ⟨decide (b ∈ L), ?_, ?_⟩
  · refine Ev.bind (hL.ev W) ?_
    refine Ev.bind (contS L (by have := hL.len W; omega) b) ?_
    exact Ev.now _
  · rw [decide_eq_true_eq]
    exact ⟨fun h => ⟨L, hL, h⟩, fun ⟨L', h1, h2⟩ => by rw [hL.det h1]; exact h2⟩
/-! ### Subs -/
theorem anyO_map {p : Int → Option Bool} (q : Nat → Bool) : ∀ l : List Nat, (∀ x ∈ l, p (x : Int) = some (q x)) → anyO p (ints l) = some (l.any q)
  | [], _ => rfl
  | x :: r, h => by
    have ih := anyO_map q r (fun y hy => h y (List.mem_cons_of_mem _ hy))
    show (p (x : Int)).bind _ = _
    rw [h x List.mem_cons_self]
    simp only [Option.bind_some, List.any_cons]
    cases q x with
    | true => rfl
    | false => simpa [ints] using ih
theorem any_ev (hN : H.length ≤ 64) (l : List Nat) (hl : l.length ≤ 64) (hlt : ∀ x ∈ l, x < H.length) (b : ByteArray) : Ev (fun k => any.f k (ints l) b H) (decide (b ∈ l.map (nm H))) := by
  have h : ∀ k, any.f k (ints l) b H = some (decide (b ∈ l.map (nm H))) := by
    intro k
    unfold any.f
    rw [if_pos (by rw [ints_len]; omega), anyO_map (fun x => decide (nm H x = b)) l (fun x hx => by
      have := hlt x hx
      unfold p25
      rw [if_pos (by omega), if_pos (by omega)]
      congr 1
      show ((cl H x).f0.toList == b.toList) = _
      rw [Bool.eq_iff_iff]
      rw [beq_iff_eq, tl_inj]
      exact ⟨fun h => decide_eq_true h, fun h => of_decide_eq_true h⟩)]
    congr 1
    rw [Bool.eq_iff_iff]
    simp only [List.any_eq_true, decide_eq_true_eq, List.mem_map]
  exact Ev.congr h (Ev.now _)
/-- Class i is b or below it. -/
def Bel (H : List S32) (b : ByteArray) (i : Nat) : Prop := i < H.length ∧ ∃ l, CH H i l ∧ b ∈ l.map (nm H)
theorem subs_l0 (W : Well H) (b : ByteArray) : ∀ n, n ≤ H.length → ∀ out : List ByteArray, out.length ≤ n → Tot (fun k => hier_Subs.l0 k b out (E H) H (H.length : Int) (n : Int) H) (fun r => ∃ o, r = compB (sortB o) ∧ o.length ≤ H.length ∧ ∀ x, x ∈ o ↔ x ∈ out ∨ ∃ i, n ≤ i ∧ Bel H b i ∧ nm H i = x) := by
  have hN := W.few
  refine up_ H.length _ ?_ ?_
  · intro out ho
    refine Tot.step (fun k => by rw [hier_Subs.l0]) (Tot.neg (by omega) ?_)
    refine Tot.bindE (sort_ev out (by omega)) ?_
    refine Tot.bindc (comp_f (sortB out) (by rw [len_sortB]; omega)) ?_
    refine Tot.now ⟨out, rfl, ho, fun x => ⟨fun h => .inl h, fun h => h.resolve_right ?_⟩⟩
    rintro ⟨i, h1, h2, _⟩
    have := h2.1
    omega
  · intro n hn ih out ho
    obtain ⟨l, hl⟩ := W.ends n hn
    have hll := hl.len hn
    refine Tot.step (fun k => by rw [hier_Subs.l0]) (Tot.pos (by omega) (Tot.pos (by omega) (Tot.pos (by omega) ?_)))
    refine Tot.bindE (chain_f hN (W.own n hn) hl) ?_
    refine Tot.bindE (any_ev hN l (by omega) (hl.lt hn) b) ?_
    rw [w64n n (by omega)]
    refine Tot.ite (fun h => Tot.pos (by omega) ?_) (fun h => ?_)
    · rw [decide_eq_true_eq] at h
      refine (ih (out ++ [nm H n]) (by simp; omega)).imp ?_
      rintro r ⟨o, h1, h2, h3⟩
      refine ⟨o, h1, h2, fun x => (h3 x).trans ?_⟩
      rw [List.mem_append, List.mem_singleton]
      constructor
      · rintro ((h4 | rfl) | ⟨i, h4, h5, h6⟩)
        · exact .inl h4
        · exact .inr ⟨n, Nat.le_refl _, ⟨hn, l, hl, h⟩, rfl⟩
        · exact .inr ⟨i, by omega, h5, h6⟩
      · rintro (h4 | ⟨i, h4, h5, h6⟩)
        · exact .inl (.inl h4)
        · rcases Nat.eq_or_lt_of_le h4 with rfl | h7
          · exact .inl (.inr h6.symm)
          · exact .inr ⟨i, h7, h5, h6⟩
    · rw [decide_eq_true_eq] at h
      refine (ih out (by omega)).imp ?_
      rintro r ⟨o, h1, h2, h3⟩
      refine ⟨o, h1, h2, fun x => (h3 x).trans ?_⟩
      constructor
      · rintro (h4 | ⟨i, h4, h5, h6⟩)
        · exact .inl h4
        · exact .inr ⟨i, by omega, h5, h6⟩
      · rintro (h4 | ⟨i, h4, h5, h6⟩)
        · exact .inl h4
        · rcases Nat.eq_or_lt_of_le h4 with rfl | h7
          · obtain ⟨_, l', hl', hb⟩ := h5
            rw [hl.det hl'] at h
            exact absurd hb h
          · exact .inr ⟨i, h7, h5, h6⟩
theorem subs_tot (W : Well H) (b : ByteArray) : Tot (fun k => hier_Subs.f k H b) (fun r => ∃ o, r = compB (sortB o) ∧ o.length ≤ H.length ∧ ∀ x, x ∈ o ↔ Sub H x b) := by
  refine Tot.bindE (index_ev H W.few) ?_
  refine (subs_l0 W b 0 (Nat.zero_le _) [] (by simp)).imp ?_
  rintro r ⟨o, h1, h2, h3⟩
  refine ⟨o, h1, h2, fun x => (h3 x).trans ?_⟩
  constructor
  · rintro (h | ⟨i, _, ⟨hi, l, hl, hb⟩, rfl⟩)
    · simp at h
    · exact ⟨_, .some (W.own i hi) hl, hb⟩
  · rintro ⟨L, hL, hb⟩
    cases hL with
    | none h => simp at hb
    | some h k => exact .inr ⟨_, Nat.zero_le _, ⟨idx_lt H h, _, k, hb⟩, idx_nm H h⟩
theorem subs_mem {o r : List ByteArray} (h : r = compB (sortB o)) (x : ByteArray) : x ∈ r ↔ x ∈ o := by rw [h, mem_compB, mem_sortB]
end
end Go.Proofs.YtkbclcecmcdlfaaDoor.Pu
