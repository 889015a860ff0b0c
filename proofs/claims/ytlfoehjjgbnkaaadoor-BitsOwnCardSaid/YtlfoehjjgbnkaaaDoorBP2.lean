/- Sets of numbers as lists of words: membership, normal form, elements, and what makes two of them equal. -/
import Derived.Test.YtlfoehjjgbnkaaaDoorBP1
namespace Go.Proofs.YtlfoehjjgbnkaaaDoor.Pu
set_option linter.unusedVariables false
set_option linter.unusedSimpArgs false
open Go.Proofs
def mem (L : List Nat) (i : Nat) : Bool := (L.getD (i / 64) 0).testBit (i % 64)
def WW (L : List Nat) : Prop := ∀ x ∈ L, x < 2 ^ 64
def norm (L : List Nat) : Prop := ∀ h : L ≠ [], L.getLast h ≠ 0
theorem WW.getD {L : List Nat} (h : WW L) (i : Nat) : L.getD i 0 < 2 ^ 64 := by
  rw [List.getD_eq_getElem?_getD]
  cases e : L[i]? with
  | none => simp
  | some x => simpa using h x (List.mem_of_getElem? e)
theorem mem_at (L : List Nat) (i j : Nat) (hj : j < 64) : mem L (64 * i + j) = (L.getD i 0).testBit j := by
  unfold mem
  rw [show (64 * i + j) / 64 = i by omega, show (64 * i + j) % 64 = j by omega]
theorem word_ext {L M : List Nat} (hL : WW L) (hM : WW M) (h : ∀ i, mem L i = mem M i) (i : Nat) : L.getD i 0 = M.getD i 0 := by
  apply Nat.eq_of_testBit_eq
  intro j
  rcases Nat.lt_or_ge j 64 with hj | hj
  · rw [← mem_at L i j hj, ← mem_at M i j hj, h]
  · rw [Nat.testBit_lt_two_pow (Nat.lt_of_lt_of_le (hL.getD i) (Nat.pow_le_pow_right (by decide) hj)), Nat.testBit_lt_two_pow (Nat.lt_of_lt_of_le (hM.getD i) (Nat.pow_le_pow_right (by decide) hj))]
theorem norm_le {L M : List Nat} (nM : norm M) (h : ∀ i, L.getD i 0 = M.getD i 0) : M.length ≤ L.length := by
  apply Nat.le_of_not_lt
  intro hlt
  have hne : M ≠ [] := by intro e; rw [e] at hlt; simp at hlt
  apply nM hne
  have h1 := h (M.length - 1)
  rw [List.getD_eq_getElem?_getD, List.getD_eq_getElem?_getD, List.getElem?_eq_none (by omega), List.getElem?_eq_getElem (by omega)] at h1
  rw [List.getLast_eq_getElem]
  simpa using h1.symm
theorem set_ext {L M : List Nat} (hL : WW L) (hM : WW M) (nL : norm L) (nM : norm M) (h : ∀ i, mem L i = mem M i) : L = M := by
  have hw := word_ext hL hM h
  have hlen : L.length = M.length := Nat.le_antisymm (norm_le nL (fun i => (hw i).symm)) (norm_le nM hw)
  apply List.ext_getElem hlen
  intro i h1 h2
  have := hw i
  rw [List.getD_eq_getElem?_getD, List.getD_eq_getElem?_getD, List.getElem?_eq_getElem h1, List.getElem?_eq_getElem h2] at this
  simpa using this
theorem mem_lt {L : List Nat} {i : Nat} (h : mem L i = true) : i < 64 * L.length := by
  apply Nat.lt_of_not_le
  intro hge
  unfold mem at h
  rw [List.getD_eq_getElem?_getD, List.getElem?_eq_none (by omega)] at h
  simp at h
/-! Elements -/
def bitsOf (x : Nat) : List Nat := (List.range 64).filter (fun k => x.testBit k)
def elems (L : List Nat) : List Nat := (List.range (64 * L.length)).filter (mem L)
theorem mem_elems (L : List Nat) (i : Nat) : i ∈ elems L ↔ mem L i = true := by
  unfold elems
  rw [List.mem_filter, List.mem_range]
  exact ⟨fun h => h.2, fun h => ⟨mem_lt h, h⟩⟩
def asc (l : List Nat) : Prop := l.Pairwise (· < ·)
theorem asc_elems (L : List Nat) : asc (elems L) := List.Pairwise.filter _ List.pairwise_lt_range
theorem asc_ext : ∀ {a b : List Nat}, asc a → asc b → (∀ x, x ∈ a ↔ x ∈ b) → a = b
  | [], [], _, _, _ => rfl
  | [], y :: b, _, _, h => absurd ((h y).2 (List.mem_cons_self ..)) (by simp)
  | x :: a, [], _, _, h => absurd ((h x).1 (List.mem_cons_self ..)) (by simp)
  | x :: a, y :: b, ha, hb, h => by
    have ha' := List.pairwise_cons.1 ha
    have hb' := List.pairwise_cons.1 hb
    have hxy : x = y := by
      have h1 := (h x).1 (List.mem_cons_self ..)
      have h2 := (h y).2 (List.mem_cons_self ..)
      rcases List.mem_cons.1 h1 with e | e
      · exact e
      · rcases List.mem_cons.1 h2 with e2 | e2
        · exact e2.symm
        · have := hb'.1 x e
          have := ha'.1 y e2
          omega
    subst hxy
    have : a = b := asc_ext ha'.2 hb'.2 (fun z => by
      constructor
      · intro hz
        rcases List.mem_cons.1 ((h z).1 (List.mem_cons_of_mem _ hz)) with e | e
        · subst e; have := ha'.1 z hz; omega
        · exact e
      · intro hz
        rcases List.mem_cons.1 ((h z).2 (List.mem_cons_of_mem _ hz)) with e | e
        · subst e; have := hb'.1 z hz; omega
        · exact e)
    rw [this]
theorem getD_append_left {L M : List Nat} {i : Nat} (h : i < L.length) : (L ++ M).getD i 0 = L.getD i 0 := by
  rw [List.getD_eq_getElem?_getD, List.getD_eq_getElem?_getD, List.getElem?_append_left h]
theorem elems_snoc (L : List Nat) (x : Nat) : elems (L ++ [x]) = elems L ++ (bitsOf x).map (64 * L.length + ·) := by
  unfold elems
  rw [List.length_append, List.length_singleton, Nat.mul_add, Nat.mul_one, List.range_add, List.filter_append]
  congr 1
  · apply List.filter_congr
    intro i hi
    rw [List.mem_range] at hi
    unfold mem
    rw [getD_append_left (by omega)]
  · unfold bitsOf
    rw [List.filter_map]
    congr 1
    apply List.filter_congr
    intro j hj
    rw [List.mem_range] at hj
    show mem (L ++ [x]) (64 * L.length + j) = x.testBit j
    rw [mem_at _ _ _ hj, List.getD_eq_getElem?_getD, List.getElem?_append_right (Nat.le_refl _)]
    simp
theorem elems_take (L : List Nat) (i : Nat) (h : i < L.length) : elems (L.take (i + 1)) = elems (L.take i) ++ (bitsOf (L.getD i 0)).map (64 * i + ·) := by
  rw [List.take_succ_eq_append_getElem h, elems_snoc, List.length_take, Nat.min_eq_left (by omega), List.getD_eq_getElem?_getD, List.getElem?_eq_getElem h]
  rfl
theorem length_bitsOf (x : Nat) : (bitsOf x).length ≤ 64 := by
  unfold bitsOf
  exact Nat.le_trans (List.length_filter_le _ _) (by simp)
theorem length_elems (L : List Nat) : (elems L).length ≤ 64 * L.length := by
  unfold elems
  exact Nat.le_trans (List.length_filter_le _ _) (by simp)
/-! The lowest bit, taken off -/
theorem bitsOf_zero : bitsOf 0 = [] := by unfold bitsOf; simp
theorem ctz_spec (x : Nat) (h0 : 0 < x) (h : x < 2 ^ 64) : Lib.ctz 64 x < 64 ∧ x.testBit (Lib.ctz 64 x) = true ∧ ∀ j, j < Lib.ctz 64 x → x.testBit j = false := by
  have hc : Lib.ctz 64 x = Lib.ctzFrom 64 x := by unfold Lib.ctz; rw [if_neg (by omega)]
  obtain ⟨m, hm, hk⟩ := Lib.ctzFrom_spec 64 x h0 h
  rw [hc]
  generalize Lib.ctzFrom 64 x = k at hm hk ⊢
  have hb : ∀ j, x.testBit j = (decide (k ≤ j) && (2 * m + 1).testBit (j - k)) := by
    intro j
    rw [hm, Nat.mul_comm, Nat.testBit_mul_two_pow]
  refine ⟨hk, ?_, fun j hj => ?_⟩
  · rw [hb]; simp
  · rw [hb]; simp; omega
theorem dropLow (x : Nat) (h0 : 0 < x) (h : x < 2 ^ 64) (j : Nat) : (x &&& (x - 1)).testBit j = (x.testBit j && decide (j ≠ Lib.ctz 64 x)) := by
  have hc : Lib.ctz 64 x = Lib.ctzFrom 64 x := by unfold Lib.ctz; rw [if_neg (by omega)]
  obtain ⟨m, hm, hk⟩ := Lib.ctzFrom_spec 64 x h0 h
  rw [hc]
  generalize Lib.ctzFrom 64 x = k at hm hk ⊢
  have hb : ∀ j, x.testBit j = (decide (k ≤ j) && (2 * m + 1).testBit (j - k)) := by
    intro j
    rw [hm, Nat.mul_comm, Nat.testBit_mul_two_pow]
  have hx1 : x - 1 = 2 ^ k * (2 * m) + (2 ^ k - 1) := by
    have : 0 < 2 ^ k := Nat.two_pow_pos k
    rw [hm, Nat.mul_add, Nat.mul_one]
    omega
  have hb1 : (x - 1).testBit j = if j < k then (2 ^ k - 1).testBit j else (2 * m).testBit (j - k) := by
    rw [hx1]
    exact Nat.testBit_two_pow_mul_add _ (Nat.sub_lt (Nat.two_pow_pos k) (by decide)) j
  rw [Nat.testBit_and, hb, hb1]
  by_cases hjk : k ≤ j
  · rw [if_neg (by omega)]
    by_cases e : j = k
    · subst e; simp
    · obtain ⟨i, rfl⟩ : ∃ i, j = k + (i + 1) := ⟨j - k - 1, by omega⟩
      rw [show k + (i + 1) - k = i + 1 by omega, Nat.testBit_succ, Nat.testBit_succ, show (2 * m + 1) / 2 = m by omega, show 2 * m / 2 = m by omega]
      simp
  · simp [hjk]
theorem bitsOf_cons (x : Nat) (h0 : 0 < x) (h : x < 2 ^ 64) : bitsOf x = Lib.ctz 64 x :: bitsOf (x &&& (x - 1)) := by
  obtain ⟨hk, ht, hlow⟩ := ctz_spec x h0 h
  have hd := dropLow x h0 h
  generalize Lib.ctz 64 x = k at hk ht hlow hd ⊢
  apply asc_ext
  · exact List.Pairwise.filter _ List.pairwise_lt_range
  · refine List.pairwise_cons.2 ⟨fun y hy => ?_, List.Pairwise.filter _ List.pairwise_lt_range⟩
    unfold bitsOf at hy
    obtain ⟨hy1, hy2⟩ := List.mem_filter.1 hy
    rw [hd] at hy2
    have h3 : x.testBit y = true ∧ y ≠ k := by simpa using hy2
    apply Nat.lt_of_not_le
    intro hle
    have := hlow y (by omega)
    rw [this] at h3
    simp at h3
  · intro y
    unfold bitsOf
    rw [List.mem_cons, List.mem_filter, List.mem_filter, List.mem_range, hd]
    constructor
    · rintro ⟨h1, h2⟩
      by_cases e : y = k
      · exact .inl e
      · exact .inr ⟨h1, by simp [h2, e]⟩
    · rintro (rfl | ⟨h1, h2⟩)
      · exact ⟨hk, ht⟩
      · exact ⟨h1, by simp at h2; exact h2.1⟩
theorem and_pred_lt (x : Nat) (h : x < 2 ^ 64) : x &&& (x - 1) < 2 ^ 64 := Nat.lt_of_le_of_lt Nat.and_le_left h
theorem and_pred_less (x : Nat) (h0 : 0 < x) : x &&& (x - 1) < x := Nat.lt_of_le_of_lt Nat.and_le_right (by omega)
end Go.Proofs.YtlfoehjjgbnkaaaDoor.Pu
