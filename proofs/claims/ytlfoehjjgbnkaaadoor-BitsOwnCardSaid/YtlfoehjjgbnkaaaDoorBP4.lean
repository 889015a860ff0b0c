/- The set of an ascending list, in normal form; lists without the zeros at their end. -/
import Derived.Test.YtlfoehjjgbnkaaaDoorBP3
namespace Go.Proofs.YtlfoehjjgbnkaaaDoor.Pu
set_option linter.unusedVariables false
set_option linter.unusedSimpArgs false
open Go.Proofs
/-! Zeros at the end -/
def cutLen (L : List Nat) : Nat → Nat
  | 0 => 0
  | n + 1 => if L.getD n 0 = 0 then cutLen L n else n + 1
def cut (L : List Nat) : List Nat := L.take (cutLen L L.length)
theorem cutLen_le (L : List Nat) : ∀ n, cutLen L n ≤ n
  | 0 => Nat.le_refl 0
  | n + 1 => by
    unfold cutLen
    split
    · have := cutLen_le L n; omega
    · omega
theorem cutLen_zero (L : List Nat) : ∀ n i, cutLen L n ≤ i → i < n → L.getD i 0 = 0
  | 0, i, _, h => absurd h (by omega)
  | n + 1, i, h, hi => by
    by_cases e : L.getD n 0 = 0
    · have h' : cutLen L (n + 1) = cutLen L n := by show (if L.getD n 0 = 0 then cutLen L n else n + 1) = _; rw [if_pos e]
      rw [h'] at h
      by_cases hin : i = n
      · rw [hin]; exact e
      · exact cutLen_zero L n i h (by omega)
    · have h' : cutLen L (n + 1) = n + 1 := by show (if L.getD n 0 = 0 then cutLen L n else n + 1) = _; rw [if_neg e]
      omega
theorem cutLen_last (L : List Nat) : ∀ n, 0 < cutLen L n → L.getD (cutLen L n - 1) 0 ≠ 0
  | 0, h => absurd h (by simp [cutLen])
  | n + 1, h => by
    by_cases e : L.getD n 0 = 0
    · have h' : cutLen L (n + 1) = cutLen L n := by show (if L.getD n 0 = 0 then cutLen L n else n + 1) = _; rw [if_pos e]
      rw [h'] at h ⊢
      exact cutLen_last L n h
    · have h' : cutLen L (n + 1) = n + 1 := by show (if L.getD n 0 = 0 then cutLen L n else n + 1) = _; rw [if_neg e]
      rw [h']
      exact e
theorem getD_take (L : List Nat) (n i : Nat) (h : i < n) : (L.take n).getD i 0 = L.getD i 0 := by
  rw [List.getD_eq_getElem?_getD, List.getD_eq_getElem?_getD, List.getElem?_take_of_lt h]
theorem cut_getD (L : List Nat) (i : Nat) : (cut L).getD i 0 = L.getD i 0 := by
  unfold cut
  rcases Nat.lt_or_ge i (cutLen L L.length) with h | h
  · exact getD_take L _ i h
  · have h1 : (L.take (cutLen L L.length)).getD i 0 = 0 := by
      rw [List.getD_eq_getElem?_getD, List.getElem?_eq_none (by rw [List.length_take]; omega)]
      rfl
    rw [h1]
    rcases Nat.lt_or_ge i L.length with hi | hi
    · exact (cutLen_zero L L.length i h hi).symm
    · rw [List.getD_eq_getElem?_getD, List.getElem?_eq_none hi]
      rfl
theorem cut_mem (L : List Nat) (i : Nat) : mem (cut L) i = mem L i := by
  unfold mem
  rw [cut_getD]
theorem cut_norm (L : List Nat) : norm (cut L) := by
  intro h
  have hle := cutLen_le L L.length
  have hlen : (cut L).length = cutLen L L.length := by unfold cut; rw [List.length_take]; omega
  have hpos : 0 < cutLen L L.length := by
    rw [← hlen]
    exact List.length_pos_iff.2 h
  have h1 := cutLen_last L L.length hpos
  rw [← cut_getD] at h1
  intro h2
  apply h1
  rw [List.getLast_eq_getElem] at h2
  rw [List.getD_eq_getElem?_getD, List.getElem?_eq_getElem (by omega)]
  simpa [hlen] using h2
theorem cut_WW {L : List Nat} (h : WW L) : WW (cut L) := fun x hx => h x (List.mem_of_mem_take hx)
/-! The set of an ascending list -/
def padTo (L : List Nat) (n : Nat) : List Nat := L ++ List.replicate (n - L.length) 0
theorem padTo_length (L : List Nat) (n : Nat) : (padTo L n).length = max L.length n := by unfold padTo; rw [List.length_append, List.length_replicate]; omega
theorem padTo_getD (L : List Nat) (n i : Nat) : (padTo L n).getD i 0 = L.getD i 0 := by
  unfold padTo
  rcases Nat.lt_or_ge i L.length with h | h
  · exact getD_append_left h
  · rw [List.getD_eq_getElem?_getD, List.getElem?_append_right h, List.getD_eq_getElem?_getD, List.getElem?_eq_none h]
    rcases Nat.lt_or_ge (i - L.length) (n - L.length) with h2 | h2
    · rw [List.getElem?_replicate_of_lt h2]
      rfl
    · rw [List.getElem?_eq_none (by rw [List.length_replicate]; exact h2)]
def putBit (L : List Nat) (x : Nat) : List Nat := (padTo L (x / 64 + 1)).set (x / 64) ((padTo L (x / 64 + 1)).getD (x / 64) 0 + 2 ^ (x % 64))
def mk (E : List Nat) : List Nat := E.foldl putBit []
theorem mk_snoc (E : List Nat) (x : Nat) : mk (E ++ [x]) = putBit (mk E) x := by unfold mk; rw [List.foldl_append]; rfl
theorem asc_snoc {E : List Nat} {x : Nat} (h : asc (E ++ [x])) : asc E ∧ ∀ y ∈ E, y < x := by
  have := List.pairwise_append.1 h
  exact ⟨this.1, fun y hy => this.2.2 y hy x (List.mem_singleton_self x)⟩
theorem getD_set (L : List Nat) (i j v : Nat) (h : i < L.length) : (L.set i v).getD j 0 = if i = j then v else L.getD j 0 := by
  rw [List.getD_eq_getElem?_getD, List.getD_eq_getElem?_getD, List.getElem?_set]
  split
  · subst_vars
    simp
  · rfl
theorem small_of_below (L : List Nat) (hW : WW L) (x : Nat) (h : ∀ i, mem L i = true → i < x) : L.getD (x / 64) 0 < 2 ^ (x % 64) := by
  apply Nat.lt_pow_two_of_testBit
  intro j hj
  rcases Nat.lt_or_ge j 64 with hj2 | hj2
  · rw [← mem_at L _ j hj2]
    cases e : mem L (64 * (x / 64) + j) with
    | false => rfl
    | true =>
      have := h _ e
      omega
  · exact Nat.testBit_lt_two_pow (Nat.lt_of_lt_of_le (hW.getD _) (Nat.pow_le_pow_right (by decide) hj2))
theorem add_bit (w j : Nat) (h : w < 2 ^ j) (i : Nat) : (w + 2 ^ j).testBit i = (w.testBit i || decide (i = j)) := by
  have h1 := Nat.testBit_two_pow_mul_add 1 (i := j) (b := w) h i
  rw [Nat.mul_one, Nat.add_comm] at h1
  rw [h1]
  split
  · rename_i hij
    have : ¬ i = j := by omega
    simp [this]
  · rename_i hij
    rw [Nat.testBit_lt_two_pow (x := w) (Nat.lt_of_lt_of_le h (Nat.pow_le_pow_right (by decide) (by omega)))]
    by_cases e : i = j
    · subst e; simp
    · obtain ⟨d, rfl⟩ : ∃ d, i = j + (d + 1) := ⟨i - j - 1, by omega⟩
      rw [show j + (d + 1) - j = d + 1 by omega, Nat.testBit_succ]
      simp
theorem add_bit_lt (w j : Nat) (h : w < 2 ^ j) (hj : j < 64) : w + 2 ^ j < 2 ^ 64 := by
  have h1 : 2 ^ j * 2 ≤ 2 ^ 64 := by rw [← Nat.pow_succ]; exact Nat.pow_le_pow_right (by decide) hj
  omega
theorem mk_spec : ∀ (n : Nat) (E : List Nat), E.length = n → asc E → WW (mk E) ∧ (∀ i, mem (mk E) i = decide (i ∈ E)) ∧ norm (mk E) ∧ (∀ x, (∀ y ∈ E, y < x) → (mk E).length ≤ x / 64 + 1)
  | 0, E, hl, _ => by
    obtain rfl := List.eq_nil_of_length_eq_zero hl
    refine ⟨(fun x hx => by cases hx), (fun i => by simp [mk, mem]), (fun h => absurd rfl h), (fun x _ => Nat.zero_le _)⟩
  | n + 1, E, hl, ha => by
    obtain ⟨F, x, rfl⟩ : ∃ F x, E = F ++ [x] := by
      have hne : E ≠ [] := by intro e; rw [e] at hl; simp at hl
      exact ⟨E.dropLast, E.getLast hne, (List.dropLast_concat_getLast hne).symm⟩
    obtain ⟨hF, hx⟩ := asc_snoc ha
    obtain ⟨h1, h2, h3, h4⟩ := mk_spec n F (by simpa using hl) hF
    have hlen := h4 x hx
    have hbelow : ∀ i, mem (mk F) i = true → i < x := fun i hi => hx i (by rw [h2] at hi; simpa using hi)
    have hw := small_of_below (mk F) h1 x hbelow
    have hm : x % 64 < 64 := Nat.mod_lt _ (by decide)
    rw [mk_snoc]
    unfold putBit
    rw [padTo_getD]
    have hpl : (padTo (mk F) (x / 64 + 1)).length = x / 64 + 1 := by rw [padTo_length]; omega
    have hget : ∀ j, ((padTo (mk F) (x / 64 + 1)).set (x / 64) ((mk F).getD (x / 64) 0 + 2 ^ (x % 64))).getD j 0 = if x / 64 = j then (mk F).getD (x / 64) 0 + 2 ^ (x % 64) else (mk F).getD j 0 := by
      intro j
      rw [getD_set _ _ _ _ (by omega), padTo_getD]
    refine ⟨?_, ?_, ?_, ?_⟩
    · intro y hy
      obtain ⟨j, hj, rfl⟩ := List.getElem_of_mem hy
      have := hget j
      rw [List.getD_eq_getElem?_getD, List.getElem?_eq_getElem hj, Option.getD_some] at this
      rw [this]
      split
      · exact add_bit_lt _ _ hw hm
      · exact h1.getD _
    · intro i
      show Nat.testBit (List.getD _ (i / 64) 0) (i % 64) = _
      rw [hget]
      split
      · rename_i e
        rw [add_bit _ _ hw, e]
        have : (mem (mk F) i) = (((mk F).getD (i / 64) 0).testBit (i % 64)) := rfl
        rw [← this, h2]
        have hix : (i % 64 = x % 64) ↔ i = x := by omega
        simp [hix]
      · rename_i e
        have : (mem (mk F) i) = (((mk F).getD (i / 64) 0).testBit (i % 64)) := rfl
        rw [← this, h2]
        have hix : ¬ i = x := by rintro rfl; exact e rfl
        simp [hix]
    · intro hne
      rw [List.getLast_eq_getElem]
      have hl2 : ((padTo (mk F) (x / 64 + 1)).set (x / 64) ((mk F).getD (x / 64) 0 + 2 ^ (x % 64))).length = x / 64 + 1 := by rw [List.length_set, hpl]
      have := hget (x / 64)
      rw [if_pos rfl, List.getD_eq_getElem?_getD, List.getElem?_eq_getElem (by omega), Option.getD_some] at this
      simp only [hl2, Nat.add_sub_cancel]
      rw [this]
      have := Nat.two_pow_pos (x % 64)
      omega
    · intro z hz
      rw [List.length_set, hpl]
      have := hz x (by simp)
      omega
theorem mk_WW {E : List Nat} (h : asc E) : WW (mk E) := (mk_spec _ E rfl h).1
theorem mk_mem {E : List Nat} (h : asc E) (i : Nat) : mem (mk E) i = decide (i ∈ E) := (mk_spec _ E rfl h).2.1 i
theorem mk_norm {E : List Nat} (h : asc E) : norm (mk E) := (mk_spec _ E rfl h).2.2.1
theorem mk_len {E : List Nat} (h : asc E) (x : Nat) (hx : ∀ y ∈ E, y < x) : (mk E).length ≤ x / 64 + 1 := (mk_spec _ E rfl h).2.2.2 x hx
theorem mk_elems_cut {L : List Nat} (h : WW L) : mk (elems L) = cut L := by
  apply set_ext (mk_WW (asc_elems L)) (cut_WW h) (mk_norm (asc_elems L)) (cut_norm L)
  intro i
  rw [mk_mem (asc_elems L), cut_mem]
  have := mem_elems L i
  cases e : mem L i <;> simp [this, e]
end Go.Proofs.YtlfoehjjgbnkaaaDoor.Pu
