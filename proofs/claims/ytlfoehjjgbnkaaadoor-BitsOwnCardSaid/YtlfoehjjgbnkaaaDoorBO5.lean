/- Union, Minus and Both, of the program and of the reference, are the same sets. -/
import Derived.Test.YtlfoehjjgbnkaaaDoorBO3
namespace Go.Proofs.YtlfoehjjgbnkaaaDoor.Pu
set_option linter.unusedVariables false
set_option linter.unusedSimpArgs false
open Go.RowKit Go.Proofs.YtlfoehjjgbnkaaaDoor.PO Go.Proofs.YtlfoehjjgbnkaaaDoorW.PrintWords Go.Proofs.YtlfoehjjgbnkaaaDoorW.PrintLast Go.Proofs.YtlfoehjjgbnkaaaDoorW.PrintMore
def filled (n : Nat) (f : Nat → Nat) (i : Nat) : List Nat := (List.range i).map f ++ List.replicate (n - i) 0
theorem filled_length {n i : Nat} (f : Nat → Nat) (h : i ≤ n) : (filled n f i).length = n := by simp [filled]; omega
theorem filled_set {n i : Nat} (f : Nat → Nat) (h : i < n) : (filled n f i).set i (f i) = filled n f (i + 1) := by
  unfold filled
  rw [List.set_append_right _ _ (by simp), List.length_map, List.length_range, Nat.sub_self, show n - i = (n - (i + 1)) + 1 by omega, List.replicate_succ, List.set_cons_zero, List.range_succ, List.map_append]
  simp
theorem filled_zero (n : Nat) (f : Nat → Nat) : filled n f 0 = List.replicate n 0 := by simp [filled]
theorem filled_all (n : Nat) (f : Nat → Nat) : filled n f n = (List.range n).map f := by simp [filled]
theorem filled_getD (n : Nat) (f : Nat → Nat) (i : Nat) : ((List.range n).map f).getD i 0 = if i < n then f i else 0 := by
  rw [List.getD_eq_getElem?_getD, List.getElem?_map]
  by_cases h : i < n
  · rw [List.getElem?_range h, if_pos h]; rfl
  · rw [List.getElem?_eq_none (by simp; omega), if_neg h]; rfl
theorem ints_rep (n : Nat) : List.replicate n (0 : Int) = ints (List.replicate n 0) := by unfold ints; rw [List.map_replicate]; rfl
theorem range_WW {n : Nat} {f : Nat → Nat} (h : ∀ i, f i < 2 ^ 64) : WW ((List.range n).map f) := by
  intro x hx
  obtain ⟨i, _, rfl⟩ := List.mem_map.1 hx
  exact h i
theorem at_ (L : List Nat) (i : Nat) : bits_at.f (ints L) (i : Int) = some ((L.getD i 0 : Nat) : Int) := by
  unfold bits_at.f
  rw [ints_length]
  by_cases h : i < L.length
  · rw [if_pos (by omega), if_pos (by omega), rd_ints]
  · rw [if_neg (by omega), List.getD_eq_getElem?_getD, List.getElem?_eq_none (by omega)]
    rfl
def uni (A B : List Nat) : List Nat := (List.range (max A.length B.length)).map fun i => A.getD i 0 ||| B.getD i 0
def dif (A B : List Nat) : List Nat := (List.range A.length).map fun i => A.getD i 0 &&& (18446744073709551615 - B.getD i 0)
def int (A B : List Nat) : List Nat := (List.range (min A.length B.length)).map fun i => A.getD i 0 &&& B.getD i 0
theorem getD_out {L : List Nat} {i : Nat} (h : L.length ≤ i) : L.getD i 0 = 0 := by rw [List.getD_eq_getElem?_getD, List.getElem?_eq_none h]; rfl
theorem uni_getD (A B : List Nat) (i : Nat) : (uni A B).getD i 0 = A.getD i 0 ||| B.getD i 0 := by
  unfold uni
  rw [filled_getD]
  split
  · rfl
  · rw [getD_out (L := A) (by omega), getD_out (L := B) (by omega)]; rfl
theorem dif_getD (A B : List Nat) (i : Nat) : (dif A B).getD i 0 = A.getD i 0 &&& (18446744073709551615 - B.getD i 0) := by
  unfold dif
  rw [filled_getD]
  split
  · rfl
  · rw [getD_out (L := A) (by omega), Nat.zero_and]
theorem int_getD (A B : List Nat) (i : Nat) : (int A B).getD i 0 = A.getD i 0 &&& B.getD i 0 := by
  unfold int
  rw [filled_getD]
  split
  · rfl
  · by_cases h : A.length ≤ i
    · rw [getD_out h, Nat.zero_and]
    · rw [getD_out (L := B) (by omega), Nat.and_zero]
theorem uni_WW {A B : List Nat} (hA : WW A) (hB : WW B) : WW (uni A B) := range_WW fun i => Nat.or_lt_two_pow (hA.getD i) (hB.getD i)
theorem dif_WW {A B : List Nat} (hA : WW A) : WW (dif A B) := range_WW fun i => Nat.lt_of_le_of_lt Nat.and_le_left (hA.getD i)
theorem int_WW {A B : List Nat} (hA : WW A) : WW (int A B) := range_WW fun i => Nat.lt_of_le_of_lt Nat.and_le_left (hA.getD i)
theorem uni_mem (A B : List Nat) (z : Nat) : mem (uni A B) z = (mem A z || mem B z) := by unfold mem; rw [uni_getD, Nat.testBit_or]
theorem int_mem (A B : List Nat) (z : Nat) : mem (int A B) z = (mem A z && mem B z) := by unfold mem; rw [int_getD, Nat.testBit_and]
theorem not_bit (b j : Nat) (hb : b < 2 ^ 64) (hj : j < 64) : (18446744073709551615 - b).testBit j = !b.testBit j := by
  rw [show 18446744073709551615 - b = 2 ^ 64 - (b + 1) by omega, Nat.testBit_two_pow_sub_succ hb]
  simp [hj]
theorem dif_mem {A B : List Nat} (hB : WW B) (z : Nat) : mem (dif A B) z = (mem A z && !mem B z) := by unfold mem; rw [dif_getD, Nat.testBit_and, not_bit _ _ (hB.getD _) (Nat.mod_lt _ (by decide))]
theorem union_loop (A B : List Nat) (hA : WW A) (hB : WW B) (n : Nat) (hn : n ≤ 1000000000) : ∀ d i, n - i = d → i ≤ n →
    Ev (fun k => bits_Union.l0 k (ints A) (ints B) (ints (filled n (fun i => A.getD i 0 ||| B.getD i 0) i)) (n : Int) (i : Int)) (ints (cut ((List.range n).map fun i => A.getD i 0 ||| B.getD i 0)))
  | 0, i, hd, hi => by
    have : i = n := by omega
    subst this
    refine Ev.step (fun k => by rw [bits_Union.l0]) (Ev_neg (by omega) ?_)
    rw [filled_all]
    exact Ev_bindc (trim _) (Ev.now _)
  | d + 1, i, hd, hi => by
    have hlt : i < n := by omega
    have ih := union_loop A B hA hB n hn d (i + 1) (by omega) (by omega)
    refine Ev.step (fun k => by rw [bits_Union.l0]) (Ev_pos (by omega) ?_)
    refine Ev_bindc (at_ A i) (Ev_bindc (at_ B i) (Ev_pos (by omega) (Ev_pos (by rw [ints_length, filled_length _ (by omega)]; omega) ?_)))
    have h1 := hA.getD i
    have h2 := hB.getD i
    rw [w64 (by omega) (by omega), Int.toNat_natCast, bits_or_u64_nat _ _ (by omega) (by omega), ints_set, filled_set (fun i => A.getD i 0 ||| B.getD i 0) hlt]
    simpa using ih
theorem union (A B : List Nat) (hA : WW A) (hB : WW B) (ha : A.length ≤ 100000000) (hb : B.length ≤ 100000000) : Ev (fun k => bits_Union.f k (ints A) (ints B)) (ints (cut (uni A B))) := by
  have hm : mx ((ints A).length : Int) ((ints B).length : Int) = ((max A.length B.length : Nat) : Int) := by rw [ints_length, ints_length]; unfold mx; split <;> omega
  unfold bits_Union.f
  rw [hm, Int.toNat_natCast]
  refine Ev_pos (by omega) (Ev_pos (by omega) (Ev_bindc rfl ?_))
  rw [List.length_replicate, ints_rep]
  have := union_loop A B hA hB (max A.length B.length) (by omega) _ 0 rfl (Nat.zero_le _)
  rw [filled_zero] at this
  exact this
theorem minus_loop (A B : List Nat) (hA : WW A) (hB : WW B) (hn : A.length ≤ 1000000000) : ∀ d i, A.length - i = d → i ≤ A.length →
    Ev (fun k => bits_Minus.l0 k (ints A) (ints B) (ints (filled A.length (fun i => A.getD i 0 &&& (18446744073709551615 - B.getD i 0)) i)) (A.length : Int) (i : Int)) (ints (cut (dif A B)))
  | 0, i, hd, hi => by
    have : i = A.length := by omega
    subst this
    refine Ev.step (fun k => by rw [bits_Minus.l0]) (Ev_neg (by omega) ?_)
    rw [filled_all]
    exact Ev_bindc (trim _) (Ev.now _)
  | d + 1, i, hd, hi => by
    have hlt : i < A.length := by omega
    have ih := minus_loop A B hA hB hn d (i + 1) (by omega) (by omega)
    refine Ev.step (fun k => by rw [bits_Minus.l0]) (Ev_pos (by omega) (Ev_pos (by omega) (Ev_pos (by rw [ints_length]; omega) ?_)))
    refine Ev_bindc (at_ B i) (Ev_pos (by rw [ints_length, filled_length _ (by omega)]; omega) ?_)
    have h1 := hA.getD i
    have h2 := hB.getD i
    rw [w64 (by omega) (by omega), Int.toNat_natCast, rd_ints, u64_andNot_nat _ _ (by omega) (by omega), ints_set, filled_set (fun i => A.getD i 0 &&& (18446744073709551615 - B.getD i 0)) hlt]
    simpa using ih
theorem minus (A B : List Nat) (hA : WW A) (hB : WW B) (ha : A.length ≤ 100000000) : Ev (fun k => bits_Minus.f k (ints A) (ints B)) (ints (cut (dif A B))) := by
  unfold bits_Minus.f
  rw [ints_length, Int.toNat_natCast]
  refine Ev_pos (by omega) (Ev_pos (by omega) ?_)
  rw [ints_rep]
  have := minus_loop A B hA hB (by omega) _ 0 rfl (Nat.zero_le _)
  rw [filled_zero] at this
  exact this
theorem both_loop (A B : List Nat) (hA : WW A) (hB : WW B) (n : Nat) (hnA : n ≤ A.length) (hnB : n ≤ B.length) (hn : n ≤ 1000000000) : ∀ d i, n - i = d → i ≤ n →
    Ev (fun k => bits_Both.l0 k (ints A) (ints B) (ints (filled n (fun i => A.getD i 0 &&& B.getD i 0) i)) (n : Int) (i : Int)) (ints (cut ((List.range n).map fun i => A.getD i 0 &&& B.getD i 0)))
  | 0, i, hd, hi => by
    have : i = n := by omega
    subst this
    refine Ev.step (fun k => by rw [bits_Both.l0]) (Ev_neg (by omega) ?_)
    rw [filled_all]
    exact Ev_bindc (trim _) (Ev.now _)
  | d + 1, i, hd, hi => by
    have hlt : i < n := by omega
    have ih := both_loop A B hA hB n hnA hnB hn d (i + 1) (by omega) (by omega)
    refine Ev.step (fun k => by rw [bits_Both.l0]) (Ev_pos (by omega) (Ev_pos (by omega) (Ev_pos (by rw [ints_length]; omega) (Ev_pos (by rw [ints_length]; omega) (Ev_pos (by rw [ints_length, filled_length _ (by omega)]; omega) ?_)))))
    have h1 := hA.getD i
    have h2 := hB.getD i
    rw [w64 (by omega) (by omega), Int.toNat_natCast, rd_ints, rd_ints, bits_and_u64_nat _ _ (by omega) (by omega), ints_set, filled_set (fun i => A.getD i 0 &&& B.getD i 0) hlt]
    simpa using ih
theorem both (A B : List Nat) (hA : WW A) (hB : WW B) (ha : A.length ≤ 100000000) (hb : B.length ≤ 100000000) : Ev (fun k => bits_Both.f k (ints A) (ints B)) (ints (cut (int A B))) := by
  have hm : mn ((ints A).length : Int) ((ints B).length : Int) = ((min A.length B.length : Nat) : Int) := by rw [ints_length, ints_length]; unfold mn; split <;> omega
  unfold bits_Both.f
  rw [hm, Int.toNat_natCast]
  refine Ev_pos (by omega) (Ev_pos (by omega) (Ev_bindc rfl ?_))
  rw [List.length_replicate, ints_rep]
  have := both_loop A B hA hB (min A.length B.length) (by omega) (by omega) (by omega) _ 0 rfl (Nat.zero_le _)
  rw [filled_zero] at this
  exact this
end Go.Proofs.YtlfoehjjgbnkaaaDoor.Pu
