/- Sets made of lists, merged lists, and the unions, differences and intersections of the program. -/
import Derived.Test.YtlfoehjjgbnkaaaDoorBM2
namespace Go.Proofs.YtlfoehjjgbnkaaaDoor.Pu
set_option linter.unusedVariables false
set_option linter.unusedSimpArgs false
open Go.RowKit Go.Proofs.YtlfoehjjgbnkaaaDoor.PM Go.Proofs.YtlfoehjjgbnkaaaDoorW.PrintWords Go.Proofs.YtlfoehjjgbnkaaaDoorW.PrintLast Go.Proofs.YtlfoehjjgbnkaaaDoorW.PrintMore
/-! Equal lists -/
theorem equal_loop (l : List Int) (hl : l.length ≤ 1000000000) : ∀ d i, l.length - i = d → Ev (fun k => dataflowref01_Equal.l0 k l l (i : Int)) true
  | 0, i, hd => Ev.step (fun k => by rw [dataflowref01_Equal.l0]) (Ev_neg (by omega) (Ev.now _))
  | d + 1, i, hd => by
    have ih := equal_loop l hl d (i + 1) (by omega)
    refine Ev.step (fun k => by rw [dataflowref01_Equal.l0]) ?_
    refine Ev_pos (by omega) (Ev_pos (by omega) (Ev_pos (by omega) (Ev_pos rfl ?_)))
    rw [w64 (by omega) (by omega)]
    simpa using ih
theorem equal (l : List Int) (hl : l.length ≤ 1000000000) : Ev (fun k => dataflowref01_Equal.f k l l) true := by
  unfold dataflowref01_Equal.f
  exact Ev_pos rfl (equal_loop l hl _ 0 rfl)
/-! Zeros at the end -/
theorem trimLen_ints (L : List Nat) : ∀ n, trimLen (ints L) n = cutLen L n
  | 0 => rfl
  | n + 1 => by
    have h := rd_ints L n
    unfold rd at h
    rw [Int.toNat_natCast] at h
    rw [trimLen_succ, h, trimLen_ints L n]
    show _ = if L.getD n 0 = 0 then cutLen L n else n + 1
    by_cases e : L.getD n 0 = 0
    · rw [if_pos e, if_pos (by omega)]
    · rw [if_neg e, if_neg (by omega)]
theorem trim (L : List Nat) : bits_trim.f (ints L) = some (ints (cut L)) := by
  unfold bits_trim.f
  rw [trimLen_ints, ints_length]
  unfold cut ints
  rw [List.map_take]
/-! Make -/
theorem ints_set (L : List Nat) (i v : Nat) : (ints L).set i (v : Int) = ints (L.set i v) := by unfold ints; rw [List.map_set]
theorem make_one (E : List Nat) (i : Nat) (hi : i < E.length) (he : E.length ≤ 100000000) (r : List Int) (M : List Nat) (hM : M.length = E.getD i 0 / 64 + 1) (hx : E.getD i 0 < 6400000000) (hw : M.getD (E.getD i 0 / 64) 0 < 2 ^ (E.getD i 0 % 64))
    (h : Ev (fun k => dataflowref01_Make.l0 k (ints E) (ints (M.set (E.getD i 0 / 64) (M.getD (E.getD i 0 / 64) 0 + 2 ^ (E.getD i 0 % 64)))) ((i : Int) + 1)) r) :
    ∀ d j, E.getD i 0 % 64 - j = d → j ≤ E.getD i 0 % 64 → Ev (fun k => dataflowref01_Make.l2 k (ints E) (ints M) (i : Int) ((2 ^ j : Nat) : Int) (j : Int)) r
  | 0, j, hd, hj => by
    have hj' : j = E.getD i 0 % 64 := by omega
    subst hj'
    refine Ev.step (fun k => by rw [dataflowref01_Make.l2]) ?_
    have e1 : wrap64 (Int.tdiv ((E.getD i 0 : Nat) : Int) 64) = ((E.getD i 0 / 64 : Nat) : Int) := by rw [Int.tdiv_eq_ediv_of_nonneg (by omega), w64 (by omega) (by omega)]; omega
    have e2 : Int.tmod ((E.getD i 0 : Nat) : Int) 64 = ((E.getD i 0 % 64 : Nat) : Int) := by rw [Int.tmod_eq_emod_of_nonneg (by omega)]; omega
    have hlt := add_bit_lt _ _ hw (Nat.mod_lt _ (by decide))
    refine Ev_pos (by omega) (Ev_pos (by rw [ints_length]; omega) ?_)
    rw [rd_ints, e1, e2]
    refine Ev_neg (by omega) (Ev_pos (by omega) (Ev_pos (by rw [ints_length]; omega) ?_))
    rw [rd_ints, w64 (a := (i : Int) + 1) (by omega) (by omega), ← Int.natCast_add, u64w (by omega) (by omega), Int.toNat_natCast, ints_set]
    exact h
  | d + 1, j, hd, hj => by
    have ih := make_one E i hi he r M hM hx hw h d (j + 1) (by omega) (by omega)
    refine Ev.step (fun k => by rw [dataflowref01_Make.l2]) ?_
    have e2 : Int.tmod ((E.getD i 0 : Nat) : Int) 64 = ((E.getD i 0 % 64 : Nat) : Int) := by rw [Int.tmod_eq_emod_of_nonneg (by omega)]; omega
    have hp : 2 ^ (j + 1) < 2 ^ 64 := Nat.pow_lt_pow_right (by decide) (by omega)
    have hp2 : 2 ^ (j + 1) = 2 * 2 ^ j := by rw [Nat.pow_succ]; omega
    refine Ev_pos (by omega) (Ev_pos (by rw [ints_length]; omega) ?_)
    rw [rd_ints, e2]
    refine Ev_pos (by omega) ?_
    rw [u64w (by omega) (by omega), w64 (by omega) (by omega), show 2 * ((2 ^ j : Nat) : Int) = ((2 ^ (j + 1) : Nat) : Int) by rw [hp2]; omega]
    simpa using ih
theorem make_pad (E : List Nat) (i : Nat) (hi : i < E.length) (he : E.length ≤ 100000000) (r : List Int) (hx : E.getD i 0 < 6400000000) (N : List Nat) (hN : N.length ≤ E.getD i 0 / 64 + 1)
    (h : Ev (fun k => dataflowref01_Make.l2 k (ints E) (ints (padTo N (E.getD i 0 / 64 + 1))) (i : Int) 1 0) r) :
    ∀ d z, E.getD i 0 / 64 + 1 - (N.length + z) = d → N.length + z ≤ E.getD i 0 / 64 + 1 → Ev (fun k => dataflowref01_Make.l1 k (ints E) (ints (N ++ List.replicate z 0)) (i : Int)) r
  | 0, z, hd, hz => by
    have hz' : z = E.getD i 0 / 64 + 1 - N.length := by omega
    subst hz'
    have e1 : wrap64 (Int.tdiv ((E.getD i 0 : Nat) : Int) 64) = ((E.getD i 0 / 64 : Nat) : Int) := by rw [Int.tdiv_eq_ediv_of_nonneg (by omega), w64 (by omega) (by omega)]; omega
    refine Ev.step (fun k => by rw [dataflowref01_Make.l1]) ?_
    refine Ev_pos (by omega) (Ev_pos (by rw [ints_length]; omega) ?_)
    rw [rd_ints, e1]
    refine Ev_neg ?_ h
    rw [ints_length, List.length_append, List.length_replicate]
    omega
  | d + 1, z, hd, hz => by
    have ih := make_pad E i hi he r hx N hN h d (z + 1) (by omega) (by omega)
    have e1 : wrap64 (Int.tdiv ((E.getD i 0 : Nat) : Int) 64) = ((E.getD i 0 / 64 : Nat) : Int) := by rw [Int.tdiv_eq_ediv_of_nonneg (by omega), w64 (by omega) (by omega)]; omega
    refine Ev.step (fun k => by rw [dataflowref01_Make.l1]) ?_
    refine Ev_pos (by omega) (Ev_pos (by rw [ints_length]; omega) ?_)
    rw [rd_ints, e1]
    refine Ev_pos ?_ (Ev_pos ?_ ?_)
    · rw [ints_length, List.length_append, List.length_replicate]; omega
    · rw [ints_length, List.length_append, List.length_replicate]; omega
    · have e : ints (N ++ List.replicate z 0) ++ [0] = ints (N ++ List.replicate (z + 1) 0) := by
        rw [List.replicate_succ', ← List.append_assoc, ints_append (N ++ List.replicate z 0)]
        rfl
      rw [e]
      exact ih
theorem make_loop (E : List Nat) (ha : asc E) (he : E.length ≤ 100000000) (hx : ∀ y ∈ E, y < 6400000000) : ∀ d i, E.length - i = d → i ≤ E.length → Ev (fun k => dataflowref01_Make.l0 k (ints E) (ints (mk (E.take i))) (i : Int)) (ints (mk E))
  | 0, i, hd, hi => by
    have : i = E.length := by omega
    subst this
    refine Ev.step (fun k => by rw [dataflowref01_Make.l0]) (Ev_neg (by rw [ints_length]; omega) ?_)
    rw [List.take_length]
    exact Ev.now _
  | d + 1, i, hd, hi => by
    have hlt : i < E.length := by omega
    have ih := make_loop E ha he hx d (i + 1) (by omega) (by omega)
    have hxi := hx _ (getD_mem hlt)
    have ht : E.take (i + 1) = E.take i ++ [E.getD i 0] := by rw [List.take_succ_eq_append_getElem hlt, List.getD_eq_getElem?_getD, List.getElem?_eq_getElem hlt]; rfl
    have ha1 : asc (E.take (i + 1)) := List.Pairwise.sublist (List.take_sublist _ _) ha
    rw [ht] at ha1
    obtain ⟨ha2, hb⟩ := asc_snoc ha1
    have hlen := mk_len ha2 _ hb
    have hw := small_of_below (mk (E.take i)) (mk_WW ha2) (E.getD i 0) (fun y hy => hb y (by rw [mk_mem ha2] at hy; simpa using hy))
    refine Ev.step (fun k => by rw [dataflowref01_Make.l0]) (Ev_pos (by rw [ints_length]; omega) ?_)
    have := make_pad E i hlt he (ints (mk E)) hxi (mk (E.take i)) hlen ?_ _ 0 rfl (by omega)
    · simpa using this
    · have h2 := make_one E i hlt he (ints (mk E)) (padTo (mk (E.take i)) (E.getD i 0 / 64 + 1)) (by rw [padTo_length]; omega) hxi (by rw [padTo_getD]; exact hw) ?_ _ 0 rfl (by omega)
      · simpa using h2
      · rw [ht, mk_snoc] at ih
        simpa [putBit] using ih
theorem make (E : List Nat) (ha : asc E) (he : E.length ≤ 100000000) (hx : ∀ y ∈ E, y < 6400000000) : Ev (fun k => dataflowref01_Make.f k (ints E)) (ints (mk E)) := by
  have := make_loop E ha he hx _ 0 rfl (Nat.zero_le _)
  unfold dataflowref01_Make.f
  simpa [mk, ints] using this
end Go.Proofs.YtlfoehjjgbnkaaaDoor.Pu
