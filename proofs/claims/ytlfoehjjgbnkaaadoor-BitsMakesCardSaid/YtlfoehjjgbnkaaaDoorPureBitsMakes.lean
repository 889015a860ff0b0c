/- BitsMakes, the statement over lists alone: bits.Of puts every number in, or reports the one out of range; Sorted lists the same numbers. -/
import Derived.Test.YtlfoehjjgbnkaaaDoorPMx4
import Derived.Test.YtlfoehjjgbnkaaaDoorBM7
namespace Go.Proofs.YtlfoehjjgbnkaaaDoor.Pure
set_option linter.unusedVariables false
set_option linter.unusedSimpArgs false
open Go.RowKit Go.Proofs.YtlfoehjjgbnkaaaDoor.Pu Go.Proofs.YtlfoehjjgbnkaaaDoor.PM Go.Proofs.YtlfoehjjgbnkaaaDoorW.PrintWords Go.Proofs.YtlfoehjjgbnkaaaDoorW.PrintLast Go.Proofs.YtlfoehjjgbnkaaaDoorW.PrintMore
def okI (x : Int) : Bool := decide (0 ≤ x ∧ x < 65536)
theorem ok_is (x : Int) : bits_ok.f x = some (okI x) := by
  unfold bits_ok.f okI
  by_cases h : x ≥ 0
  · rw [if_pos h]; congr 1; rw [decide_eq_decide]; exact ⟨fun h2 => ⟨h, h2⟩, fun h2 => h2.2⟩
  · rw [if_neg h, decide_eq_false (fun h2 => h h2.1)]
theorem elem_is (x : Int) : dataflowref01_Elem.f x = some (okI x) := ok_is x
theorem rd_getD (l : List Int) (i : Nat) : rd l (i : Int) = l.getD i 0 := by unfold rd; rw [Int.toNat_natCast]
theorem of_bad (l : List Int) (hl : l.length ≤ 1000000) : ∀ d i (m : Int), l.length - i = d → i ≤ l.length → (∃ j, i ≤ j ∧ j < l.length ∧ okI (l.getD j 0) = false) → Ev (fun k => bits_Of.l0 k l m l (l.length : Int) (i : Int)) ([], 4)
  | 0, i, m, hd, hi, ⟨j, h1, h2, _⟩ => absurd h2 (by omega)
  | d + 1, i, m, hd, hi, ⟨j, h1, h2, h3⟩ => by
    refine Ev.step (fun k => by rw [bits_Of.l0]) (Ev_pos (by omega) (Ev_pos (by omega) (Ev_pos (by omega) (Ev_bindc (ok_is _) ?_))))
    rw [rd_getD]
    by_cases h : okI (l.getD i 0) = true
    · refine Ev_pos h ?_
      rw [w64 (by omega) (by omega)]
      have ne : i ≠ j := by rintro rfl; rw [h] at h3; cases h3
      have := of_bad l hl d (i + 1) (mx m (l.getD i 0)) (by omega) (by omega) ⟨j, by omega, h2, h3⟩
      simpa using this
    · exact Ev_neg h (Ev.now _)
theorem shl_one (j : Nat) (hj : j < 64) : shl .u64 1 (j : Int) = ((2 ^ j : Nat) : Int) := by
  unfold shl
  rw [Int.toNat_natCast, show IntKind.u64.bits = 64 from rfl, Nat.min_eq_left (by omega), Int.one_mul]
  have h : (2 : Int) ^ j = ((2 ^ j : Nat) : Int) := by rw [Int.natCast_pow]; rfl
  have h2 : 2 ^ j < 2 ^ 64 := Nat.pow_lt_pow_right (by decide) hj
  rw [h]
  generalize 2 ^ j = q at h2 ⊢
  exact u64w (by omega) (by omega)
theorem fold_mem : ∀ (E : List Nat) (L : List Nat) (z : Nat), mem (E.foldl plus L) z = (mem L z || decide (z ∈ E))
  | [], L, z => by simp
  | e :: E, L, z => by
    rw [List.foldl_cons, fold_mem E, plus_mem, Bool.or_assoc]
    congr 1
    rw [Bool.eq_iff_iff]
    simp
theorem fold_WW : ∀ (E : List Nat) (L : List Nat), WW L → WW (E.foldl plus L)
  | [], L, h => h
  | e :: E, L, h => fold_WW E (plus L e) (plus_WW h e)
theorem fold_length : ∀ (E : List Nat) (L : List Nat), (∀ e ∈ E, e / 64 < L.length) → (E.foldl plus L).length = L.length
  | [], L, h => rfl
  | e :: E, L, h => by
    have h1 := h e (List.mem_cons_self ..)
    have hp : (plus L e).length = L.length := by rw [plus_length]; omega
    rw [List.foldl_cons, fold_length E _ (fun x hx => by rw [hp]; exact h x (List.mem_cons_of_mem _ hx)), hp]
theorem take_snoc (E : List Nat) (i : Nat) (h : i < E.length) : E.take (i + 1) = E.take i ++ [E.getD i 0] := by
  rw [List.take_succ_eq_append_getElem h, List.getD_eq_getElem?_getD, List.getElem?_eq_getElem h]; rfl
theorem zeros_WW (n : Nat) : WW (List.replicate n 0) := fun x hx => by rw [List.eq_of_mem_replicate hx]; decide
theorem zeros_mem (n z : Nat) : mem (List.replicate n 0) z = false := by
  unfold mem
  have : (List.replicate n 0).getD (z / 64) 0 = 0 := by
    rw [List.getD_eq_getElem?_getD, List.getElem?_replicate]; split <;> rfl
  rw [this, Nat.zero_testBit]
theorem of_put (E : List Nat) (n : Nat) (he : E.length ≤ 1000000) (hn : n ≤ 1000000) (hx : ∀ e ∈ E, e / 64 < n) : ∀ d i, E.length - i = d → i ≤ E.length →
    Ev (fun k => bits_Of.l1 k (ints ((E.take i).foldl plus (List.replicate n 0))) (ints E) (E.length : Int) (i : Int)) (ints (cut (E.foldl plus (List.replicate n 0))), 0)
  | 0, i, hd, hi => by
    refine Ev.step (fun k => by rw [bits_Of.l1]) (Ev_neg (by omega) ?_)
    rw [List.take_of_length_le (by omega)]
    exact Ev_bindc (trim _) (Ev.now _)
  | d + 1, i, hd, hi => by
    have ih := of_put E n he hn hx d (i + 1) (by omega) (by omega)
    have hlt : i < E.length := by omega
    have hl := fold_length (E.take i) (List.replicate n 0) (fun e h => by rw [List.length_replicate]; exact hx e (List.mem_of_mem_take h))
    rw [List.length_replicate] at hl
    have hw := fold_WW (E.take i) _ (zeros_WW n)
    have hxe := hx _ (getD_mem hlt)
    rw [take_snoc E i hlt, List.foldl_append, List.foldl_cons, List.foldl_nil] at ih
    generalize (E.take i).foldl plus (List.replicate n 0) = M at hl hw ih ⊢
    refine Ev.step (fun k => by rw [bits_Of.l1]) (Ev_pos (by omega) (Ev_pos (by omega) (Ev_pos (by rw [ints_length]; omega) ?_)))
    rw [rd_ints]
    generalize E.getD i 0 = x at ih hxe ⊢
    have e1 : wrap64 (Int.tdiv (x : Int) 64) = ((x / 64 : Nat) : Int) := by rw [Int.tdiv_eq_ediv_of_nonneg (by omega), w64 (by omega) (by omega)]; omega
    have e2 : Int.tmod (x : Int) 64 = ((x % 64 : Nat) : Int) := by rw [Int.tmod_eq_emod_of_nonneg (by omega)]; omega
    rw [e1, e2, Int.toNat_natCast, rd_ints, shl_one _ (Nat.mod_lt _ (by decide)), w64 (a := (i : Int) + 1) (by omega) (by omega)]
    have hb := bit_lt x
    have h1 := hw.getD (x / 64)
    refine Ev_pos (by omega) (Ev_pos (by rw [ints_length]; omega) (Ev_pos (by omega) ?_))
    rw [bits_or_u64_nat _ _ (by omega) (by omega), ints_set]
    have hp : plus M x = M.set (x / 64) (M.getD (x / 64) 0 ||| 2 ^ (x % 64)) := by
      unfold plus padTo
      rw [show x / 64 + 1 - M.length = 0 by omega, List.replicate_zero, List.append_nil]
    rw [hp] at ih
    simpa using ih
theorem of_good (E : List Nat) (he : E.length ≤ 1000000) (hx : ∀ e ∈ E, e < 65536) : ∀ d i (m : Int), E.length - i = d → i ≤ E.length → -1 ≤ m → m < 65536 → (∀ e ∈ E.take i, (e : Int) ≤ m) →
    ∃ n, n ≤ 1024 ∧ (∀ e ∈ E, e / 64 < n) ∧ Ev (fun k => bits_Of.l0 k (ints E) m (ints E) (E.length : Int) (i : Int)) (ints (cut (E.foldl plus (List.replicate n 0))), 0)
  | 0, i, m, hd, hi, h1, h2, h3 => by
    rw [List.take_of_length_le (by omega)] at h3
    obtain ⟨n, hn⟩ : ∃ n : Nat, wrap64 ((wrap64 (Int.tdiv m 64)) + 1) = (n : Int) ∧ n ≤ 1024 ∧ ∀ e ∈ E, e / 64 < n := by
      rcases Int.lt_or_le m 0 with h0 | h0
      · obtain rfl : m = -1 := by omega
        exact ⟨1, by decide +kernel, by omega, fun e h => by have := h3 e h; omega⟩
      · refine ⟨(m / 64 + 1).toNat, ?_, by omega, fun e h => by have := h3 e h; omega⟩
        rw [Int.tdiv_eq_ediv_of_nonneg h0, w64 (a := m / 64) (by omega) (by omega), w64 (by omega) (by omega)]
        omega
    refine ⟨n, hn.2.1, hn.2.2, ?_⟩
    refine Ev.step (fun k => by rw [bits_Of.l0]) (Ev_neg (by omega) ?_)
    rw [hn.1]
    refine Ev_pos (by omega) (Ev_pos (by omega) ?_)
    rw [Int.toNat_natCast, ints_length]
    have hz : List.replicate n (0 : Int) = ints (List.replicate n 0) := by unfold ints; rw [List.map_replicate]; rfl
    rw [hz]
    have := of_put E n he (by omega) hn.2.2 _ 0 rfl (Nat.zero_le _)
    simpa using this
  | d + 1, i, m, hd, hi, h1, h2, h3 => by
    have hlt : i < E.length := by omega
    have hxi := hx _ (getD_mem hlt)
    obtain ⟨n, a1, a2, a3⟩ := of_good E he hx d (i + 1) (mx m (E.getD i 0 : Nat)) (by omega) (by omega) (by unfold mx; split <;> omega) (by unfold mx; split <;> omega) (by
      intro e h
      rw [take_snoc E i hlt, List.mem_append, List.mem_singleton] at h
      rcases h with h | rfl
      · have := h3 e h; unfold mx; split <;> omega
      · unfold mx; split <;> omega)
    refine ⟨n, a1, a2, ?_⟩
    refine Ev.step (fun k => by rw [bits_Of.l0]) (Ev_pos (by omega) (Ev_pos (by omega) (Ev_pos (by rw [ints_length]; omega) (Ev_bindc (ok_is _) ?_))))
    rw [rd_ints, w64 (by omega) (by omega)]
    refine Ev_pos (by unfold okI; rw [decide_eq_true_iff]; omega) ?_
    simpa using a3
theorem ints_take (S : List Nat) (p : Nat) : (ints S).take p = ints (S.take p) := by unfold ints; rw [List.map_take]
theorem ints_drop (S : List Nat) (p : Nat) : (ints S).drop p = ints (S.drop p) := by unfold ints; rw [List.map_drop]
theorem ins_is (S : List Nat) (p x : Nat) : ((([] : List Int) ++ (ints S).take p) ++ [(x : Int)]) ++ (ints S).drop p = ints (S.take p ++ [x] ++ S.drop p) := by
  rw [ints_take, ints_drop, List.nil_append, ints_append, ints_append]; rfl
theorem ins_spec {S : List Nat} (h : asc S) {p x : Nat} (hp : p ≤ S.length) (h1 : ∀ j, j < p → S.getD j 0 < x) (h2 : p < S.length → x < S.getD p 0) :
    asc (S.take p ++ [x] ++ S.drop p) ∧ ∀ z, z ∈ S.take p ++ [x] ++ S.drop p ↔ z ∈ S ∨ z = x := by
  have ht : ∀ y ∈ S.take p, y < x := by
    intro y hy
    obtain ⟨j, hj, rfl⟩ := mem_getD hy
    rw [List.length_take] at hj
    rw [getD_take _ _ _ (by omega)]
    exact h1 j (by omega)
  have hd : ∀ y ∈ S.drop p, x < y := by
    intro y hy
    obtain ⟨j, hj, rfl⟩ := mem_getD hy
    rw [List.length_drop] at hj
    have e : (S.drop p).getD j 0 = S.getD (p + j) 0 := by rw [List.getD_eq_getElem?_getD, List.getD_eq_getElem?_getD, List.getElem?_drop]
    rw [e]
    have h3 := h2 (by omega)
    rcases Nat.eq_zero_or_pos j with rfl | hj0
    · exact h3
    · exact Nat.lt_trans h3 (asc_get h (by omega) (by omega))
  constructor
  · unfold asc at *
    rw [List.pairwise_append, List.pairwise_append]
    refine ⟨⟨h.sublist (List.take_sublist _ _), List.pairwise_singleton _ _, ?_⟩, h.sublist (List.drop_sublist _ _), ?_⟩
    · intro a ha b hb
      rw [List.mem_singleton] at hb
      subst hb
      exact ht a ha
    · intro a ha b hb
      rw [List.mem_append, List.mem_singleton] at ha
      rcases ha with ha | rfl
      · exact Nat.lt_trans (ht a ha) (hd b hb)
      · exact hd b hb
  · intro z
    rw [List.mem_append, List.mem_append, List.mem_singleton]
    have : z ∈ S ↔ z ∈ S.take p ∨ z ∈ S.drop p := by rw [← List.mem_append, List.take_append_drop]
    rw [this]
    constructor
    · rintro ((h | h) | h)
      · exact .inl (.inl h)
      · exact .inr h
      · exact .inl (.inr h)
    · rintro ((h | h) | h)
      · exact .inl (.inl h)
      · exact .inr h
      · exact .inl (.inr h)
theorem sorted_in (E S : List Nat) (hS : asc S) (hs : S.length ≤ 1000000) (he : E.length ≤ 1000000) (i : Nat) (hi : i < E.length) (r : List Int)
    (hskip : E.getD i 0 ∈ S → Ev (fun k => dataflowref01_Sorted.l0 k (ints E) (ints S) ((i + 1 : Nat) : Int)) r)
    (hins : ∀ T, asc T → (∀ z, z ∈ T ↔ z ∈ S ∨ z = E.getD i 0) → T.length = S.length + 1 → Ev (fun k => dataflowref01_Sorted.l0 k (ints E) (ints T) ((i + 1 : Nat) : Int)) r) :
    ∀ d p, S.length - p = d → p ≤ S.length → (∀ j, j < p → S.getD j 0 < E.getD i 0) → Ev (fun k => dataflowref01_Sorted.l1 k (ints E) (ints S) (i : Int) (p : Int)) r
  | 0, p, hd, hp, hl => by
    obtain ⟨b1, b2⟩ := ins_spec (x := E.getD i 0) hS hp hl (fun h => absurd h (by omega))
    refine Ev.step (fun k => by rw [dataflowref01_Sorted.l1]) (Ev_neg (by rw [ints_length]; omega) ?_)
    refine Ev_bindc rfl ?_
    refine Ev_pos (by omega) ?_
    refine Ev_pos (by rw [ints_length]; omega) ?_
    refine Ev_bindc rfl ?_
    refine Ev_pos (by simp only [List.length_nil, List.length_take, List.length_drop, List.length_append, List.length_cons, ints_length]; omega) ?_
    refine Ev_bindc rfl ?_
    refine Ev_pos (by omega) ?_
    refine Ev_pos (by rw [ints_length]; omega) ?_
    refine Ev_bindc rfl ?_
    refine Ev_pos (by simp only [List.length_nil, List.length_take, List.length_drop, List.length_append, List.length_cons, ints_length]; omega) ?_
    refine Ev_bindc rfl ?_
    refine Ev_bindc rfl ?_
    refine Ev_pos (by simp only [List.length_nil, List.length_take, List.length_drop, List.length_append, List.length_cons, ints_length]; omega) ?_
    rw [rd_ints, Int.toNat_natCast, ins_is, w64 (by omega) (by omega)]
    exact hins _ b1 b2 (by simp only [List.length_append, List.length_take, List.length_drop, List.length_cons, List.length_nil]; omega)
  | d + 1, p, hd, hp, hl => by
    refine Ev.step (fun k => by rw [dataflowref01_Sorted.l1]) (Ev_pos (by rw [ints_length]; omega) (Ev_pos (by omega) (Ev_pos (by omega) (Ev_pos (by rw [ints_length]; omega) ?_))))
    rw [rd_ints, rd_ints]
    by_cases c1 : S.getD p 0 < E.getD i 0
    · refine Ev_pos (by omega) ?_
      rw [w64 (by omega) (by omega)]
      have := sorted_in E S hS hs he i hi r hskip hins d (p + 1) (by omega) (by omega) (fun j hj => by
        by_cases e : j = p
        · rw [e]; exact c1
        · exact hl j (by omega))
      simpa using this
    · refine Ev_neg (by omega) ?_
      by_cases c2 : S.getD p 0 = E.getD i 0
      · refine Ev_pos (by omega) ?_
        rw [w64 (by omega) (by omega)]
        exact hskip (by rw [← c2]; exact getD_mem (by omega))
      · obtain ⟨b1, b2⟩ := ins_spec (x := E.getD i 0) hS hp hl (fun h => by omega)
        refine Ev_neg (by omega) ?_
        refine Ev_bindc rfl ?_
        refine Ev_pos (by rw [ints_length]; omega) ?_
        refine Ev_bindc rfl ?_
        refine Ev_pos (by simp only [List.length_nil, List.length_take, List.length_drop, List.length_append, List.length_cons, ints_length]; omega) ?_
        refine Ev_bindc rfl ?_
        refine Ev_bindc rfl ?_
        refine Ev_pos (by simp only [List.length_nil, List.length_take, List.length_drop, List.length_append, List.length_cons, ints_length]; omega) ?_
        refine Ev_bindc rfl ?_
        refine Ev_bindc rfl ?_
        refine Ev_pos (by simp only [List.length_nil, List.length_take, List.length_drop, List.length_append, List.length_cons, ints_length]; omega) ?_
        rw [Int.toNat_natCast, ins_is, w64 (by omega) (by omega)]
        exact hins _ b1 b2 (by simp only [List.length_append, List.length_take, List.length_drop, List.length_cons, List.length_nil]; omega)
theorem sorted_loop (E R : List Nat) (hR : asc R) (hRE : ∀ z, z ∈ R ↔ z ∈ E) (he : E.length ≤ 100000) : ∀ d i (S : List Nat), E.length - i = d → i ≤ E.length → asc S → (∀ z, z ∈ S ↔ z ∈ E.take i) → S.length ≤ i →
    Ev (fun k => dataflowref01_Sorted.l0 k (ints E) (ints S) (i : Int)) (ints R)
  | 0, i, S, hd, hi, h1, h2, h3 => by
    refine Ev.step (fun k => by rw [dataflowref01_Sorted.l0]) (Ev_neg (by rw [ints_length]; omega) ?_)
    rw [List.take_of_length_le (by omega)] at h2
    rw [asc_ext h1 hR (fun z => (h2 z).trans (hRE z).symm)]
    exact Ev.now _
  | d + 1, i, S, hd, hi, h1, h2, h3 => by
    have hlt : i < E.length := by omega
    refine Ev.step (fun k => by rw [dataflowref01_Sorted.l0]) (Ev_pos (by rw [ints_length]; omega) ?_)
    refine sorted_in E S h1 (by omega) (by omega) i hlt _ (fun hm => ?_) (fun T t1 t2 t3 => ?_) _ 0 rfl (Nat.zero_le _) (fun j hj => absurd hj (by omega))
    · refine sorted_loop E R hR hRE he d (i + 1) S (by omega) (by omega) h1 (fun z => ?_) (by omega)
      rw [take_snoc E i hlt, List.mem_append, List.mem_singleton, h2]
      exact ⟨.inl, fun h => h.elim id (fun e => by rw [e]; exact (h2 _).1 hm)⟩
    · refine sorted_loop E R hR hRE he d (i + 1) T (by omega) (by omega) t1 (fun z => ?_) (by omega)
      rw [take_snoc E i hlt, List.mem_append, List.mem_singleton, t2, h2]
theorem sorted (E R : List Nat) (hR : asc R) (hRE : ∀ z, z ∈ R ↔ z ∈ E) (he : E.length ≤ 100000) : Ev (fun k => dataflowref01_Sorted.f k (ints E)) (ints R) := by
  unfold dataflowref01_Sorted.f
  have := sorted_loop E R hR hRE he _ 0 [] rfl (Nat.zero_le _) List.Pairwise.nil (fun z => by simp) (Nat.le_refl _)
  simpa [ints] using this
theorem nats_ok (l : List Int) (h : ∀ j, j < l.length → okI (l.getD j 0) = true) : ∃ E : List Nat, l = ints E ∧ ∀ e ∈ E, e < 65536 := by
  have hm : ∀ x ∈ l, okI x = true := by
    intro x hx
    obtain ⟨i, hi, rfl⟩ := List.getElem_of_mem hx
    have := h i hi
    rwa [List.getD_eq_getElem?_getD, List.getElem?_eq_getElem hi] at this
  refine ⟨l.map Int.toNat, ?_, ?_⟩
  · unfold ints
    rw [List.map_map]
    conv => lhs; rw [← List.map_id l]
    apply List.map_congr_left
    intro x hx
    have := hm x hx
    unfold okI at this
    rw [decide_eq_true_iff] at this
    simp only [id, Function.comp]
    omega
  · intro e he
    obtain ⟨x, hx, rfl⟩ := List.mem_map.1 he
    have := hm x hx
    unfold okI at this
    rw [decide_eq_true_iff] at this
    omega
theorem makes_loop (l : List Int) (hl : l.length ≤ 300) : ∀ d i, l.length - i = d → i ≤ l.length → (∀ j, j < i → okI (l.getD j 0) = true) → Ev (fun k => dataflowlaw01_BitsMakes.l0 k l (i : Int)) true
  | 0, i, hd, hi, ha => by
    obtain ⟨E, rfl, hE⟩ := nats_ok l (fun j hj => ha j (by omega))
    rw [ints_length] at hl
    refine Ev.step (fun k => by rw [dataflowlaw01_BitsMakes.l0]) (Ev_neg (by omega) ?_)
    obtain ⟨n, n1, n2, n3⟩ := of_good E (by omega) hE _ 0 (-1) rfl (Nat.zero_le _) (by omega) (by omega) (by simp)
    have hof : Ev (fun k => bits_Of.f k (ints E)) (ints (cut (E.foldl plus (List.replicate n 0))), 0) := by unfold bits_Of.f; rw [ints_length]; exact n3
    have hw := fold_WW E _ (zeros_WW n)
    have hlen := fold_length E (List.replicate n 0) (fun e h => by rw [List.length_replicate]; exact n2 e h)
    rw [List.length_replicate] at hlen
    have hmem : ∀ z, mem (E.foldl plus (List.replicate n 0)) z = decide (z ∈ E) := fun z => by rw [fold_mem, zeros_mem, Bool.false_or]
    generalize E.foldl plus (List.replicate n 0) = M at hof hw hlen hmem
    have hcl : (cut M).length ≤ 1024 := by have : (cut M).length ≤ M.length := by unfold cut; rw [List.length_take]; omega
                                           omega
    have hR : ∀ z, z ∈ elems M ↔ z ∈ E := fun z => by rw [mem_elems, hmem, decide_eq_true_iff]
    have hs := sorted E (elems M) (asc_elems M) hR (by omega)
    have hle := length_elems M
    have hmk := make (elems M) (asc_elems M) (by omega) (fun y hy => by have := hE y ((hR y).1 hy); omega)
    rw [mk_elems_cut hw] at hmk
    have hli := list (cut M) (cut_WW hw) (by omega)
    have he : elems (cut M) = elems M := asc_ext (asc_elems _) (asc_elems _) (fun z => by rw [mem_elems, mem_elems, cut_mem])
    rw [he] at hli
    have hq := equalInts (ints (elems M)) (ints (elems M)) (by rw [ints_length]; omega)
    rw [decide_eq_true rfl] at hq
    exact Ev.bind hof (Ev_pos rfl (Ev.bind hs (Ev.bind hmk (Ev.bind (equal _ (by rw [ints_length]; omega)) (Ev_pos rfl (Ev.bind hli (Ev.bind hs (Ev.bind hq (Ev_pos rfl (Ev.bind awake (Ev.now _)))))))))))
  | d + 1, i, hd, hi, ha => by
    refine Ev.step (fun k => by rw [dataflowlaw01_BitsMakes.l0]) (Ev_pos (by omega) (Ev_pos (by omega) (Ev_bindc (elem_is _) ?_)))
    rw [rd_getD]
    by_cases h : okI (l.getD i 0) = true
    · refine Ev_pos h ?_
      rw [w64 (by omega) (by omega)]
      have := makes_loop l hl d (i + 1) (by omega) (by omega) (fun j hj => by
        by_cases e : j = i
        · rw [e]; exact h
        · exact ha j (by omega))
      simpa using this
    · refine Ev_neg h ?_
      have hof : Ev (fun k => bits_Of.f k l) ([], 4) := by
        unfold bits_Of.f
        exact of_bad l (by omega) _ 0 (-1) rfl (Nat.zero_le _) ⟨i, Nat.zero_le _, by omega, Bool.eq_false_iff.2 h⟩
      exact Ev.bind hof (Ev_pos rfl (Ev_pos rfl (Ev.bind awake (Ev.now _))))
theorem BitsMakes : dataflowlaw01_BitsMakes.Pure := by
  intro l0 _ _ _
  apply Ev.rounds
  unfold dataflowlaw01_BitsMakes.f
  by_cases h : (l0.length : Int) > 300
  · exact Ev_pos h (Ev.bind awake (Ev.now _))
  · exact Ev_neg h (makes_loop l0 (by omega) _ 0 rfl (Nat.zero_le _) (fun j hj => absurd hj (by omega)))
end Go.Proofs.YtlfoehjjgbnkaaaDoor.Pure
