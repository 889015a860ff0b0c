/- Questions on sets: validity, membership, the next element, inclusion, as the references answer them; equality of lists. -/
import Derived.Test.YtlfoehjjgbnkaaaDoorBE5
import Derived.Test.YtlfoehjjgbnkaaaDoorPBx8
import Derived.Test.YtlfoehjjgbnkaaaDoorPBx9
namespace Go.Proofs.YtlfoehjjgbnkaaaDoor.Pu
set_option linter.unusedVariables false
set_option linter.unusedSimpArgs false
open Go.RowKit Go.Proofs.YtlfoehjjgbnkaaaDoor.PB Go.Proofs.YtlfoehjjgbnkaaaDoorW.PrintWords Go.Proofs.YtlfoehjjgbnkaaaDoorW.PrintLast Go.Proofs.YtlfoehjjgbnkaaaDoorW.PrintMore
/-! Equal lists of numbers, whatever they are -/
theorem equalInts_loop (a b : List Int) (hl : a.length = b.length) (ha : a.length ≤ 1000000000) : ∀ d i, a.length - i = d → i ≤ a.length → (∀ j, j < i → a.getD j 0 = b.getD j 0) → Ev (fun k => dataflowref01_EqualInts.l0 k a b (i : Int)) (decide (a = b))
  | 0, i, hd, hi, he => by
    have : a = b := by
      apply List.ext_getElem hl
      intro j h1 h2
      have := he j (by omega)
      rw [List.getD_eq_getElem?_getD, List.getD_eq_getElem?_getD, List.getElem?_eq_getElem h1, List.getElem?_eq_getElem h2] at this
      simpa using this
    rw [decide_eq_true this]
    exact Ev.step (fun k => by rw [dataflowref01_EqualInts.l0]) (Ev_neg (by omega) (Ev.now _))
  | d + 1, i, hd, hi, he => by
    refine Ev.step (fun k => by rw [dataflowref01_EqualInts.l0]) (Ev_pos (by omega) (Ev_pos (by omega) (Ev_pos (by omega) ?_)))
    have ra : rd a (i : Int) = a.getD i 0 := by unfold rd; rw [Int.toNat_natCast]
    have rb : rd b (i : Int) = b.getD i 0 := by unfold rd; rw [Int.toNat_natCast]
    rw [ra, rb]
    by_cases h : a.getD i 0 = b.getD i 0
    · have ih := equalInts_loop a b hl ha d (i + 1) (by omega) (by omega) (fun j hj => by
        by_cases e : j = i
        · rw [e]; exact h
        · exact he j (by omega))
      refine Ev_pos h ?_
      rw [w64 (by omega) (by omega)]
      simpa using ih
    · refine Ev_neg h ?_
      have : a ≠ b := by rintro rfl; exact h rfl
      rw [decide_eq_false this]
      exact Ev.now _
theorem equalInts (a b : List Int) (ha : a.length ≤ 1000000000) : Ev (fun k => dataflowref01_EqualInts.f k a b) (decide (a = b)) := by
  unfold dataflowref01_EqualInts.f
  by_cases h : a.length = b.length
  · exact Ev_pos (by omega) (equalInts_loop a b h ha _ 0 rfl (Nat.zero_le _) (fun j hj => absurd hj (by omega)))
  · refine Ev_neg (by omega) ?_
    have : a ≠ b := by rintro rfl; exact h rfl
    rw [decide_eq_false this]
    exact Ev.now _
theorem ints_inj {L M : List Nat} (h : ints L = ints M) : L = M := by
  apply List.ext_getElem
  · rw [← ints_length L, ← ints_length M, h]
  · intro i h1 h2
    have e1 := rd_ints L i
    rw [h, rd_ints M i] at e1
    rw [List.getD_eq_getElem?_getD, List.getD_eq_getElem?_getD, List.getElem?_eq_getElem h1, List.getElem?_eq_getElem h2] at e1
    simp at e1
    omega
/-! Membership, by looking through the elements -/
theorem ref_has_loop (E : List Nat) (x : Int) (he : E.length ≤ 1000000000) : ∀ d i, E.length - i = d → i ≤ E.length → (∀ j, j < i → ((E.getD j 0 : Nat) : Int) ≠ x) → Ev (fun k => dataflowref01_Has.l0 k x (ints E) (i : Int)) (decide (∃ y ∈ E, (y : Int) = x))
  | 0, i, hd, hi, hn => by
    have : ¬ ∃ y ∈ E, (y : Int) = x := by
      rintro ⟨y, hy, e⟩
      obtain ⟨j, hj, rfl⟩ := mem_getD hy
      exact hn j (by omega) e
    rw [decide_eq_false this]
    exact Ev.step (fun k => by rw [dataflowref01_Has.l0]) (Ev_neg (by rw [ints_length]; omega) (Ev.now _))
  | d + 1, i, hd, hi, hn => by
    refine Ev.step (fun k => by rw [dataflowref01_Has.l0]) (Ev_pos (by rw [ints_length]; omega) (Ev_pos (by omega) ?_))
    rw [rd_ints]
    by_cases h : ((E.getD i 0 : Nat) : Int) = x
    · refine Ev_pos h ?_
      rw [decide_eq_true ⟨_, getD_mem (by omega), h⟩]
      exact Ev.now _
    · have ih := ref_has_loop E x he d (i + 1) (by omega) (by omega) (fun j hj => by
        by_cases e : j = i
        · rw [e]; exact h
        · exact hn j (by omega))
      refine Ev_neg h ?_
      rw [w64 (by omega) (by omega)]
      simpa using ih
theorem ref_has (L : List Nat) (hW : WW L) (hl : L.length ≤ 1000000) (x : Int) : Ev (fun k => dataflowref01_Has.f k (ints L) x) (memI L x) := by
  have hle := length_elems L
  unfold dataflowref01_Has.f
  refine Ev.bind (ref_list L hW hl) ?_
  have := ref_has_loop (elems L) x (by omega) _ 0 rfl (Nat.zero_le _) (fun j hj => absurd hj (by omega))
  have e : decide (∃ y ∈ elems L, (y : Int) = x) = memI L x := by
    rw [Bool.eq_iff_iff, decide_eq_true_iff]
    constructor
    · rintro ⟨y, hy, rfl⟩
      rw [memI_nat]
      exact (mem_elems L y).1 hy
    · intro h
      unfold memI at h
      rw [Bool.and_eq_true, decide_eq_true_iff] at h
      exact ⟨x.toNat, (mem_elems L _).2 h.2, by omega⟩
  rw [e] at this
  exact this
/-! The next element, by looking through the elements -/
theorem ref_next_loop (L : List Nat) (hl : L.length ≤ 1000000) (x : Int) : ∀ d i, (elems L).length - i = d → i ≤ (elems L).length → (∀ j, j < i → (((elems L).getD j 0 : Nat) : Int) < x) →
    ∃ r, Ev (fun k => dataflowref01_Next.l0 k x (ints (elems L)) (i : Int)) r ∧ NextIs L x.toNat r
  | 0, i, hd, hi, hn => by
    refine ⟨-1, Ev.step (fun k => by rw [dataflowref01_Next.l0]) (Ev_neg (by rw [ints_length]; omega) (Ev.now _)), .inl ⟨rfl, fun e he => ?_⟩⟩
    obtain ⟨j, hj, rfl⟩ := mem_getD ((mem_elems L e).2 he)
    have := hn j (by omega)
    omega
  | d + 1, i, hd, hi, hn => by
    have hlt : i < (elems L).length := by omega
    have hle := length_elems L
    by_cases h : (((elems L).getD i 0 : Nat) : Int) ≥ x
    · refine ⟨_, Ev.step (fun k => by rw [dataflowref01_Next.l0]) (Ev_pos (by rw [ints_length]; omega) (Ev_pos (by omega) (Ev_pos (by rw [rd_ints]; exact h) (Ev.now _)))), ?_⟩
      rw [rd_ints]
      refine .inr ⟨_, rfl, (mem_elems L _).1 (getD_mem hlt), by omega, fun e he hxe => ?_⟩
      obtain ⟨j, hj, rfl⟩ := mem_getD ((mem_elems L e).2 he)
      rcases Nat.lt_or_ge i j with h2 | h2
      · exact Nat.le_of_lt (asc_get (asc_elems L) hj h2)
      · rcases Nat.lt_or_ge j i with h3 | h3
        · have := hn j h3
          omega
        · have : i = j := by omega
          rw [this]
          exact Nat.le_refl _
    · obtain ⟨r, hr, hs⟩ := ref_next_loop L hl x d (i + 1) (by omega) (by omega) (fun j hj => by
        by_cases e : j = i
        · rw [e]; omega
        · exact hn j (by omega))
      refine ⟨r, Ev.step (fun k => by rw [dataflowref01_Next.l0]) (Ev_pos (by rw [ints_length]; omega) (Ev_pos (by omega) (Ev_neg (by rw [rd_ints]; exact h) ?_))), hs⟩
      rw [w64 (by omega) (by omega)]
      simpa using hr
theorem ref_next (L : List Nat) (hW : WW L) (hl : L.length ≤ 1000000) (x : Int) : ∃ r, Ev (fun k => dataflowref01_Next.f k (ints L) x) r ∧ NextIs L x.toNat r := by
  obtain ⟨r, hr, hs⟩ := ref_next_loop L hl x _ 0 rfl (Nat.zero_le _) (fun j hj => absurd hj (by omega))
  refine ⟨r, ?_, hs⟩
  unfold dataflowref01_Next.f
  exact Ev.bind (ref_list L hW hl) hr
/-! Validity -/
def valid (L : List Nat) : Bool := decide (∀ y ∈ elems L, y < 65536)
theorem check_loop (L : List Nat) (hW : WW L) (hl : L.length ≤ 1000000) : ∀ d i, L.length - i = d → 1024 ≤ i → (∀ j, 1024 ≤ j → j < i → L.getD j 0 = 0) → Ev (fun k => bits_Check.l0 k (ints L) (i : Int)) (if valid L = true then 0 else 4)
  | 0, i, hd, hi, hz => by
    have : valid L = true := by
      unfold valid
      rw [decide_eq_true_iff]
      intro y hy
      have hm := (mem_elems L y).1 hy
      apply Nat.lt_of_not_le
      intro hle
      have hlt := mem_lt hm
      have h0 := hz (y / 64) (by omega) (by omega)
      unfold mem at hm
      rw [h0] at hm
      simp at hm
    rw [if_pos this]
    exact Ev.step (fun k => by rw [bits_Check.l0]) (Ev_neg (by rw [ints_length]; omega) (Ev.now _))
  | d + 1, i, hd, hi, hz => by
    refine Ev.step (fun k => by rw [bits_Check.l0]) (Ev_pos (by rw [ints_length]; omega) (Ev_pos (by omega) ?_))
    rw [rd_ints]
    by_cases h : L.getD i 0 = 0
    · have ih := check_loop L hW hl d (i + 1) (by omega) (by omega) (fun j h1 h2 => by
        by_cases e : j = i
        · rw [e]; exact h
        · exact hz j h1 (by omega))
      refine Ev_pos (by omega) ?_
      rw [w64 (by omega) (by omega)]
      simpa using ih
    · refine Ev_neg (by omega) ?_
      have hc := ctz_spec (L.getD i 0) (by omega) (hW.getD i)
      have : ¬ valid L = true := by
        unfold valid
        rw [decide_eq_true_iff]
        intro hv
        have := hv (64 * i + Lib.ctz 64 (L.getD i 0)) ((mem_elems L _).2 (by rw [mem_at _ _ _ hc.1]; exact hc.2.1))
        omega
      rw [if_neg this]
      exact Ev.now _
theorem check (L : List Nat) (hW : WW L) (hl : L.length ≤ 1000000) : Ev (fun k => bits_Check.f k (ints L)) (if valid L = true then 0 else 4) :=
  check_loop L hW hl _ 1024 rfl (Nat.le_refl _) (fun j h1 h2 => absurd h1 (by omega))
theorem ref_valid (L : List Nat) (hW : WW L) (hl : L.length ≤ 1000000) : Ev (fun k => dataflowref01_Valid.f k (ints L)) (valid L) := by
  have hle := length_elems L
  unfold dataflowref01_Valid.f
  refine Ev.bind (ref_list L hW hl) ?_
  rw [ints_length]
  by_cases h : (elems L).length = 0
  · refine Ev_pos (by omega) ?_
    have : valid L = true := by unfold valid; rw [decide_eq_true_iff, List.eq_nil_of_length_eq_zero h]; intro y hy; cases hy
    rw [this]
    exact Ev.now _
  · have e : wrap64 (((elems L).length : Int) - 1) = (((elems L).length - 1 : Nat) : Int) := by rw [w64 (by omega) (by omega)]; omega
    rw [e]
    refine Ev_neg (by omega) (Ev_pos (by omega) (Ev_pos (by omega) ?_))
    rw [rd_ints]
    have : decide ((((elems L).getD ((elems L).length - 1) 0 : Nat) : Int) < 65536) = valid L := by
      unfold valid
      rw [Bool.eq_iff_iff, decide_eq_true_iff, decide_eq_true_iff]
      constructor
      · intro h2 y hy
        obtain ⟨j, hj, rfl⟩ := mem_getD hy
        rcases Nat.lt_or_ge j ((elems L).length - 1) with h3 | h3
        · have := asc_get (asc_elems L) (show (elems L).length - 1 < (elems L).length by omega) h3
          omega
        · have : j = (elems L).length - 1 := by omega
          rw [this]
          omega
      · intro h2
        have := h2 _ (getD_mem (show (elems L).length - 1 < (elems L).length by omega))
        omega
    rw [this]
    exact Ev.now _
/-! Inclusion -/
def sub (A B : List Nat) : Bool := decide (∀ y ∈ elems A, y ∈ elems B)
theorem within_loop (A B : List Nat) (hA : WW A) (hB : WW B) (ha : A.length ≤ 1000000) : ∀ d i, A.length - i = d → i ≤ A.length → (∀ j, j < i → (dif A B).getD j 0 = 0) → Ev (fun k => bits_Within.l0 k (ints A) (ints B) (A.length : Int) (i : Int)) (sub A B)
  | 0, i, hd, hi, hz => by
    have : sub A B = true := by
      unfold sub
      rw [decide_eq_true_iff]
      intro y hy
      rw [mem_elems] at hy ⊢
      have hlt := mem_lt hy
      have h0 := hz (y / 64) (by omega)
      have hd := dif_mem (A := A) hB y
      unfold mem at hd
      rw [h0] at hd
      have hy' := hy
      unfold mem at hy'
      rw [hy'] at hd
      cases e : mem B y with
      | true => rfl
      | false => unfold mem at e; rw [e] at hd; simp at hd
    rw [this]
    exact Ev.step (fun k => by rw [bits_Within.l0]) (Ev_neg (by omega) (Ev.now _))
  | d + 1, i, hd, hi, hz => by
    have h1 := hA.getD i
    have h2 := hB.getD i
    refine Ev.step (fun k => by rw [bits_Within.l0]) (Ev_pos (by omega) (Ev_pos (by omega) (Ev_pos (by rw [ints_length]; omega) ?_)))
    refine Ev_bindc (at_ B i) ?_
    rw [rd_ints, u64_andNot_nat _ _ (by omega) (by omega), ← dif_getD]
    by_cases h : (dif A B).getD i 0 = 0
    · have ih := within_loop A B hA hB ha d (i + 1) (by omega) (by omega) (fun j hj => by
        by_cases e : j = i
        · rw [e]; exact h
        · exact hz j (by omega))
      refine Ev_pos (by omega) ?_
      rw [w64 (by omega) (by omega)]
      simpa using ih
    · refine Ev_neg (by omega) ?_
      have hc := ctz_spec ((dif A B).getD i 0) (by omega) ((dif_WW hA).getD i)
      have hm : mem (dif A B) (64 * i + Lib.ctz 64 ((dif A B).getD i 0)) = true := by rw [mem_at _ _ _ hc.1]; exact hc.2.1
      rw [dif_mem hB] at hm
      have hm' : mem A (64 * i + Lib.ctz 64 ((dif A B).getD i 0)) = true ∧ mem B (64 * i + Lib.ctz 64 ((dif A B).getD i 0)) = false := by simpa using hm
      have : ¬ sub A B = true := by
        unfold sub
        rw [decide_eq_true_iff]
        intro hs
        have := (mem_elems B _).1 (hs _ ((mem_elems A _).2 hm'.1))
        rw [hm'.2] at this
        cases this
      have : sub A B = false := by simpa using this
      rw [this]
      exact Ev.now _
theorem within (A B : List Nat) (hA : WW A) (hB : WW B) (ha : A.length ≤ 1000000) : Ev (fun k => bits_Within.f k (ints A) (ints B)) (sub A B) := by
  unfold bits_Within.f
  rw [ints_length]
  exact within_loop A B hA hB ha _ 0 rfl (Nat.zero_le _) (fun j hj => absurd hj (by omega))
/-- Searching by halves. -/
theorem in_loop (E : List Nat) (hE : asc E) (he : E.length ≤ 1000000000) (x : Nat) : ∀ n lo hi, hi - lo ≤ n → lo ≤ hi → hi ≤ E.length → (∀ j, j < lo → E.getD j 0 < x) → (∀ j, hi ≤ j → j < E.length → x ≤ E.getD j 0) →
    Ev (fun k => dataflowref01_in.l0 k (ints E) (x : Int) (lo : Int) (hi : Int)) (decide (x ∈ E)) := by
  intro n
  induction n with
  | zero =>
    intro lo hi hn hlh hh hlo hhi
    have : lo = hi := by omega
    subst this
    refine Ev.step (fun k => by rw [dataflowref01_in.l0]) (Ev_neg (by omega) ?_)
    by_cases h : lo < E.length
    · refine Ev_pos (by rw [ints_length]; omega) (Ev_pos (by omega) ?_)
      rw [rd_ints]
      have e : (((E.getD lo 0 : Nat) : Int) == (x : Int)) = decide (x ∈ E) := by
        rw [Bool.eq_iff_iff, beq_iff_eq, decide_eq_true_iff]
        constructor
        · intro h2
          have : E.getD lo 0 = x := by omega
          rw [← this]
          exact getD_mem h
        · intro h2
          obtain ⟨j, hj, hx⟩ := mem_getD h2
          rcases Nat.lt_or_ge j lo with h3 | h3
          · have := hlo j h3; omega
          · rcases Nat.lt_or_ge lo j with h4 | h4
            · have := asc_get hE hj h4
              have := hhi lo (Nat.le_refl _) h
              omega
            · have : j = lo := by omega
              rw [← this, hx]
      rw [e]
      exact Ev.now _
    · refine Ev_neg (by rw [ints_length]; omega) ?_
      have : ¬ x ∈ E := by
        intro h2
        obtain ⟨j, hj, hx⟩ := mem_getD h2
        have := hlo j (by omega)
        omega
      rw [decide_eq_false this]
      exact Ev.now _
  | succ n ih =>
    intro lo hi hn hlh hh hlo hhi
    by_cases hlt : lo < hi
    · have e : wrap64 (Int.tdiv (wrap64 ((lo : Int) + (hi : Int))) 2) = (((lo + hi) / 2 : Nat) : Int) := by
        rw [w64 (a := (lo : Int) + (hi : Int)) (by omega) (by omega), Int.tdiv_eq_ediv_of_nonneg (by omega), w64 (by omega) (by omega)]
        omega
      refine Ev.step (fun k => by rw [dataflowref01_in.l0]) (Ev_pos (by omega) ?_)
      rw [e]
      refine Ev_pos (by omega) (Ev_pos (by rw [ints_length]; omega) ?_)
      rw [rd_ints]
      by_cases h : E.getD ((lo + hi) / 2) 0 < x
      · have := ih ((lo + hi) / 2 + 1) hi (by omega) (by omega) hh (fun j hj => by
          rcases Nat.lt_or_ge j ((lo + hi) / 2) with h3 | h3
          · have := asc_get hE (show (lo + hi) / 2 < E.length by omega) h3
            omega
          · have : j = (lo + hi) / 2 := by omega
            rw [this]
            exact h) hhi
        refine Ev_pos (by omega) ?_
        rw [w64 (by omega) (by omega)]
        simpa using this
      · have := ih lo ((lo + hi) / 2) (by omega) (by omega) (by omega) hlo (fun j h1 h2 => by
          rcases Nat.lt_or_ge ((lo + hi) / 2) j with h3 | h3
          · have := asc_get hE h2 h3
            omega
          · have : j = (lo + hi) / 2 := by omega
            rw [this]
            omega)
        exact Ev_neg (by omega) this
    · have : lo = hi := by omega
      subst this
      exact ih lo lo (by omega) hlh hh hlo hhi
theorem in_ (E : List Nat) (hE : asc E) (he : E.length ≤ 1000000000) (x : Nat) : Ev (fun k => dataflowref01_in.f k (ints E) (x : Int)) (decide (x ∈ E)) := by
  unfold dataflowref01_in.f
  rw [ints_length]
  exact in_loop E hE he x _ 0 E.length (Nat.le_refl _) (Nat.zero_le _) (Nat.le_refl _) (fun j hj => absurd hj (by omega)) (fun j h1 h2 => absurd h2 (by omega))
theorem ref_within_loop (A B : List Nat) (ha : A.length ≤ 1000000) (hb : B.length ≤ 1000000) : ∀ d i, (elems A).length - i = d → i ≤ (elems A).length → (∀ j, j < i → (elems A).getD j 0 ∈ elems B) → Ev (fun k => dataflowref01_Within.l0 k (ints (elems A)) (ints (elems B)) (i : Int)) (sub A B)
  | 0, i, hd, hi, hz => by
    have : sub A B = true := by
      unfold sub
      rw [decide_eq_true_iff]
      intro y hy
      obtain ⟨j, hj, rfl⟩ := mem_getD hy
      exact hz j (by omega)
    rw [this]
    exact Ev.step (fun k => by rw [dataflowref01_Within.l0]) (Ev_neg (by rw [ints_length]; omega) (Ev.now _))
  | d + 1, i, hd, hi, hz => by
    have la := length_elems A
    have lb := length_elems B
    refine Ev.step (fun k => by rw [dataflowref01_Within.l0]) (Ev_pos (by rw [ints_length]; omega) (Ev_pos (by omega) ?_))
    rw [rd_ints]
    refine Ev.bind (in_ (elems B) (asc_elems B) (by omega) _) ?_
    by_cases h : (elems A).getD i 0 ∈ elems B
    · have ih := ref_within_loop A B ha hb d (i + 1) (by omega) (by omega) (fun j hj => by
        by_cases e : j = i
        · rw [e]; exact h
        · exact hz j (by omega))
      refine Ev_pos (decide_eq_true h) ?_
      rw [w64 (by omega) (by omega)]
      simpa using ih
    · refine Ev_neg (by rw [decide_eq_true_iff]; exact h) ?_
      have : sub A B = false := by
        unfold sub
        rw [decide_eq_false_iff_not]
        intro hs
        exact h (hs _ (getD_mem (by omega)))
      rw [this]
      exact Ev.now _
theorem ref_within (A B : List Nat) (hA : WW A) (hB : WW B) (ha : A.length ≤ 1000000) (hb : B.length ≤ 1000000) : Ev (fun k => dataflowref01_Within.f k (ints A) (ints B)) (sub A B) := by
  unfold dataflowref01_Within.f
  exact Ev.bind (ref_list A hA ha) (Ev.bind (ref_list B hB hb) (ref_within_loop A B ha hb _ 0 rfl (Nat.zero_le _) (fun j hj => absurd hj (by omega))))
theorem same_is (A B : List Nat) : (sub A B && sub B A) = decide (elems A = elems B) := by
  rw [Bool.eq_iff_iff, Bool.and_eq_true, decide_eq_true_iff]
  unfold sub
  rw [decide_eq_true_iff, decide_eq_true_iff]
  constructor
  · rintro ⟨h1, h2⟩
    exact asc_ext (asc_elems A) (asc_elems B) (fun x => ⟨h1 x, h2 x⟩)
  · intro h
    rw [h]
    exact ⟨fun _ h => h, fun _ h => h⟩
theorem same (A B : List Nat) (hA : WW A) (hB : WW B) (ha : A.length ≤ 1000000) (hb : B.length ≤ 1000000) : Ev (fun k => bits_Same.f k (ints A) (ints B)) (decide (elems A = elems B)) := by
  rw [← same_is]
  unfold bits_Same.f
  refine Ev.bind (within A B hA hB ha) ?_
  cases h : sub A B with
  | true => exact Ev_pos rfl (Ev.bind (within B A hB hA hb) (Ev.now _))
  | false => exact Ev_neg (by simp) (Ev.now _)
end Go.Proofs.YtlfoehjjgbnkaaaDoor.Pu
