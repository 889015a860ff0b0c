/- Membership, the next element, and the statement that walks over a set. -/
import Derived.Test.YtlfoehjjgbnkaaaDoorBO1
namespace Go.Proofs.YtlfoehjjgbnkaaaDoor.Pu
set_option linter.unusedVariables false
set_option linter.unusedSimpArgs false
open Go.RowKit Go.Proofs.YtlfoehjjgbnkaaaDoor.PO Go.Proofs.YtlfoehjjgbnkaaaDoorW.PrintWords Go.Proofs.YtlfoehjjgbnkaaaDoorW.PrintLast Go.Proofs.YtlfoehjjgbnkaaaDoorW.PrintMore
theorem awake : Ev (fun k => dataflowlaw01_awake.f k) true := Ev.of (fun k => dataflowlaw01_awake.mono k) (k := 20) (by decide +kernel)
def memI (L : List Nat) (x : Int) : Bool := decide (0 ≤ x) && mem L x.toNat
theorem memI_nat (L : List Nat) (n : Nat) : memI L (n : Int) = mem L n := by simp [memI]
theorem bit_at (w j : Nat) (hw : w < 2 ^ 64) (_hj : j < 64) : ((Go.bits .and .u64 (shr .u64 (w : Int) (j : Int)) 1) == 1) = w.testBit j := by
  have e1 : shr .u64 (w : Int) (j : Int) = ((w / 2 ^ j : Nat) : Int) := by
    unfold shr
    rw [Int.toNat_natCast, show IntKind.u64.bits = 64 from rfl, Nat.min_eq_left (by omega), Int.natCast_ediv, Int.natCast_pow]
    rfl
  have hlt : w / 2 ^ j < 2 ^ 64 := Nat.lt_of_le_of_lt (Nat.div_le_self _ _) hw
  rw [e1, show (1 : Int) = ((1 : Nat) : Int) from rfl, bits_and_u64_nat _ _ (by omega) (by omega), Nat.testBit_eq_decide_div_mod_eq, Nat.and_one_is_mod]
  generalize w / 2 ^ j = q
  rw [Bool.eq_iff_iff, beq_iff_eq, decide_eq_true_eq]
  omega
theorem has (L : List Nat) (hW : WW L) (x : Int) (h1 : -9223372036854775808 ≤ x) (h2 : x ≤ 9223372036854775807) : bits_Has.f (ints L) x = some (memI L x) := by
  unfold bits_Has.f memI
  by_cases h0 : 0 ≤ x
  · obtain ⟨n, rfl⟩ := Int.eq_ofNat_of_zero_le h0
    rw [if_pos (by omega)]
    have e1 : wrap64 (Int.tdiv (n : Int) 64) = ((n / 64 : Nat) : Int) := by rw [Int.tdiv_eq_ediv_of_nonneg (by omega), w64 (by omega) (by omega)]; omega
    have e2 : Int.tmod (n : Int) 64 = ((n % 64 : Nat) : Int) := by rw [Int.tmod_eq_emod_of_nonneg (by omega)]; omega
    rw [e1, e2, ints_length]
    by_cases hlt : n / 64 < L.length
    · rw [if_pos (by omega), if_pos (by omega), if_pos (by omega), rd_ints, bit_at _ _ (hW.getD _) (Nat.mod_lt _ (by decide))]
      simp [mem]
    · rw [if_neg (by omega)]
      have : mem L n = false := by
        unfold mem
        rw [List.getD_eq_getElem?_getD, List.getElem?_eq_none (by omega)]
        simp
      simp [this]
  · rw [if_neg (by omega)]
    simp [h0]
/-! The next element -/
def NextIs (L : List Nat) (X : Nat) (r : Int) : Prop := (r = -1 ∧ ∀ e, mem L e = true → e < X) ∨ (∃ e : Nat, r = (e : Int) ∧ mem L e = true ∧ X ≤ e ∧ ∀ d, mem L d = true → X ≤ d → e ≤ d)
theorem NextIs.unique {L : List Nat} {X : Nat} {r s : Int} (h : NextIs L X r) (g : NextIs L X s) : r = s := by
  rcases h with ⟨rfl, h⟩ | ⟨e, rfl, h1, h2, h3⟩ <;> rcases g with ⟨rfl, g⟩ | ⟨d, rfl, g1, g2, g3⟩
  · rfl
  · have := h d g1; omega
  · have := g e h1; omega
  · have := h3 d g1 g2; have := g3 e h1 h2; omega
/-- A word without its lowest s bits. -/
def high (w s : Nat) : Nat := w / 2 ^ s * 2 ^ s
theorem high_bit (w s j : Nat) : (high w s).testBit j = (decide (s ≤ j) && w.testBit j) := by
  unfold high
  rw [Nat.testBit_mul_two_pow]
  by_cases h : s ≤ j
  · rw [Nat.testBit_div_two_pow, Nat.sub_add_cancel h]
  · simp [h]
theorem high_le (w s : Nat) : high w s ≤ w := Nat.div_mul_le_self w (2 ^ s)
theorem high_i (w s : Nat) (hw : w < 2 ^ 64) (hs : s < 64) : shl .u64 (shr .u64 (w : Int) (s : Int)) (s : Int) = ((high w s : Nat) : Int) := by
  have e1 : shr .u64 (w : Int) (s : Int) = ((w / 2 ^ s : Nat) : Int) := by
    unfold shr
    rw [Int.toNat_natCast, show IntKind.u64.bits = 64 from rfl, Nat.min_eq_left (by omega), Int.natCast_ediv, Int.natCast_pow]
    rfl
  have hh := high_le w s
  rw [e1]
  unfold shl
  rw [Int.toNat_natCast, show IntKind.u64.bits = 64 from rfl, Nat.min_eq_left (by omega)]
  have e2 : ((w / 2 ^ s : Nat) : Int) * 2 ^ s = ((high w s : Nat) : Int) := by unfold high; rw [Int.natCast_mul, Int.natCast_pow]; rfl
  rw [e2, u64w (by omega) (by omega)]
theorem tz (y : Nat) (h : y < 2 ^ 64) : bits_TrailingZeros64.f (y : Int) = some ((Lib.ctz 64 y : Nat) : Int) := by
  unfold bits_TrailingZeros64.f
  rw [if_pos ⟨by omega, by omega⟩, Int.toNat_natCast]
theorem zero_of_no_bits (y : Nat) (h : y < 2 ^ 64) (hb : ∀ j, j < 64 → y.testBit j = false) : y = 0 := by
  apply Nat.eq_of_testBit_eq
  intro j
  rw [Nat.zero_testBit]
  rcases Nat.lt_or_ge j 64 with hj | hj
  · exact hb j hj
  · exact Nat.testBit_lt_two_pow (Nat.lt_of_lt_of_le h (Nat.pow_le_pow_right (by decide) hj))
/-- The word that Next looks at. -/
def look (L : List Nat) (X i : Nat) : Nat := if i = X / 64 then high (L.getD i 0) (X % 64) else L.getD i 0
theorem look_bit (L : List Nat) (X i j : Nat) (hi : X / 64 ≤ i) (hj : j < 64) : (look L X i).testBit j = (decide (X ≤ 64 * i + j) && mem L (64 * i + j)) := by
  unfold look
  rw [mem_at L i j hj]
  split
  · rename_i e
    rw [high_bit, e]
    congr 1
    rw [Bool.eq_iff_iff]
    simp
    omega
  · have : X ≤ 64 * i + j := by omega
    simp [this]
theorem look_lt {L : List Nat} (hW : WW L) (X i : Nat) : look L X i < 2 ^ 64 := by
  unfold look
  split
  · exact Nat.lt_of_le_of_lt (high_le _ _) (hW.getD i)
  · exact hW.getD i
theorem next_loop (L : List Nat) (hW : WW L) (hl : L.length ≤ 1000000) (X : Nat) (hX : X < 9223372036854775808) : ∀ d i, L.length - i = d → X / 64 ≤ i → i ≤ X / 64 + L.length → (∀ e, mem L e = true → X ≤ e → 64 * i ≤ e) →
    ∃ r, Ev (fun k => bits_Next.l0 k (ints L) (X : Int) (i : Int)) r ∧ NextIs L X r
  | 0, i, hd, hXi, hi, hno => by
    refine ⟨-1, Ev.step (fun k => by rw [bits_Next.l0]) (Ev_neg (by rw [ints_length]; omega) (Ev.now _)), .inl ⟨rfl, fun e he => ?_⟩⟩
    apply Nat.lt_of_not_le
    intro hle
    have h1 := hno e he hle
    have h2 := mem_lt he
    omega
  | d + 1, i, hd, hXi, hi, hno => by
    have hlt : i < L.length := by omega
    have e1 : wrap64 (Int.tdiv (X : Int) 64) = ((X / 64 : Nat) : Int) := by rw [Int.tdiv_eq_ediv_of_nonneg (by omega), w64 (by omega) (by omega)]; omega
    have e2 : Int.tmod (X : Int) 64 = ((X % 64 : Nat) : Int) := by rw [Int.tmod_eq_emod_of_nonneg (by omega)]; omega
    have hlk := look_lt hW X i
    -- what both ways have in common
    have rest : look L X i = 0 → ∃ r, Ev (fun k => bits_Next.l0 k (ints L) (X : Int) ((i : Int) + 1)) r ∧ NextIs L X r := by
      intro h0
      have := next_loop L hW hl X hX d (i + 1) (by omega) (by omega) (by omega) (fun e he hle => by
        have h1 := hno e he hle
        apply Nat.le_of_not_lt
        intro hlt2
        have hb := look_bit L X i (e - 64 * i) hXi (by omega)
        rw [h0, show 64 * i + (e - 64 * i) = e by omega, he] at hb
        simp at hb
        omega)
      simpa using this
    have found : look L X i ≠ 0 → NextIs L X ((64 * i + Lib.ctz 64 (look L X i) : Nat) : Int) := by
      intro h0
      obtain ⟨c1, c2, c3⟩ := ctz_spec _ (by omega) hlk
      generalize Lib.ctz 64 (look L X i) = c at c1 c2 c3 ⊢
      rw [look_bit L X i c hXi c1] at c2
      have c4 : X ≤ 64 * i + c ∧ mem L (64 * i + c) = true := by simpa using c2
      refine .inr ⟨64 * i + c, rfl, c4.2, c4.1, fun e he hle => ?_⟩
      have h1 := hno e he hle
      apply Nat.le_of_not_lt
      intro hlt2
      have h3 := c3 (e - 64 * i) (by omega)
      rw [look_bit L X i _ hXi (by omega), show 64 * i + (e - 64 * i) = e by omega, he] at h3
      simp at h3
      omega
    have wi : wrap64 ((i : Int) + 1) = (i : Int) + 1 := w64 (by omega) (by omega)
    have head : ∀ r, Ev (fun k => if (X / 64 : Nat) = i then (if (shl .u64 (shr .u64 (rd (ints L) (i : Int)) ((X % 64 : Nat) : Int)) ((X % 64 : Nat) : Int)) = 0 then (bits_Next.l0 k (ints L) (X : Int) (wrap64 ((i : Int) + 1))) else ((bits_TrailingZeros64.f (shl .u64 (shr .u64 (rd (ints L) (i : Int)) ((X % 64 : Nat) : Int)) ((X % 64 : Nat) : Int))).bind fun t115 => (some (wrap64 ((wrap64 ((i : Int) * 64)) + t115))))) else (if (rd (ints L) (i : Int)) = 0 then (bits_Next.l0 k (ints L) (X : Int) (wrap64 ((i : Int) + 1))) else ((bits_TrailingZeros64.f (rd (ints L) (i : Int))).bind fun t116 => (some (wrap64 ((wrap64 ((i : Int) * 64)) + t116)))))) r →
        Ev (fun k => bits_Next.l0 k (ints L) (X : Int) (i : Int)) r := by
      intro r h
      refine Ev.step (fun k => by rw [bits_Next.l0]) ?_
      refine Ev_pos (by rw [ints_length]; omega) (Ev_pos (by omega) ?_)
      rw [e1, e2]
      by_cases he : (X / 64 : Nat) = i
      · simp only [if_pos he] at h
        exact Ev_pos (by omega) (Ev_pos (by omega) h)
      · simp only [if_neg he] at h
        exact Ev_neg (by omega) h
    by_cases h0 : look L X i = 0
    · obtain ⟨r, hr, hn⟩ := rest h0
      refine ⟨r, head r ?_, hn⟩
      rw [wi, rd_ints]
      by_cases he : (X / 64 : Nat) = i
      · refine Ev_pos he (Ev_pos ?_ hr)
        rw [high_i _ _ (hW.getD i) (Nat.mod_lt _ (by decide))]
        unfold look at h0
        rw [if_pos he.symm] at h0
        omega
      · refine Ev_neg he (Ev_pos ?_ hr)
        unfold look at h0
        rw [if_neg (fun h => he h.symm)] at h0
        omega
    · have hn := found h0
      refine ⟨_, head _ ?_, hn⟩
      have hc := (ctz_spec _ (by omega) hlk).1
      have hwr : wrap64 (wrap64 ((i : Int) * 64) + ((Lib.ctz 64 (look L X i) : Nat) : Int)) = ((64 * i + Lib.ctz 64 (look L X i) : Nat) : Int) := by rw [w64 (a := (i : Int) * 64) (by omega) (by omega), w64 (by omega) (by omega)]; omega
      rw [rd_ints]
      by_cases he : (X / 64 : Nat) = i
      · have hk : look L X i = high (L.getD i 0) (X % 64) := by unfold look; rw [if_pos he.symm]
        refine Ev_pos he ?_
        rw [high_i _ _ (hW.getD i) (Nat.mod_lt _ (by decide)), ← hk]
        exact Ev_neg (by omega) (Ev_bindc (tz _ hlk) (by rw [hwr]; exact Ev.now _))
      · have hk : look L X i = L.getD i 0 := by unfold look; rw [if_neg (fun h => he h.symm)]
        refine Ev_neg he ?_
        rw [← hk]
        exact Ev_neg (by omega) (Ev_bindc (tz _ hlk) (by rw [hwr]; exact Ev.now _))
theorem next (L : List Nat) (hW : WW L) (hl : L.length ≤ 1000000) (x : Int) (h1 : -9223372036854775808 ≤ x) (h2 : x ≤ 9223372036854775807) : ∃ r, Ev (fun k => bits_Next.f k (ints L) x) r ∧ NextIs L x.toNat r := by
  have hm : mx x 0 = ((x.toNat : Nat) : Int) := by unfold mx; split <;> omega
  unfold bits_Next.f
  rw [hm, w64 (by omega) (by omega), show ((x.toNat : Nat) : Int) / 64 = ((x.toNat / 64 : Nat) : Int) by omega]
  exact next_loop L hW hl x.toNat (by omega) _ (x.toNat / 64) rfl (Nat.le_refl _) (by omega) (fun e _ hle => by omega)
/-! The statement BitsWalks -/
theorem bd_u64 {x : Int} (h : (Lit.int .u64 x).wf = true) : 0 ≤ x ∧ x < 18446744073709551616 := by
  simp [Lit.wf, IntKind.min, IntKind.max, IntKind.bits, IntKind.signed] at h
  omega
theorem bd_i64 {x : Int} (h : (Lit.int .i64 x).wf = true) : -9223372036854775808 ≤ x ∧ x ≤ 9223372036854775807 := by
  simp [Lit.wf, IntKind.min, IntKind.max, IntKind.bits, IntKind.signed] at h
  omega
theorem nats_of (l : List Int) (h : ∀ x ∈ l, (Lit.int .u64 x).wf = true) : ∃ L : List Nat, l = ints L ∧ WW L := by
  refine ⟨l.map Int.toNat, ?_, ?_⟩
  · unfold ints
    rw [List.map_map]
    conv => lhs; rw [← List.map_id l]
    apply List.map_congr_left
    intro x hx
    have := bd_u64 (h x hx)
    simp
    omega
  · intro y hy
    obtain ⟨x, hx, rfl⟩ := List.mem_map.1 hy
    have := bd_u64 (h x hx)
    omega
theorem asc_get {E : List Nat} (h : asc E) {i j : Nat} (hj : j < E.length) (hij : i < j) : E.getD i 0 < E.getD j 0 := by
  have := List.pairwise_iff_getElem.1 h i j (by omega) hj hij
  rw [List.getD_eq_getElem?_getD, List.getD_eq_getElem?_getD, List.getElem?_eq_getElem (by omega), List.getElem?_eq_getElem hj]
  exact this
theorem getD_mem {E : List Nat} {i : Nat} (h : i < E.length) : E.getD i 0 ∈ E := by
  rw [List.getD_eq_getElem?_getD, List.getElem?_eq_getElem h]
  exact List.getElem_mem h
theorem mem_getD {E : List Nat} {x : Nat} (h : x ∈ E) : ∃ i, i < E.length ∧ E.getD i 0 = x := by
  obtain ⟨i, hi, rfl⟩ := List.getElem_of_mem h
  exact ⟨i, hi, by rw [List.getD_eq_getElem?_getD, List.getElem?_eq_getElem hi]; rfl⟩
end Go.Proofs.YtlfoehjjgbnkaaaDoor.Pu
