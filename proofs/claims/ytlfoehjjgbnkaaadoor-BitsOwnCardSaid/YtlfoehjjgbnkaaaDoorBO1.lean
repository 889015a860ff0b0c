/- What the printed functions of the layer answer: counts, lists of elements, membership. -/
import Derived.Test.YtlfoehjjgbnkaaaDoorBP4
import Derived.Test.YtlfoehjjgbnkaaaDoorPOx1
import Derived.Test.YtlfoehjjgbnkaaaDoorPOx2
import Derived.Test.YtlfoehjjgbnkaaaDoorPOx3
namespace Go.Proofs.YtlfoehjjgbnkaaaDoor.Pu
set_option linter.unusedVariables false
set_option linter.unusedSimpArgs false
open Go.RowKit Go.Proofs.YtlfoehjjgbnkaaaDoor.PO Go.Proofs.YtlfoehjjgbnkaaaDoorW.PrintWords Go.Proofs.YtlfoehjjgbnkaaaDoorW.PrintLast Go.Proofs.YtlfoehjjgbnkaaaDoorW.PrintMore
section
variable {α β : Type} {c : Prop} [Decidable c] {f g : Nat → Option α} {r : α}
theorem Ev_pos (h : c) (k : Ev f r) : Ev (fun n => if c then f n else g n) r := Ev.congr (fun _ => if_pos h) k
theorem Ev_neg (h : ¬ c) (k : Ev g r) : Ev (fun n => if c then f n else g n) r := Ev.congr (fun _ => if_neg h) k
theorem Ev_bindc {o : Option β} {a : β} {f : Nat → β → Option α} (h : o = some a) (k : Ev (fun n => f n a) r) : Ev (fun n => o.bind (f n)) r := Ev.congr (fun _ => by rw [h]; rfl) k
end
def ints (L : List Nat) : List Int := L.map fun n : Nat => ((n : Nat) : Int)
theorem ints_length (L : List Nat) : (ints L).length = L.length := by unfold ints; rw [List.length_map]
theorem rd_ints (L : List Nat) (i : Nat) : rd (ints L) (i : Int) = ((L.getD i 0 : Nat) : Int) := by
  unfold rd ints
  rw [Int.toNat_natCast, List.getD_eq_getElem?_getD, List.getD_eq_getElem?_getD, List.getElem?_map]
  cases L[i]? <;> rfl
theorem ints_append (L M : List Nat) : ints (L ++ M) = ints L ++ ints M := by unfold ints; rw [List.map_append]
theorem w64 {a : Int} (h1 : -9223372036854775808 ≤ a) (h2 : a ≤ 9223372036854775807) : wrap64 a = a := by unfold wrap64; omega
theorem u64w {a : Int} (h1 : 0 ≤ a) (h2 : a < 18446744073709551616) : IntKind.u64.wrap a = a := by rw [IntKind.wrap_u64]; omega
/-! One word's count -/
theorem M1 : (6148914691236517205 : Int) = ((m1 8 : Nat) : Int) := by decide
theorem M2 : (3689348814741910323 : Int) = ((m2 8 : Nat) : Int) := by decide
theorem M3 : (1085102592571150095 : Int) = ((m3 8 : Nat) : Int) := by decide
theorem bits_and_i64_nat (a b : Nat) (ha : a < 9223372036854775808) (hb : b < 9223372036854775808) : Go.bits .and .i64 (a : Int) (b : Int) = ((a &&& b : Nat) : Int) := by
  have hx : a &&& b ≤ b := Nat.and_le_right
  have h1 : (BitVec.ofInt 64 (a : Int)).toNat = a := by
    rw [BitVec.ofInt_natCast, BitVec.toNat_ofNat]; exact Nat.mod_eq_of_lt (by omega)
  have h2 : (BitVec.ofInt 64 (b : Int)).toNat = b := by
    rw [BitVec.ofInt_natCast, BitVec.toNat_ofNat]; exact Nat.mod_eq_of_lt (by omega)
  show IntKind.i64.wrap ((BitVec.ofInt 64 (a : Int) &&& BitVec.ofInt 64 (b : Int)).toNat : Int) = _
  rw [BitVec.toNat_and, h1, h2, i64_w, w64 (by omega) (by omega)]
theorem ones_1 (x : Nat) (h : x < 2 ^ 64) : IntKind.u64.wrap ((Go.bits .and .u64 ((x : Int) / 2) 6148914691236517205) + (Go.bits .and .u64 (x : Int) 6148914691236517205)) = ((S1 8 x : Nat) : Int) := by
  have hm : m1 8 = 6148914691236517205 := by decide
  have l1 : (x / 2) &&& m1 8 ≤ m1 8 := Nat.and_le_right
  have l2 : x &&& m1 8 ≤ m1 8 := Nat.and_le_right
  rw [M1, show ((x : Int) / 2) = ((x / 2 : Nat) : Int) by omega, bits_and_u64_nat _ _ (by omega) (by omega), bits_and_u64_nat _ _ (by omega) (by omega), ← Int.natCast_add, u64w (by omega) (by omega)]
  rfl
theorem ones_2 (x : Nat) (h : x < 2 ^ 64) : IntKind.u64.wrap ((Go.bits .and .u64 ((x : Int) / 4) 3689348814741910323) + (Go.bits .and .u64 (x : Int) 3689348814741910323)) = ((S2 8 x : Nat) : Int) := by
  have hm : m2 8 = 3689348814741910323 := by decide
  have l1 : (x / 4) &&& m2 8 ≤ m2 8 := Nat.and_le_right
  have l2 : x &&& m2 8 ≤ m2 8 := Nat.and_le_right
  rw [M2, show ((x : Int) / 4) = ((x / 4 : Nat) : Int) by omega, bits_and_u64_nat _ _ (by omega) (by omega), bits_and_u64_nat _ _ (by omega) (by omega), ← Int.natCast_add, u64w (by omega) (by omega)]
  rfl
theorem ones_3 (x : Nat) (h : x ≤ 2 * m2 8) : Go.bits .and .u64 (IntKind.u64.wrap ((x : Int) / 16 + (x : Int))) 1085102592571150095 = ((S3 8 x : Nat) : Int) := by
  have hm : m2 8 = 3689348814741910323 := by decide
  have hm3 : m3 8 = 1085102592571150095 := by decide
  rw [M3, u64w (by omega) (by omega), show ((x : Int) / 16 + (x : Int)) = ((x / 16 + x : Nat) : Int) by omega, bits_and_u64_nat _ _ (by omega) (by omega)]
  rfl
theorem ones (x : Nat) (h : x < 2 ^ 64) : bits_OnesCount64.f (x : Int) = some ((popN 64 x : Nat) : Int) := by
  have hm1 : m1 8 = 6148914691236517205 := by decide
  have hm2 : m2 8 = 3689348814741910323 := by decide
  have b1 : S1 8 x ≤ 2 * m1 8 := by
    have l1 : (x / 2) &&& m1 8 ≤ m1 8 := Nat.and_le_right
    have l2 : x &&& m1 8 ≤ m1 8 := Nat.and_le_right
    unfold S1; omega
  have b2 : S2 8 (S1 8 x) ≤ 2 * m2 8 := by
    have l1 : (S1 8 x / 4) &&& m2 8 ≤ m2 8 := Nat.and_le_right
    have l2 : S1 8 x &&& m2 8 ≤ m2 8 := Nat.and_le_right
    unfold S2; omega
  unfold bits_OnesCount64.f
  simp only [ones_1 x h]
  simp only [ones_2 (S1 8 x) (by omega)]
  simp only [ones_3 (S2 8 (S1 8 x)) b2]
  rw [S_T 8 x (by rw [show (256 : Nat) ^ 8 = 2 ^ 64 by decide]; exact h)]
  obtain ⟨f1, f2, f3, f4⟩ := fold8 (T 8 x) x rfl
  generalize T 8 x = X at f1 f2 f3 f4 ⊢
  have g1 : IntKind.u64.wrap ((X : Int) + (X : Int) / 256) = ((X + X / 256 : Nat) : Int) := by rw [u64w (by omega) (by omega)]; omega
  simp only [g1]
  generalize X + X / 256 = A at f1 f2 f3 f4 ⊢
  have g2 : IntKind.u64.wrap ((A : Int) + (A : Int) / 65536) = ((A + A / 65536 : Nat) : Int) := by rw [u64w (by omega) (by omega)]; omega
  simp only [g2]
  generalize A + A / 65536 = B at f1 f3 f4 ⊢
  have g3 : IntKind.u64.wrap ((B : Int) + (B : Int) / 4294967296) = ((B + B / 4294967296 : Nat) : Int) := by rw [u64w (by omega) (by omega)]; omega
  simp only [g3]
  generalize B + B / 4294967296 = C at f1 f4 ⊢
  rw [w64 (by omega) (by omega), show (127 : Int) = ((127 : Nat) : Int) from rfl, bits_and_i64_nat _ _ (by omega) (by omega), show (127 : Nat) = 2 ^ 7 - 1 from rfl, Nat.and_two_pow_sub_one_eq_mod, ← f1]
/-! Counts -/
def cnt (L : List Nat) : Nat := (elems L).length
theorem cnt_take (L : List Nat) (i : Nat) (h : i < L.length) : cnt (L.take (i + 1)) = cnt (L.take i) + popN 64 (L.getD i 0) := by
  unfold cnt
  rw [elems_take L i h, List.length_append, List.length_map, pop_bitsOf]
theorem cnt_le (L : List Nat) : cnt L ≤ 64 * L.length := length_elems L
theorem pop_le (x : Nat) : popN 64 x ≤ 64 := by rw [← pop_bitsOf]; exact length_bitsOf x
theorem count_loop (L : List Nat) (hW : WW L) (hl : L.length ≤ 1000000) : ∀ d i, L.length - i = d → i ≤ L.length → Ev (fun k => bits_Count.l0 k (ints L) ((cnt (L.take i) : Nat) : Int) (L.length : Int) (i : Int)) ((cnt L : Nat) : Int)
  | 0, i, hd, hi => by
    have : i = L.length := by omega
    subst this
    refine Ev.step (fun k => by rw [bits_Count.l0]) ?_
    refine Ev_neg (by omega) ?_
    rw [List.take_length]
    exact Ev.now _
  | d + 1, i, hd, hi => by
    have hlt : i < L.length := by omega
    have ih := count_loop L hW hl d (i + 1) (by omega) (by omega)
    have hc := cnt_take L i hlt
    have hcl : cnt (L.take i) ≤ 64 * i := by have := cnt_le (L.take i); rw [List.length_take] at this; omega
    have hp := pop_le (L.getD i 0)
    refine Ev.step (fun k => by rw [bits_Count.l0]) ?_
    refine Ev_pos (by omega) (Ev_pos (by omega) (Ev_pos (by rw [ints_length]; omega) ?_))
    rw [rd_ints]
    refine Ev_bindc (ones _ (hW.getD i)) ?_
    rw [w64 (a := (i : Int) + 1) (by omega) (by omega), w64 (a := ((cnt (L.take i) : Nat) : Int) + _) (by omega) (by omega)]
    rw [hc] at ih
    simpa using ih
theorem count (L : List Nat) (hW : WW L) (hl : L.length ≤ 1000000) : Ev (fun k => bits_Count.f k (ints L)) ((cnt L : Nat) : Int) := by
  have := count_loop L hW hl L.length 0 (by omega) (by omega)
  unfold bits_Count.f
  rw [ints_length]
  simpa [cnt, elems] using this
/-! Lists -/
end Go.Proofs.YtlfoehjjgbnkaaaDoor.Pu
