/- slices.Sort and slices.Compact over rows of strings, by the shelf's contracts. -/
import Derived.Test.YtkbclcecmcdlfaaDoorPDx0
import Derived.Test.YtkbclcecmcdlfaaDoorShelf
import Derived.Sort.OwnSorted
namespace Go.Proofs.YtkbclcecmcdlfaaDoor.PD
open Go.RowKit Go.Sort Go.Proofs.YtkbclcecmcdlfaaDoorW.PrintWords Go.Proofs.YtkbclcecmcdlfaaDoorW.PrintLast Go.Proofs.YtkbclcecmcdlfaaDoorW.PrintMore
set_option linter.unusedVariables false
set_option linter.unusedSimpArgs false

def toL (s : ByteArray) : List UInt8 := s.data.toList
def ofL (s : List UInt8) : ByteArray := ⟨s.toArray⟩
theorem enc_toL (s : ByteArray) : encStr (toL s) = .string s := rfl
theorem enc_ofL (s : List UInt8) : Value.string (ofL s) = encStr s := rfl
def sortB (l : List ByteArray) : List ByteArray := ((l.map toL).mergeSort fun x y => decide (x ≤ y)).map ofL
def compB (l : List ByteArray) : List ByteArray := (Go.Lib.compact (l.map toL)).map ofL
def slices_Sort_string_string.f (_k : Nat) (l0 : List ByteArray) : Option (List ByteArray) := if l0.length < 4611686018427387904 then some (sortB l0) else none
theorem slices_Sort_string_string.mono : ∀ a0 k, LeO (slices_Sort_string_string.f k a0) (slices_Sort_string_string.f (k + 1) a0) := fun _ _ => LeO.refl _
def slices_Compact_string_string.f (l0 : List ByteArray) : Option (List ByteArray) := if l0.length < 4611686018427387904 then some (compB l0) else none

theorem encs_enc (l : List ByteArray) : encs Value.string l = (l.map toL).map encStr := by
  simp only [encs, List.map_map]
  exact List.map_congr_left (fun x _ => rfl)

theorem slices_Sort_string_string.calls (k : Nat) (P0_ : Nat → Prop) (u9000_ : Value) (l0 : List ByteArray) (r : List ByteArray) (w0 w : World) (hB : Below w0.heap.size w0 w) (ho0 : Kd.R Kd.string 9 w w0.heap.size P0_ u9000_ l0) (h : slices_Sort_string_string.f k l0 = some r) :
    Calls Tryd.prog 26 #[u9000_] w fun e w' => e = .returned (.tuple #[]) ∧ Kd.R Kd.string 9 w' w0.heap.size (fun k_ => (P0_ k_ ∨ w.heap.size ≤ k_)) u9000_ r ∧ Below w0.heap.size w0 w' ∧ Kept w w' (fun k_ => P0_ k_) := by
  unfold slices_Sort_string_string.f at h
  have hlen : l0.length < 4611686018427387904 := by
    by_cases hq : l0.length < 4611686018427387904
    · exact hq
    · rw [if_neg hq] at h; cases h
  rw [if_pos hlen] at h
  obtain rfl := Option.some.inj h
  have hrow := Kd.own_of_R ho0
  rcases hrow.2 with ⟨hnil, hz⟩ | ⟨g, cap, cur, rfl, hbase, hb, h1, h2, h3, h4⟩
  · have hl : l0 = [] := List.eq_nil_of_length_eq_zero hz
    subst hl
    subst hnil
    refine (Tryd.slices_Sort_string_none none 0 w).mono ?_
    rintro e w' ⟨rfl, rfl⟩
    exact ⟨rfl, by rw [show sortB [] = [] by simp [sortB]]; exact Kd.R_nil _ _ _ _ _, hB, Kept.refl _ _⟩
  · rw [Nat.mul_one, encs_enc] at h4
    have hgs := (Array.getElem?_eq_some_iff.1 hb).1
    have hH : Holds encStr w g 0 (l0.map toL).toArray := Go.holds_of_block hb (by rw [List.length_map]; exact h4)
    have hc := Tryd.slices_Sort_string g 0 cap (l0.map toL) w hH hgs (by rw [List.length_map]; exact hlen)
    rw [List.length_map] at hc
    refine hc.mono ?_
    rintro e w' ⟨rfl, n, os, rfl⟩
    have hl : ((l0.map toL).mergeSort fun x y => decide (x ≤ y)).length = (l0.map toL).length := by simp
    have ho := Go.ownsRow_sorted (n := n) (os := os) hl hbase hb (by rw [List.length_map]; exact h1) h2 h3
    have hg := Go.grownBy_sorted (w := w) (g := g) (n := n) (os := os) ((l0.map toL).mergeSort fun x y => decide (x ≤ y)).toArray
    rw [List.length_map] at ho
    have he : encs Value.string (sortB l0) = ((l0.map toL).mergeSort fun x y => decide (x ≤ y)).map encStr := by
      rw [encs_enc]; simp [sortB, toL, ofL, Function.comp_def]
    have hsl : (sortB l0).length = l0.length := by simp [sortB]
    refine ⟨rfl, Kd.R_of_own (by rw [he, hsl]; exact ho) (fun k hk => .inl (ho0.1 k hk)), hB.grown hg hB.size (fun j hj => by cases hj; exact hbase), ⟨hg.size, fun i hi hn => hg.block i hi (fun e_ => hn (ho0.1 i (by simp [Value.ownBlock]; exact (Option.some.inj e_).symm)))⟩⟩

theorem slices_Compact_string_string.calls (P0_ : Nat → Prop) (u9000_ : Value) (l0 : List ByteArray) (r : List ByteArray) (w0 w : World) (hB : Below w0.heap.size w0 w) (ho0 : Kd.R Kd.string 9 w w0.heap.size P0_ u9000_ l0) (h : slices_Compact_string_string.f l0 = some r) :
    Calls Tryd.prog 27 #[u9000_] w fun e w' => ∃ v0_ : Value, e = .returned (v0_) ∧ Kd.R Kd.string 9 w' w0.heap.size (fun k_ => (P0_ k_ ∨ w.heap.size ≤ k_)) v0_ r ∧ Below w0.heap.size w0 w' ∧ Kept w w' (fun k_ => P0_ k_) := by
  unfold slices_Compact_string_string.f at h
  have hlen : l0.length < 4611686018427387904 := by
    by_cases hq : l0.length < 4611686018427387904
    · exact hq
    · rw [if_neg hq] at h; cases h
  rw [if_pos hlen] at h
  obtain rfl := Option.some.inj h
  have hrow := Kd.own_of_R ho0
  rcases hrow.2 with ⟨hnil, hz⟩ | ⟨g, cap, cur, rfl, hbase, hb, h1, h2, h3, h4⟩
  · have hl : l0 = [] := List.eq_nil_of_length_eq_zero hz
    subst hl
    subst hnil
    refine (Tryd.slices_Compact_string_empty none 0 w).mono ?_
    rintro e w' ⟨rfl, rfl⟩
    exact ⟨_, rfl, by rw [show compB [] = [] by rfl]; exact Kd.R_nil _ _ _ _ _, hB, Kept.refl _ _⟩
  · rw [Nat.mul_one, encs_enc] at h4
    have hH : Holds encStr w g 0 (l0.map toL).toArray := Go.holds_of_block hb (by rw [List.length_map]; exact h4)
    have hc := Tryd.slices_Compact_string g 0 cap (l0.map toL) w hH (by rw [List.length_map]; omega) (by rw [List.length_map]; exact h1)
    rw [List.length_map] at hc
    refine hc.mono ?_
    rintro e w' ⟨rfl, n, rfl⟩
    have hcl : (Go.Lib.compact (l0.map toL)).length ≤ l0.length := by
      unfold Go.Lib.compact Go.Lib.compactUpTo
      rw [List.length_map]
      refine Nat.le_trans (List.length_filter_le _ _) ?_
      simp
    generalize hcd : Go.Lib.compact (l0.map toL) = cs at hcl ⊢
    have htl : (cs ++ List.replicate (l0.length - cs.length) []).length = l0.length := by simp; omega
    have hb' : (grow (putRow encStr (Sort.ahead w n) g 0 (cs ++ List.replicate (l0.length - cs.length) []).toArray) #[]).heap[g]? = some (.cells (putCells encStr 0 (cs ++ List.replicate (l0.length - cs.length) []).toArray cur) 9 (0, 0)) := Go.heap_sorted _ hb
    have hg := Go.grownBy_sorted (w := w) (g := g) (n := n) (os := #[]) (cs ++ List.replicate (l0.length - cs.length) []).toArray
    rw [grow_empty] at hb' hg
    have he : encs Value.string (compB l0) = cs.map encStr := by
      rw [encs_enc]; simp [compB, hcd, toL, ofL, Function.comp_def]
    have hsl : (compB l0).length = cs.length := by simp [compB, hcd]
    have htk := Go.take_putCells cur (cs ++ List.replicate (l0.length - cs.length) []) (by rw [htl, h3, Nat.mul_one]; exact h1)
    refine ⟨_, rfl, Kd.R_of_own ?_ (fun k hk => .inl (ho0.1 k hk)), hB.grown hg hB.size (fun j hj => by cases hj; exact hbase), ⟨hg.size, fun i hi hn => hg.block i hi (fun e_ => hn (ho0.1 i (by simp [Value.ownBlock]; exact (Option.some.inj e_).symm)))⟩⟩
    rw [he, hsl]
    refine ⟨by simp, .inr ⟨g, cap, _, rfl, hbase, hb', by omega, h2, by simp [putCells, h3], ?_⟩⟩
    rw [Nat.mul_one]
    have h5 := congrArg (List.take cs.length) htk
    rw [List.take_take, htl, Nat.min_eq_left hcl] at h5
    rw [h5, ← List.map_take, List.take_left']
    rfl
end Go.Proofs.YtkbclcecmcdlfaaDoor.PD
