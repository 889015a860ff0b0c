/- Printed by a program of this session out of the translation: plain functions with the answers of the Go functions, and the proofs that they have them. -/
import Derived.Test.YtbmhpnegigccnaaSA
import Derived.Test.YtbmhpnegigccnaaSB
namespace Go.Proofs.Ytbmhpnegigccnaa.PS
open Go.RowKit Go.Proofs.YtbmhpnegigccnaaW.PrintWords Go.Proofs.YtbmhpnegigccnaaW.PrintLast Go.Proofs.YtbmhpnegigccnaaW.PrintMore
attribute [local go_sem] max2_int min2_int max_two min_two max_three min_three max_four min_four   -- for this text's walks alone
set_option linter.unusedVariables false
set_option linter.unusedSimpArgs false

/-! ### super_checkEdge: function 28 -/
mutual
def super_checkEdge.j0 : Nat → Int → Int → Int → List (S33) → Bool → List (S36) → List (S33) → Int → Int → Int → Int → Int → Option (Int)
 | 0, _, _, _, _, _, _, _, _, _, _, _, _ => none
 | k + 1, x1, x4, x6, x9, x35, x210000, x210001, x210002, x212000, x212001, x212002, x212003 => if x35 = true then (if 0 ≤ (-1) then (if (-1) < (x9.length : Int) then (some x4) else (none)) else (none)) else (if x212002 < 1 then (none) else (super_checkEdge.j1 k x1 x4 x6 x9 (decide (x212002 > 5)) x210000 x210001 x210002 x212000 x212001 x212002 x212003))
def super_checkEdge.j1 : Nat → Int → Int → Int → List (S33) → Bool → List (S36) → List (S33) → Int → Int → Int → Int → Int → Option (Int)
 | 0, _, _, _, _, _, _, _, _, _, _, _, _ => none
 | k + 1, x1, x4, x6, x9, x43, x210000, x210001, x210002, x212000, x212001, x212002, x212003 => if x43 = true then (if 0 ≤ (-1) then (if (-1) < (x9.length : Int) then (some x4) else (none)) else (none)) else (if x212002 = 1 then (super_checkEdge.j2 k x1 x4 x6 true x9 x210000 x210001 x210002 x212000 x212001 x212002 x212003) else (super_checkEdge.j2 k x1 x4 x6 (x212002 == 5) x9 x210000 x210001 x210002 x212000 x212001 x212002 x212003))
def super_checkEdge.j2 : Nat → Int → Int → Int → Bool → List (S33) → List (S36) → List (S33) → Int → Int → Int → Int → Int → Option (Int)
 | 0, _, _, _, _, _, _, _, _, _, _, _, _ => none
 | k + 1, x1, x4, x6, x7, x9, x210000, x210001, x210002, x212000, x212001, x212002, x212003 => if x7 = true then (if x212003 = (-1) then (super_checkEdge.j3 k x1 x4 x9 false x210000 x210001 x210002 x212000 x212001 x212002 x212003) else (none)) else (if x212003 < 0 then (none) else (super_checkEdge.j3 k x1 x4 x9 (decide (x212003 ≥ x6)) x210000 x210001 x210002 x212000 x212001 x212002 x212003))
def super_checkEdge.j3 : Nat → Int → Int → List (S33) → Bool → List (S36) → List (S33) → Int → Int → Int → Int → Int → Option (Int)
 | 0, _, _, _, _, _, _, _, _, _, _, _ => none
 | k + 1, x1, x4, x9, x52, x210000, x210001, x210002, x212000, x212001, x212002, x212003 => if x52 = true then (if 0 ≤ (-1) then (if (-1) < (x9.length : Int) then (some x4) else (none)) else (none)) else (if x1 > 0 then (if 0 ≤ (wrap64 (x1 - 1)) then (if (wrap64 (x1 - 1)) < (x210001.length : Int) then ((super_compareEdges.f k ((rd_T33 x210001 (wrap64 (x1 - 1))).f0) ((rd_T33 x210001 (wrap64 (x1 - 1))).f1) ((rd_T33 x210001 (wrap64 (x1 - 1))).f2) ((rd_T33 x210001 (wrap64 (x1 - 1))).f3) x212000 x212001 x212002 x212003).bind fun t216 => (super_checkEdge.j4 k x4 x9 (decide (t216 ≥ 0)) x210000 x210001 x210002 x212000 x212001 x212002 x212003)) else (none)) else (none)) else (super_checkEdge.j4 k x4 x9 false x210000 x210001 x210002 x212000 x212001 x212002 x212003))
def super_checkEdge.j4 : Nat → Int → List (S33) → Bool → List (S36) → List (S33) → Int → Int → Int → Int → Int → Option (Int)
 | 0, _, _, _, _, _, _, _, _, _, _ => none
 | k + 1, x4, x9, x74, x210000, x210001, x210002, x212000, x212001, x212002, x212003 => if x74 = true then (if 0 ≤ (-1) then (if (-1) < (x9.length : Int) then (some x4) else (none)) else (none)) else ((super_fits.f k x210000 x210001 x210002 x212000 x212001 x212002 x212003).bind fun t218 => (if t218 = true then (some 0) else (if 0 ≤ (-1) then (if (-1) < (x9.length : Int) then (some x4) else (none)) else (none))))
end
def super_checkEdge.f (k : Nat) (l0_0 : List (S36)) (l0_1 : List (S33)) (a0_2 : Int) (a1 : Int) : Option (Int) := if 0 ≤ a1 then (if a1 < (l0_1.length : Int) then (if ((rd_T33 l0_1 a1).f0) < 0 then (none) else (if ((rd_T33 l0_1 a1).f0) ≥ (l0_0.length : Int) then (none) else (if ((rd_T33 l0_1 a1).f1) < 0 then (none) else (super_checkEdge.j0 k a1 0 (l0_0.length : Int) l0_1 (decide (((rd_T33 l0_1 a1).f1) ≥ (l0_0.length : Int))) l0_0 l0_1 a0_2 ((rd_T33 l0_1 a1).f0) ((rd_T33 l0_1 a1).f1) ((rd_T33 l0_1 a1).f2) ((rd_T33 l0_1 a1).f3))))) else (none)) else (none)
theorem super_checkEdge.mono_l : ∀ k, (∀ y0 y1 y2 y3 y4 y5 y6 y7 y8 y9 y10 y11, LeO (super_checkEdge.j0 k y0 y1 y2 y3 y4 y5 y6 y7 y8 y9 y10 y11) (super_checkEdge.j0 (k + 1) y0 y1 y2 y3 y4 y5 y6 y7 y8 y9 y10 y11)) ∧ (∀ y0 y1 y2 y3 y4 y5 y6 y7 y8 y9 y10 y11, LeO (super_checkEdge.j1 k y0 y1 y2 y3 y4 y5 y6 y7 y8 y9 y10 y11) (super_checkEdge.j1 (k + 1) y0 y1 y2 y3 y4 y5 y6 y7 y8 y9 y10 y11)) ∧ (∀ y0 y1 y2 y3 y4 y5 y6 y7 y8 y9 y10 y11, LeO (super_checkEdge.j2 k y0 y1 y2 y3 y4 y5 y6 y7 y8 y9 y10 y11) (super_checkEdge.j2 (k + 1) y0 y1 y2 y3 y4 y5 y6 y7 y8 y9 y10 y11)) ∧ (∀ y0 y1 y2 y3 y4 y5 y6 y7 y8 y9 y10, LeO (super_checkEdge.j3 k y0 y1 y2 y3 y4 y5 y6 y7 y8 y9 y10) (super_checkEdge.j3 (k + 1) y0 y1 y2 y3 y4 y5 y6 y7 y8 y9 y10)) ∧ (∀ y0 y1 y2 y3 y4 y5 y6 y7 y8 y9, LeO (super_checkEdge.j4 k y0 y1 y2 y3 y4 y5 y6 y7 y8 y9) (super_checkEdge.j4 (k + 1) y0 y1 y2 y3 y4 y5 y6 y7 y8 y9))
 | 0 => ⟨fun _ _ _ _ _ _ _ _ _ _ _ _ r h => by simp [super_checkEdge.j0] at h, fun _ _ _ _ _ _ _ _ _ _ _ _ r h => by simp [super_checkEdge.j1] at h, fun _ _ _ _ _ _ _ _ _ _ _ _ r h => by simp [super_checkEdge.j2] at h, fun _ _ _ _ _ _ _ _ _ _ _ r h => by simp [super_checkEdge.j3] at h, fun _ _ _ _ _ _ _ _ _ _ r h => by simp [super_checkEdge.j4] at h⟩
 | k + 1 => by
  obtain ⟨ih0, ih1, ih2, ih3, ih4⟩ := super_checkEdge.mono_l k
  refine ⟨?_, ?_, ?_, ?_, ?_⟩
  ·intro y0 y1 y2 y3 y4 y5 y6 y7 y8 y9 y10 y11
   unfold super_checkEdge.j0
   repeat' first
   | (with_reducible exact ih0 _ _ _ _ _ _ _ _ _ _ _ _)
   | (with_reducible exact ih1 _ _ _ _ _ _ _ _ _ _ _ _)
   | (with_reducible exact ih2 _ _ _ _ _ _ _ _ _ _ _ _)
   | (with_reducible exact ih3 _ _ _ _ _ _ _ _ _ _ _)
   | (with_reducible exact ih4 _ _ _ _ _ _ _ _ _ _)
   | (with_reducible exact super_compareEdges.mono _ _ _ _ _ _ _ _ _)
   | (with_reducible exact super_fits.mono _ _ _ _ _ _ _ _)
   | (with_reducible exact LeO.refl _)
   | (with_reducible exact LeO.none _)
   | (with_reducible refine LeO.ite ?_ ?_)
   | (with_reducible refine LeO.bind ?_ (fun _ => ?_))
   | exact ih0 _ _ _ _ _ _ _ _ _ _ _ _
   | exact ih1 _ _ _ _ _ _ _ _ _ _ _ _
   | exact ih2 _ _ _ _ _ _ _ _ _ _ _ _
   | exact ih3 _ _ _ _ _ _ _ _ _ _ _
   | exact ih4 _ _ _ _ _ _ _ _ _ _
   | exact super_compareEdges.mono _ _ _ _ _ _ _ _ _
   | exact super_fits.mono _ _ _ _ _ _ _ _
   | exact LeO.none _
   | refine LeO.ite ?_ ?_
   | refine LeO.bind ?_ (fun _ => ?_)
  ·intro y0 y1 y2 y3 y4 y5 y6 y7 y8 y9 y10 y11
   unfold super_checkEdge.j1
   repeat' first
   | (with_reducible exact ih0 _ _ _ _ _ _ _ _ _ _ _ _)
   | (with_reducible exact ih1 _ _ _ _ _ _ _ _ _ _ _ _)
   | (with_reducible exact ih2 _ _ _ _ _ _ _ _ _ _ _ _)
   | (with_reducible exact ih3 _ _ _ _ _ _ _ _ _ _ _)
   | (with_reducible exact ih4 _ _ _ _ _ _ _ _ _ _)
   | (with_reducible exact super_compareEdges.mono _ _ _ _ _ _ _ _ _)
   | (with_reducible exact super_fits.mono _ _ _ _ _ _ _ _)
   | (with_reducible exact LeO.refl _)
   | (with_reducible exact LeO.none _)
   | (with_reducible refine LeO.ite ?_ ?_)
   | (with_reducible refine LeO.bind ?_ (fun _ => ?_))
   | exact ih0 _ _ _ _ _ _ _ _ _ _ _ _
   | exact ih1 _ _ _ _ _ _ _ _ _ _ _ _
   | exact ih2 _ _ _ _ _ _ _ _ _ _ _ _
   | exact ih3 _ _ _ _ _ _ _ _ _ _ _
   | exact ih4 _ _ _ _ _ _ _ _ _ _
   | exact super_compareEdges.mono _ _ _ _ _ _ _ _ _
   | exact super_fits.mono _ _ _ _ _ _ _ _
   | exact LeO.none _
   | refine LeO.ite ?_ ?_
   | refine LeO.bind ?_ (fun _ => ?_)
  ·intro y0 y1 y2 y3 y4 y5 y6 y7 y8 y9 y10 y11
   unfold super_checkEdge.j2
   repeat' first
   | (with_reducible exact ih0 _ _ _ _ _ _ _ _ _ _ _ _)
   | (with_reducible exact ih1 _ _ _ _ _ _ _ _ _ _ _ _)
   | (with_reducible exact ih2 _ _ _ _ _ _ _ _ _ _ _ _)
   | (with_reducible exact ih3 _ _ _ _ _ _ _ _ _ _ _)
   | (with_reducible exact ih4 _ _ _ _ _ _ _ _ _ _)
   | (with_reducible exact super_compareEdges.mono _ _ _ _ _ _ _ _ _)
   | (with_reducible exact super_fits.mono _ _ _ _ _ _ _ _)
   | (with_reducible exact LeO.refl _)
   | (with_reducible exact LeO.none _)
   | (with_reducible refine LeO.ite ?_ ?_)
   | (with_reducible refine LeO.bind ?_ (fun _ => ?_))
   | exact ih0 _ _ _ _ _ _ _ _ _ _ _ _
   | exact ih1 _ _ _ _ _ _ _ _ _ _ _ _
   | exact ih2 _ _ _ _ _ _ _ _ _ _ _ _
   | exact ih3 _ _ _ _ _ _ _ _ _ _ _
   | exact ih4 _ _ _ _ _ _ _ _ _ _
   | exact super_compareEdges.mono _ _ _ _ _ _ _ _ _
   | exact super_fits.mono _ _ _ _ _ _ _ _
   | exact LeO.none _
   | refine LeO.ite ?_ ?_
   | refine LeO.bind ?_ (fun _ => ?_)
  ·intro y0 y1 y2 y3 y4 y5 y6 y7 y8 y9 y10
   unfold super_checkEdge.j3
   repeat' first
   | (with_reducible exact ih0 _ _ _ _ _ _ _ _ _ _ _ _)
   | (with_reducible exact ih1 _ _ _ _ _ _ _ _ _ _ _ _)
   | (with_reducible exact ih2 _ _ _ _ _ _ _ _ _ _ _ _)
   | (with_reducible exact ih3 _ _ _ _ _ _ _ _ _ _ _)
   | (with_reducible exact ih4 _ _ _ _ _ _ _ _ _ _)
   | (with_reducible exact super_compareEdges.mono _ _ _ _ _ _ _ _ _)
   | (with_reducible exact super_fits.mono _ _ _ _ _ _ _ _)
   | (with_reducible exact LeO.refl _)
   | (with_reducible exact LeO.none _)
   | (with_reducible refine LeO.ite ?_ ?_)
   | (with_reducible refine LeO.bind ?_ (fun _ => ?_))
   | exact ih0 _ _ _ _ _ _ _ _ _ _ _ _
   | exact ih1 _ _ _ _ _ _ _ _ _ _ _ _
   | exact ih2 _ _ _ _ _ _ _ _ _ _ _ _
   | exact ih3 _ _ _ _ _ _ _ _ _ _ _
   | exact ih4 _ _ _ _ _ _ _ _ _ _
   | exact super_compareEdges.mono _ _ _ _ _ _ _ _ _
   | exact super_fits.mono _ _ _ _ _ _ _ _
   | exact LeO.none _
   | refine LeO.ite ?_ ?_
   | refine LeO.bind ?_ (fun _ => ?_)
  ·intro y0 y1 y2 y3 y4 y5 y6 y7 y8 y9
   unfold super_checkEdge.j4
   repeat' first
   | (with_reducible exact ih0 _ _ _ _ _ _ _ _ _ _ _ _)
   | (with_reducible exact ih1 _ _ _ _ _ _ _ _ _ _ _ _)
   | (with_reducible exact ih2 _ _ _ _ _ _ _ _ _ _ _ _)
   | (with_reducible exact ih3 _ _ _ _ _ _ _ _ _ _ _)
   | (with_reducible exact ih4 _ _ _ _ _ _ _ _ _ _)
   | (with_reducible exact super_compareEdges.mono _ _ _ _ _ _ _ _ _)
   | (with_reducible exact super_fits.mono _ _ _ _ _ _ _ _)
   | (with_reducible exact LeO.refl _)
   | (with_reducible exact LeO.none _)
   | (with_reducible refine LeO.ite ?_ ?_)
   | (with_reducible refine LeO.bind ?_ (fun _ => ?_))
   | exact ih0 _ _ _ _ _ _ _ _ _ _ _ _
   | exact ih1 _ _ _ _ _ _ _ _ _ _ _ _
   | exact ih2 _ _ _ _ _ _ _ _ _ _ _ _
   | exact ih3 _ _ _ _ _ _ _ _ _ _ _
   | exact ih4 _ _ _ _ _ _ _ _ _ _
   | exact super_compareEdges.mono _ _ _ _ _ _ _ _ _
   | exact super_fits.mono _ _ _ _ _ _ _ _
   | exact LeO.none _
   | refine LeO.ite ?_ ?_
   | refine LeO.bind ?_ (fun _ => ?_)
theorem super_checkEdge.mono : ∀ a0 a1 a2 a3 k, LeO (super_checkEdge.f k a0 a1 a2 a3) (super_checkEdge.f (k + 1) a0 a1 a2 a3) := by
 intro a0 a1 a2 a3 k
 obtain ⟨ih0, ih1, ih2, ih3, ih4⟩ := super_checkEdge.mono_l k
 unfold super_checkEdge.f
 repeat' first
   | (with_reducible exact ih0 _ _ _ _ _ _ _ _ _ _ _ _)
   | (with_reducible exact ih1 _ _ _ _ _ _ _ _ _ _ _ _)
   | (with_reducible exact ih2 _ _ _ _ _ _ _ _ _ _ _ _)
   | (with_reducible exact ih3 _ _ _ _ _ _ _ _ _ _ _)
   | (with_reducible exact ih4 _ _ _ _ _ _ _ _ _ _)
   | (with_reducible exact super_compareEdges.mono _ _ _ _ _ _ _ _ _)
   | (with_reducible exact super_fits.mono _ _ _ _ _ _ _ _)
   | (with_reducible exact LeO.refl _)
   | (with_reducible exact LeO.none _)
   | (with_reducible refine LeO.ite ?_ ?_)
   | (with_reducible refine LeO.bind ?_ (fun _ => ?_))
   | exact ih0 _ _ _ _ _ _ _ _ _ _ _ _
   | exact ih1 _ _ _ _ _ _ _ _ _ _ _ _
   | exact ih2 _ _ _ _ _ _ _ _ _ _ _ _
   | exact ih3 _ _ _ _ _ _ _ _ _ _ _
   | exact ih4 _ _ _ _ _ _ _ _ _ _
   | exact super_compareEdges.mono _ _ _ _ _ _ _ _ _
   | exact super_fits.mono _ _ _ _ _ _ _ _
   | exact LeO.none _
   | refine LeO.ite ?_ ?_
   | refine LeO.bind ?_ (fun _ => ?_)
def super_checkEdge.T10 : Bool × List (List Nat × List Nat) := (true, [([], []), ([0], [0]), ([1], [1]), ([2], [2]), ([3, 2], [2, 3]), ([2], [2]), ([5, 2], [2, 5]), ([4, 6, 2], [2, 4, 6]), ([7, 2], [2, 7]), ([2], [2]), ([8, 9, 2, 2], [2, 8, 9]), ([10, 2], [2, 10]), ([2, 11], [2, 11]), ([12, 10], [12])])
def super_checkEdge.B10 : List Nat := [0, 1, 3, 7, 15, 7, 39, 127, 255, 7, 1023, 2047, 4095, 8191]
theorem super_checkEdge.tab10 : rtab .any (opsOf Try.f28 10) = super_checkEdge.T10 := by kernel_rfl
theorem super_checkEdge.bits10 : waitsOk super_checkEdge.T10.2 super_checkEdge.B10 = true := by kernel_rfl
set_option maxHeartbeats 8000000 in
set_option maxRecDepth 100000 in
theorem super_checkEdge.calls (k : Nat) (A0_0 : Option Addr) (c0_0 : Nat) (l0_0 : List (S36)) (A0_1 : Option Addr) (c0_1 : Nat) (l0_1 : List (S33)) (a0_2 : Int) (a1 : Int) (r : Int) (w : World) (hr0_0 : Kd.C k36 w A0_0 l0_0.length l0_0) (hc0_0 : l0_0.length ≤ c0_0) (hr0_1 : Kd.C k33 w A0_1 l0_1.length l0_1) (hc0_1 : l0_1.length ≤ c0_1) (h : super_checkEdge.f k l0_0 l0_1 a0_2 a1 = some r) :
  Calls Try.prog 28 #[.agg #[.slice A0_0 l0_0.length c0_0, .slice A0_1 l0_1.length c0_1, .int .i64 a0_2], .int .i64 a1] w fun e w' => e = .returned (.int .i64 r) ∧ Below w.heap.size w w' := by
 have hu25 := Try.underlying25
 have hu33 := Try.underlying33
 have HR0_0 := Aside0.mk hr0_0
 have HC0_0 := Aside0.mk hc0_0
 clear hr0_0 hc0_0
 have HR0_1 := Aside0.mk hr0_1
 have HC0_1 := Aside0.mk hc0_1
 clear hr0_1 hc0_1
 have HB := Aside0.mk (Below.refl w.heap.size w)
 have H : (if 0 ≤ a1 then (if a1 < (l0_1.length : Int) then (if ((rd_T33 l0_1 a1).f0) < 0 then (none) else (if ((rd_T33 l0_1 a1).f0) ≥ (l0_0.length : Int) then (none) else (if ((rd_T33 l0_1 a1).f1) < 0 then (none) else (super_checkEdge.j0 k a1 0 (l0_0.length : Int) l0_1 (decide (((rd_T33 l0_1 a1).f1) ≥ (l0_0.length : Int))) l0_0 l0_1 a0_2 ((rd_T33 l0_1 a1).f0) ((rd_T33 l0_1 a1).f1) ((rd_T33 l0_1 a1).f2) ((rd_T33 l0_1 a1).f3))))) else (none)) else (none)) = some r := h
 clear h
 by_cases c3 : 0 ≤ a1
 ·rw [if_pos c3] at H
  have c3b0 : decide (0 ≤ a1) = true := decide_eq_true c3
  clear c3
  by_cases c4 : a1 < (l0_1.length : Int)
  ·rw [if_pos c4] at H
   have c4b0 : decide (a1 < (l0_1.length : Int)) = true := decide_eq_true c4
   clear c4
   have HC5 := Aside0.mk H
   clear H
   go_enter Try.func28, Try.ntmps28
   go_upto_region 3 with (first | ((with_reducible refine gate_dst (N := 2) rfl ?_); refine box_event ?hg (N := 2) ?hd (cs := #[.slice A0_0 l0_0.length c0_0, .slice A0_1 l0_1.length c0_1, .int .i64 a0_2]) (t := 25) ?hr ?_; (case hd => rfl); (case hg => rfl); (case hr => first | (go_simp; done) | (go_simp; rfl)); intro gb209 hg w6 hbox hb; have n0_ := Aside0.mk (below_step (by repeat with_reducible first | exact HB.out | apply below_alloc | apply pw_below_drewN | apply below_drew1) hb); have n1_ := Aside0.mk (hbox); have n2_ := Aside0.mk ((by rw [hg]; exact (below_size (by repeat with_reducible first | exact HB.out | apply below_alloc | apply pw_below_drewN | apply below_drew1)) : w.heap.size ≤ gb209)); have n3_ := Aside0.mk ((by rw [hg]; exact (below_size (by repeat with_reducible first | exact HB.out | apply below_alloc | apply pw_below_drewN | apply below_drew1)) : w.heap.size ≤ gb209)); clear HB; have HB := n0_; have BK209 := n1_; have GW209 := n2_; have GE209 := n3_; clear n0_ n1_ n2_ n3_; clear hb hbox hg; have hcz7_0 : w6.cell? ⟨gb209, 0, none⟩ = some (.slice A0_0 l0_0.length c0_0) := (blk_cell BK209.out 0).trans rfl; have hcz7_1 : w6.cell? ⟨gb209, 1, none⟩ = some (.slice A0_1 l0_1.length c0_1) := (blk_cell BK209.out 1).trans rfl; have hcz7_2 : w6.cell? ⟨gb209, 2, none⟩ = some (.int .i64 a0_2) := (blk_cell BK209.out 2).trans rfl; have hfz7_0 := blk_frozen BK209.out 0; have hfz7_1 := blk_frozen BK209.out 1; have hfz7_2 := blk_frozen BK209.out 2; have p210 : 0 ≤ (a1 : Int) := of_decide_eq_true (by first | (with_reducible assumption) | assumption); have q210 : a1 < (l0_1.length : Int) := of_decide_eq_true (by first | (with_reducible assumption) | assumption); obtain ⟨ad210, e210, hx210_0, hx210_1, hx210_2, hx210_3⟩ := at_T33 HR0_1.out a1 p210 q210; cases e210; replace hx210_0 := (HB.out.cell (World.block_lt_of_cell? w _ hx210_0)).trans hx210_0; replace hx210_1 := (HB.out.cell (World.block_lt_of_cell? w _ hx210_1)).trans hx210_1; replace hx210_2 := (HB.out.cell (World.block_lt_of_cell? w _ hx210_2)).trans hx210_2; replace hx210_3 := (HB.out.cell (World.block_lt_of_cell? w _ hx210_3)).trans hx210_3; replace p210 := eq_true p210; replace q210 := eq_true q210) | ((with_reducible refine gate_dst (N := 5) rfl ?_); refine box_event ?hg (N := 5) ?hd (cs := #[.int .i64 0, .int .i64 0, .int .i64 0, .int .i64 0]) (t := 33) ?hr ?_; (case hd => rfl); (case hg => rfl); (case hr => first | (go_simp; done) | (go_simp; rfl)); intro gb211 hg w8 hbox hb; have n0_ := Aside0.mk (blk_below (g := gb209) (o := .cells #[.slice A0_0 l0_0.length c0_0, .slice (some ad210) l0_1.length c0_1, .int .i64 a0_2] 25 (0, 0)) (by (with_reducible repeat first | apply bn | apply bd | apply ba); exact BK209.out) hb); have n1_ := Aside0.mk (below_step (by repeat with_reducible first | exact HB.out | apply below_alloc | apply pw_below_drewN | apply below_drew1 | refine below_set ?_ GE209.out) hb); have n2_ := Aside0.mk (hbox); have n3_ := Aside0.mk ((by rw [hg]; exact (below_size (by repeat with_reducible first | exact HB.out | apply below_alloc | apply pw_below_drewN | apply below_drew1 | refine below_set ?_ GE209.out)) : w.heap.size ≤ gb211)); have n4_ := Aside0.mk ((by rw [hg]; exact (below_size (by repeat with_reducible first | exact HB.out | apply below_alloc | apply pw_below_drewN | apply below_drew1 | refine below_set ?_ GE209.out)) : w.heap.size ≤ gb211)); have n5_ := Aside0.mk ((by rw [hg]; exact Nat.ne_of_lt (blk_lt (g := gb209) (o := .cells #[.slice A0_0 l0_0.length c0_0, .slice (some ad210) l0_1.length c0_1, .int .i64 a0_2] 25 (0, 0)) (by (with_reducible repeat first | apply bn | apply bd | apply ba); exact BK209.out)) : gb209 ≠ gb211)); have n6_ := Aside0.mk ((by rw [hg]; exact Nat.ne_of_gt (blk_lt (g := gb209) (o := .cells #[.slice A0_0 l0_0.length c0_0, .slice (some ad210) l0_1.length c0_1, .int .i64 a0_2] 25 (0, 0)) (by (with_reducible repeat first | apply bn | apply bd | apply ba); exact BK209.out)) : gb211 ≠ gb209)); clear BK209; clear HB; have BK209 := n0_; have HB := n1_; have BK211 := n2_; have GW211 := n3_; have GE211 := n4_; have NB209_211 := n5_; have NB211_209 := n6_; clear n0_ n1_ n2_ n3_ n4_ n5_ n6_; clear hb hbox hg; have hnb9 := NB211_209.out; have hnc9 := NB209_211.out; have hcz10_0 : w8.cell? ⟨gb211, 0, none⟩ = some (.int .i64 0) := (blk_cell BK211.out 0).trans rfl; have hcz10_1 : w8.cell? ⟨gb211, 1, none⟩ = some (.int .i64 0) := (blk_cell BK211.out 1).trans rfl; have hcz10_2 : w8.cell? ⟨gb211, 2, none⟩ = some (.int .i64 0) := (blk_cell BK211.out 2).trans rfl; have hcz10_3 : w8.cell? ⟨gb211, 3, none⟩ = some (.int .i64 0) := (blk_cell BK211.out 3).trans rfl; have hfz10_0 := blk_frozen BK211.out 0; have hfz10_1 := blk_frozen BK211.out 1; have hfz10_2 := blk_frozen BK211.out 2; have hfz10_3 := blk_frozen BK211.out 3; have hcz11_0 : w8.cell? ⟨gb209, 0, none⟩ = some (.slice A0_0 l0_0.length c0_0) := (blk_cell BK209.out 0).trans rfl; have hcz11_1 : w8.cell? ⟨gb209, 1, none⟩ = some (.slice (some ad210) l0_1.length c0_1) := (blk_cell BK209.out 1).trans rfl; have hcz11_2 : w8.cell? ⟨gb209, 2, none⟩ = some (.int .i64 a0_2) := (blk_cell BK209.out 2).trans rfl; have hfz11_0 := blk_frozen BK209.out 0; have hfz11_1 := blk_frozen BK209.out 1; have hfz11_2 := blk_frozen BK209.out 2))
   (try simp only [Act.put, List.setIfInBounds_toArray, List.set_cons_zero, List.set_cons_succ])
   go_cut [35] (fun v35 wc => ∃ (kq : Nat) (x35_4 : Bool), v35 = .bool x35_4 ∧ Aside0 (super_checkEdge.j0 kq a1 0 (l0_0.length : Int) l0_1 x35_4 l0_0 l0_1 a0_2 ((rd_T33 l0_1 a1).f0) ((rd_T33 l0_1 a1).f1) ((rd_T33 l0_1 a1).f2) ((rd_T33 l0_1 a1).f3) = some r) ∧ Aside0 (kq ≤ k) ∧ Aside0 (wc.heap[gb209]? = some (.cells #[(.slice A0_0 l0_0.length c0_0), (.slice (some ad210) l0_1.length c0_1), .int .i64 a0_2] 25 (0, 0))) ∧ Aside0 (wc.heap[gb211]? = some (.cells #[.int .i64 ((rd_T33 l0_1 a1).f0), .int .i64 ((rd_T33 l0_1 a1).f1), .int .i64 ((rd_T33 l0_1 a1).f2), .int .i64 ((rd_T33 l0_1 a1).f3)] 33 (0, 0))) ∧ Aside0 (Below w.heap.size w wc))
   case first =>
    have H := HC5.out
    clear HC5
    by_cases c12 : ((rd_T33 l0_1 a1).f0) < 0
    ·rw [if_pos c12] at H
     exact absurd H (by simp)
    ·rw [if_neg c12] at H
     have c12b0 : decide (((rd_T33 l0_1 a1).f0) < 0) = false := decide_eq_false c12
     clear c12
     (first | rw [c12b0] | (simp only [i64_w, i32_w]; rw [c12b0]) | skip)
     by_cases c15 : ((rd_T33 l0_1 a1).f0) ≥ (l0_0.length : Int)
     ·rw [if_pos c15] at H
      exact absurd H (by simp)
     ·rw [if_neg c15] at H
      have c15b0 : decide ((l0_0.length : Int) ≤ ((rd_T33 l0_1 a1).f0)) = false := decide_eq_false c15
      clear c15
      by_cases c18 : ((rd_T33 l0_1 a1).f1) < 0
      ·rw [if_pos c18] at H
       exact absurd H (by simp)
      ·rw [if_neg c18] at H
       have c18b0 : decide (((rd_T33 l0_1 a1).f1) < 0) = false := decide_eq_false c18
       clear c18
       have H' := Aside0.mk H
       clear H
       have hnb21 := NB211_209.out
       have hnc21 := NB209_211.out
       have hcz22_0 : w8.cell? ⟨gb211, 0, none⟩ = some (.int .i64 0) := (blk_cell BK211.out 0).trans rfl
       have hcz22_1 : w8.cell? ⟨gb211, 1, none⟩ = some (.int .i64 0) := (blk_cell BK211.out 1).trans rfl
       have hcz22_2 : w8.cell? ⟨gb211, 2, none⟩ = some (.int .i64 0) := (blk_cell BK211.out 2).trans rfl
       have hcz22_3 : w8.cell? ⟨gb211, 3, none⟩ = some (.int .i64 0) := (blk_cell BK211.out 3).trans rfl
       have hfz22_0 := blk_frozen BK211.out 0
       have hfz22_1 := blk_frozen BK211.out 1
       have hfz22_2 := blk_frozen BK211.out 2
       have hfz22_3 := blk_frozen BK211.out 3
       go_wp2
       go_meet
       case rel => exact ⟨_, (decide (((rd_T33 l0_1 a1).f1) ≥ (l0_0.length : Int))), (by first | rfl | (simp; done) | (simp [*]; done)), H', ⟨by first | omega | exact Nat.le_refl _⟩, ⟨by (with_reducible repeat first | apply bn | apply bd | apply ba); refine blk_far ?_ NB209_211.out _; refine blk_far ?_ NB209_211.out _; refine blk_far ?_ NB209_211.out _; refine blk_far ?_ NB209_211.out _; (with_reducible repeat first | apply bn | apply bd | apply ba); exact BK209.out⟩, ⟨by (with_reducible repeat first | apply bn | apply bd | apply ba); refine blk_put (cs := #[.int .i64 ((rd_T33 l0_1 a1).f0), .int .i64 ((rd_T33 l0_1 a1).f1), .int .i64 ((rd_T33 l0_1 a1).f2), .int .i64 0]) ?_ 3 _ rfl; refine blk_put (cs := #[.int .i64 ((rd_T33 l0_1 a1).f0), .int .i64 ((rd_T33 l0_1 a1).f1), .int .i64 0, .int .i64 0]) ?_ 2 _ rfl; refine blk_put (cs := #[.int .i64 ((rd_T33 l0_1 a1).f0), .int .i64 0, .int .i64 0, .int .i64 0]) ?_ 1 _ rfl; refine blk_put (cs := #[.int .i64 0, .int .i64 0, .int .i64 0, .int .i64 0]) ?_ 0 _ rfl; (with_reducible repeat first | apply bn | apply bd | apply ba); exact BK211.out⟩, ⟨by repeat with_reducible first | exact HB.out | apply below_alloc | apply pw_below_drewN | apply below_drew1 | refine below_set ?_ GE209.out | refine below_set ?_ GE211.out⟩⟩
   case rest =>
    clear HC5
    (try clear c1);(try clear c2);(try clear p2);(try clear q2);(try clear hx2);(try clear c3);(try clear c3b0);(try clear c4);(try clear c4b0);(try clear c9);(try clear c12);(try clear c12b0);(try clear c13);(try clear c15);(try clear c15b0);(try clear c16);(try clear c18);(try clear c18b0);(try clear c19);(try clear c21);(try clear p21);(try clear q21);(try clear hx21);(try clear hcz10_0);(try clear hcz10_1);(try clear hcz10_2);(try clear hcz10_3);(try clear hcz11_0);(try clear hcz11_1);(try clear hcz11_2);(try clear hcz14_0);(try clear hcz14_1);(try clear hcz14_2);(try clear hcz14_3);(try clear hcz17_0);(try clear hcz17_1);(try clear hcz17_2);(try clear hcz17_3);(try clear hcz20_0);(try clear hcz20_1);(try clear hcz20_2);(try clear hcz20_3);(try clear hcz22_0);(try clear hcz22_1);(try clear hcz22_2);(try clear hcz22_3);(try clear hcz7_0);(try clear hcz7_1);(try clear hcz7_2);(try clear hfz10_0);(try clear hfz10_1);(try clear hfz10_2);(try clear hfz10_3);(try clear hfz11_0);(try clear hfz11_1);(try clear hfz11_2);(try clear hfz14_0);(try clear hfz14_1);(try clear hfz14_2);(try clear hfz14_3);(try clear hfz17_0);(try clear hfz17_1);(try clear hfz17_2);(try clear hfz17_3);(try clear hfz20_0);(try clear hfz20_1);(try clear hfz20_2);(try clear hfz20_3);(try clear hfz22_0);(try clear hfz22_1);(try clear hfz22_2);(try clear hfz22_3);(try clear hfz7_0);(try clear hfz7_1);(try clear hfz7_2);(try clear hx210_0);(try clear hx210_1);(try clear hx210_2);(try clear hx210_3);(try clear p210);(try clear q210)
    obtain ⟨kq, x35_4, rfl, HA, HJ4, BK209, BK211, HB⟩ := hcut
    cases kq with
    | zero => exact absurd HA.out (by simp [super_checkEdge.j0])
    | succ kj4 =>
     have H := HA.out
     clear HA
     simp only [super_checkEdge.j0] at H
     by_cases c23 : x35_4 = true
     ·subst c23
      have H1 : (if 0 ≤ (-1) then (if (-1) < (l0_1.length : Int) then (some 0) else (none)) else (none)) = some r := by rw [if_pos rfl] at H; exact H
      clear H
      have H := H1
      clear H1
      by_cases c24 : 0 ≤ (-1)
      ·exact absurd c24 (by decide)
      ·rw [if_neg c24] at H
       exact absurd H (by simp)
     ·replace c23 := Bool.eq_false_iff.mpr c23
      subst c23
      have H1 : (if ((rd_T33 l0_1 a1).f2) < 1 then (none) else (super_checkEdge.j1 kj4 a1 0 (l0_0.length : Int) l0_1 (decide (((rd_T33 l0_1 a1).f2) > 5)) l0_0 l0_1 a0_2 ((rd_T33 l0_1 a1).f0) ((rd_T33 l0_1 a1).f1) ((rd_T33 l0_1 a1).f2) ((rd_T33 l0_1 a1).f3))) = some r := by rw [if_neg (show ¬ (false = true) by decide)] at H; exact H
      clear H
      have H := H1
      clear H1
      have HC26 := Aside0.mk H
      clear H
      go_upto_region 5 with (fail)
      go_cut [43] (fun v43 wc => ∃ (kq : Nat) (x43_25 : Bool), v43 = .bool x43_25 ∧ Aside0 (super_checkEdge.j1 kq a1 0 (l0_0.length : Int) l0_1 x43_25 l0_0 l0_1 a0_2 ((rd_T33 l0_1 a1).f0) ((rd_T33 l0_1 a1).f1) ((rd_T33 l0_1 a1).f2) ((rd_T33 l0_1 a1).f3) = some r) ∧ Aside0 (kq ≤ kj4) ∧ Aside0 (wc.heap[gb209]? = some (.cells #[(.slice A0_0 l0_0.length c0_0), (.slice (some ad210) l0_1.length c0_1), .int .i64 a0_2] 25 (0, 0))) ∧ Aside0 (wc.heap[gb211]? = some (.cells #[.int .i64 ((rd_T33 l0_1 a1).f0), .int .i64 ((rd_T33 l0_1 a1).f1), .int .i64 ((rd_T33 l0_1 a1).f2), .int .i64 ((rd_T33 l0_1 a1).f3)] 33 (0, 0))) ∧ Aside0 (Below w.heap.size w wc))
      case first =>
       have H := HC26.out
       clear HC26
       by_cases c27 : ((rd_T33 l0_1 a1).f2) < 1
       ·rw [if_pos c27] at H
        exact absurd H (by simp)
       ·rw [if_neg c27] at H
        have c27b0 : decide (((rd_T33 l0_1 a1).f2) < 1) = false := decide_eq_false c27
        clear c27
        (first | rw [c27b0] | (simp only [i64_w, i32_w]; rw [c27b0]) | skip)
        have H' := Aside0.mk H
        clear H
        have hnb30 := NB211_209.out
        have hnc30 := NB209_211.out
        have hcz31_0 : wc.cell? ⟨gb211, 0, none⟩ = some (.int .i64 ((rd_T33 l0_1 a1).f0)) := (blk_cell BK211.out 0).trans rfl
        have hcz31_1 : wc.cell? ⟨gb211, 1, none⟩ = some (.int .i64 ((rd_T33 l0_1 a1).f1)) := (blk_cell BK211.out 1).trans rfl
        have hcz31_2 : wc.cell? ⟨gb211, 2, none⟩ = some (.int .i64 ((rd_T33 l0_1 a1).f2)) := (blk_cell BK211.out 2).trans rfl
        have hcz31_3 : wc.cell? ⟨gb211, 3, none⟩ = some (.int .i64 ((rd_T33 l0_1 a1).f3)) := (blk_cell BK211.out 3).trans rfl
        have hfz31_0 := blk_frozen BK211.out 0
        have hfz31_1 := blk_frozen BK211.out 1
        have hfz31_2 := blk_frozen BK211.out 2
        have hfz31_3 := blk_frozen BK211.out 3
        go_wp2
        go_meet
        case rel => exact ⟨_, (decide (((rd_T33 l0_1 a1).f2) > 5)), (by first | rfl | (simp; done) | (simp [*]; done)), H', ⟨by have := HJ4.out; first | omega | exact Nat.le_refl _⟩, ⟨by (with_reducible repeat first | apply bn | apply bd | apply ba); exact BK209.out⟩, ⟨by (with_reducible repeat first | apply bn | apply bd | apply ba); exact BK211.out⟩, ⟨by repeat with_reducible first | exact HB.out | apply below_alloc | apply pw_below_drewN | apply below_drew1 | refine below_set ?_ GE209.out | refine below_set ?_ GE211.out⟩⟩
      case rest =>
       clear HC26
       (try clear c1);(try clear c2);(try clear p2);(try clear q2);(try clear hx2);(try clear c3);(try clear c3b0);(try clear c4);(try clear c4b0);(try clear c9);(try clear c12);(try clear c12b0);(try clear c13);(try clear c15);(try clear c15b0);(try clear c16);(try clear c18);(try clear c18b0);(try clear c19);(try clear c21);(try clear p21);(try clear q21);(try clear hx21);(try clear c23);(try clear c24);(try clear c24b0);(try clear c25);(try clear c25b0);(try clear c27);(try clear c27b0);(try clear c28);(try clear c30);(try clear hcz10_0);(try clear hcz10_1);(try clear hcz10_2);(try clear hcz10_3);(try clear hcz11_0);(try clear hcz11_1);(try clear hcz11_2);(try clear hcz14_0);(try clear hcz14_1);(try clear hcz14_2);(try clear hcz14_3);(try clear hcz17_0);(try clear hcz17_1);(try clear hcz17_2);(try clear hcz17_3);(try clear hcz20_0);(try clear hcz20_1);(try clear hcz20_2);(try clear hcz20_3);(try clear hcz22_0);(try clear hcz22_1);(try clear hcz22_2);(try clear hcz22_3);(try clear hcz29_0);(try clear hcz29_1);(try clear hcz29_2);(try clear hcz29_3);(try clear hcz31_0);(try clear hcz31_1);(try clear hcz31_2);(try clear hcz31_3);(try clear hcz7_0);(try clear hcz7_1);(try clear hcz7_2);(try clear hfz10_0);(try clear hfz10_1);(try clear hfz10_2);(try clear hfz10_3);(try clear hfz11_0);(try clear hfz11_1);(try clear hfz11_2);(try clear hfz14_0);(try clear hfz14_1);(try clear hfz14_2);(try clear hfz14_3);(try clear hfz17_0);(try clear hfz17_1);(try clear hfz17_2);(try clear hfz17_3);(try clear hfz20_0);(try clear hfz20_1);(try clear hfz20_2);(try clear hfz20_3);(try clear hfz22_0);(try clear hfz22_1);(try clear hfz22_2);(try clear hfz22_3);(try clear hfz29_0);(try clear hfz29_1);(try clear hfz29_2);(try clear hfz29_3);(try clear hfz31_0);(try clear hfz31_1);(try clear hfz31_2);(try clear hfz31_3);(try clear hfz7_0);(try clear hfz7_1);(try clear hfz7_2);(try clear hx210_0);(try clear hx210_1);(try clear hx210_2);(try clear hx210_3);(try clear hx212_0);(try clear hx212_1);(try clear hx212_2);(try clear hx212_3);(try clear p2);(try clear p21);(try clear p210);(try clear p212);(try clear q2);(try clear q21);(try clear q210);(try clear q212)
       obtain ⟨kq, x43_25, rfl, HA, HJ25, BK209, BK211, HB⟩ := hcut
       cases kq with
       | zero => exact absurd HA.out (by simp [super_checkEdge.j1])
       | succ kj25 =>
        have H := HA.out
        clear HA
        simp only [super_checkEdge.j1] at H
        by_cases c32 : x43_25 = true
        ·subst c32
         have H1 : (if 0 ≤ (-1) then (if (-1) < (l0_1.length : Int) then (some 0) else (none)) else (none)) = some r := by rw [if_pos rfl] at H; exact H
         clear H
         have H := H1
         clear H1
         by_cases c33 : 0 ≤ (-1)
         ·exact absurd c33 (by decide)
         ·rw [if_neg c33] at H
          exact absurd H (by simp)
        ·replace c32 := Bool.eq_false_iff.mpr c32
         subst c32
         have H1 : (if ((rd_T33 l0_1 a1).f2) = 1 then (super_checkEdge.j2 kj25 a1 0 (l0_0.length : Int) true l0_1 l0_0 l0_1 a0_2 ((rd_T33 l0_1 a1).f0) ((rd_T33 l0_1 a1).f1) ((rd_T33 l0_1 a1).f2) ((rd_T33 l0_1 a1).f3)) else (super_checkEdge.j2 kj25 a1 0 (l0_0.length : Int) (((rd_T33 l0_1 a1).f2) == 5) l0_1 l0_0 l0_1 a0_2 ((rd_T33 l0_1 a1).f0) ((rd_T33 l0_1 a1).f1) ((rd_T33 l0_1 a1).f2) ((rd_T33 l0_1 a1).f3))) = some r := by rw [if_neg (show ¬ (false = true) by decide)] at H; exact H
         clear H
         have H := H1
         clear H1
         have HC35 := Aside0.mk H
         clear H
         go_upto_region 7 with (fail)
         go_cut [7] (fun v7 wc => ∃ (kq : Nat) (x7_34 : Bool), v7 = .bool x7_34 ∧ Aside0 (super_checkEdge.j2 kq a1 0 (l0_0.length : Int) x7_34 l0_1 l0_0 l0_1 a0_2 ((rd_T33 l0_1 a1).f0) ((rd_T33 l0_1 a1).f1) ((rd_T33 l0_1 a1).f2) ((rd_T33 l0_1 a1).f3) = some r) ∧ Aside0 (kq ≤ kj25) ∧ Aside0 (wc.heap[gb209]? = some (.cells #[(.slice A0_0 l0_0.length c0_0), (.slice (some ad210) l0_1.length c0_1), .int .i64 a0_2] 25 (0, 0))) ∧ Aside0 (wc.heap[gb211]? = some (.cells #[.int .i64 ((rd_T33 l0_1 a1).f0), .int .i64 ((rd_T33 l0_1 a1).f1), .int .i64 ((rd_T33 l0_1 a1).f2), .int .i64 ((rd_T33 l0_1 a1).f3)] 33 (0, 0))) ∧ Aside0 (Below w.heap.size w wc))
         case first =>
          have H := HC35.out
          clear HC35
          by_cases c36 : ((rd_T33 l0_1 a1).f2) = 1
          ·rw [if_pos c36] at H
           have c36b0 : (((rd_T33 l0_1 a1).f2) == 1) = true := beq_iff_eq.mpr c36
           have c36b1 : (((rd_T33 l0_1 a1).f2) != 1) = false := bne_eq_false_iff_eq.mpr c36
           clear c36
           (first | rw [c36b0] | (simp only [i64_w, i32_w]; rw [c36b0]) | skip)
           have H' := Aside0.mk H
           clear H
           have hnb37 := NB211_209.out
           have hnc37 := NB209_211.out
           have hcz38_0 : wc.cell? ⟨gb211, 0, none⟩ = some (.int .i64 ((rd_T33 l0_1 a1).f0)) := (blk_cell BK211.out 0).trans rfl
           have hcz38_1 : wc.cell? ⟨gb211, 1, none⟩ = some (.int .i64 ((rd_T33 l0_1 a1).f1)) := (blk_cell BK211.out 1).trans rfl
           have hcz38_2 : wc.cell? ⟨gb211, 2, none⟩ = some (.int .i64 ((rd_T33 l0_1 a1).f2)) := (blk_cell BK211.out 2).trans rfl
           have hcz38_3 : wc.cell? ⟨gb211, 3, none⟩ = some (.int .i64 ((rd_T33 l0_1 a1).f3)) := (blk_cell BK211.out 3).trans rfl
           have hfz38_0 := blk_frozen BK211.out 0
           have hfz38_1 := blk_frozen BK211.out 1
           have hfz38_2 := blk_frozen BK211.out 2
           have hfz38_3 := blk_frozen BK211.out 3
           go_wp2
           go_meet
           case rel => exact ⟨_, (true), (by first | rfl | (simp; done) | (simp [*]; done)), H', ⟨by have := HJ4.out; have := HJ25.out; first | omega | exact Nat.le_refl _⟩, ⟨by (with_reducible repeat first | apply bn | apply bd | apply ba); exact BK209.out⟩, ⟨by (with_reducible repeat first | apply bn | apply bd | apply ba); exact BK211.out⟩, ⟨by repeat with_reducible first | exact HB.out | apply below_alloc | apply pw_below_drewN | apply below_drew1 | refine below_set ?_ GE209.out | refine below_set ?_ GE211.out⟩⟩
          ·rw [if_neg c36] at H
           have c36b0 : (((rd_T33 l0_1 a1).f2) == 1) = false := beq_eq_false_iff_ne.mpr c36
           have c36b1 : (((rd_T33 l0_1 a1).f2) != 1) = true := bne_iff_ne.mpr c36
           (first | rw [c36b0] | (simp only [i64_w, i32_w]; rw [c36b0]) | skip)
           have H' := Aside0.mk H
           clear H
           have hnb39 := NB211_209.out
           have hnc39 := NB209_211.out
           have hcz40_0 : wc.cell? ⟨gb211, 0, none⟩ = some (.int .i64 ((rd_T33 l0_1 a1).f0)) := (blk_cell BK211.out 0).trans rfl
           have hcz40_1 : wc.cell? ⟨gb211, 1, none⟩ = some (.int .i64 ((rd_T33 l0_1 a1).f1)) := (blk_cell BK211.out 1).trans rfl
           have hcz40_2 : wc.cell? ⟨gb211, 2, none⟩ = some (.int .i64 ((rd_T33 l0_1 a1).f2)) := (blk_cell BK211.out 2).trans rfl
           have hcz40_3 : wc.cell? ⟨gb211, 3, none⟩ = some (.int .i64 ((rd_T33 l0_1 a1).f3)) := (blk_cell BK211.out 3).trans rfl
           have hfz40_0 := blk_frozen BK211.out 0
           have hfz40_1 := blk_frozen BK211.out 1
           have hfz40_2 := blk_frozen BK211.out 2
           have hfz40_3 := blk_frozen BK211.out 3
           go_wp2
           go_meet
           case rel => exact ⟨_, ((((rd_T33 l0_1 a1).f2) == 5)), (by first | rfl | (simp; done) | (simp [*]; done)), H', ⟨by have := HJ4.out; have := HJ25.out; first | omega | exact Nat.le_refl _⟩, ⟨by (with_reducible repeat first | apply bn | apply bd | apply ba); exact BK209.out⟩, ⟨by (with_reducible repeat first | apply bn | apply bd | apply ba); exact BK211.out⟩, ⟨by repeat with_reducible first | exact HB.out | apply below_alloc | apply pw_below_drewN | apply below_drew1 | refine below_set ?_ GE209.out | refine below_set ?_ GE211.out⟩⟩
         case rest =>
          clear HC35
          (try clear c1);(try clear c2);(try clear p2);(try clear q2);(try clear hx2);(try clear c3);(try clear c3b0);(try clear c4);(try clear c4b0);(try clear c9);(try clear c12);(try clear c12b0);(try clear c13);(try clear c15);(try clear c15b0);(try clear c16);(try clear c18);(try clear c18b0);(try clear c19);(try clear c21);(try clear p21);(try clear q21);(try clear hx21);(try clear c23);(try clear c24);(try clear c24b0);(try clear c25);(try clear c25b0);(try clear c27);(try clear c27b0);(try clear c28);(try clear c30);(try clear c32);(try clear c33);(try clear c33b0);(try clear c34);(try clear c34b0);(try clear c36);(try clear c36b0);(try clear c36b1);(try clear c37);(try clear c39);(try clear hcz10_0);(try clear hcz10_1);(try clear hcz10_2);(try clear hcz10_3);(try clear hcz11_0);(try clear hcz11_1);(try clear hcz11_2);(try clear hcz14_0);(try clear hcz14_1);(try clear hcz14_2);(try clear hcz14_3);(try clear hcz17_0);(try clear hcz17_1);(try clear hcz17_2);(try clear hcz17_3);(try clear hcz20_0);(try clear hcz20_1);(try clear hcz20_2);(try clear hcz20_3);(try clear hcz22_0);(try clear hcz22_1);(try clear hcz22_2);(try clear hcz22_3);(try clear hcz29_0);(try clear hcz29_1);(try clear hcz29_2);(try clear hcz29_3);(try clear hcz31_0);(try clear hcz31_1);(try clear hcz31_2);(try clear hcz31_3);(try clear hcz38_0);(try clear hcz38_1);(try clear hcz38_2);(try clear hcz38_3);(try clear hcz40_0);(try clear hcz40_1);(try clear hcz40_2);(try clear hcz40_3);(try clear hcz7_0);(try clear hcz7_1);(try clear hcz7_2);(try clear hfz10_0);(try clear hfz10_1);(try clear hfz10_2);(try clear hfz10_3);(try clear hfz11_0);(try clear hfz11_1);(try clear hfz11_2);(try clear hfz14_0);(try clear hfz14_1);(try clear hfz14_2);(try clear hfz14_3);(try clear hfz17_0);(try clear hfz17_1);(try clear hfz17_2);(try clear hfz17_3);(try clear hfz20_0);(try clear hfz20_1);(try clear hfz20_2);(try clear hfz20_3);(try clear hfz22_0);(try clear hfz22_1);(try clear hfz22_2);(try clear hfz22_3);(try clear hfz29_0);(try clear hfz29_1);(try clear hfz29_2);(try clear hfz29_3);(try clear hfz31_0);(try clear hfz31_1);(try clear hfz31_2);(try clear hfz31_3);(try clear hfz38_0);(try clear hfz38_1);(try clear hfz38_2);(try clear hfz38_3);(try clear hfz40_0);(try clear hfz40_1);(try clear hfz40_2);(try clear hfz40_3);(try clear hfz7_0);(try clear hfz7_1);(try clear hfz7_2);(try clear hx210_0);(try clear hx210_1);(try clear hx210_2);(try clear hx210_3);(try clear hx212_0);(try clear hx212_1);(try clear hx212_2);(try clear hx212_3);(try clear hx213_0);(try clear hx213_1);(try clear hx213_2);(try clear hx213_3);(try clear p2);(try clear p21);(try clear p210);(try clear p212);(try clear p213);(try clear q2);(try clear q21);(try clear q210);(try clear q212);(try clear q213)
          obtain ⟨kq, x7_34, rfl, HA, HJ34, BK209, BK211, HB⟩ := hcut
          cases kq with
          | zero => exact absurd HA.out (by simp [super_checkEdge.j2])
          | succ kj34 =>
           have H := HA.out
           clear HA
           simp only [super_checkEdge.j2] at H
           have HC41 := Aside0.mk H
           clear H
           go_upto_region 8 with (fail)
           go_cut [52] (fun v52 wc => ∃ (kq : Nat) (x52_40 : Bool), v52 = .bool x52_40 ∧ Aside0 (super_checkEdge.j3 kq a1 0 l0_1 x52_40 l0_0 l0_1 a0_2 ((rd_T33 l0_1 a1).f0) ((rd_T33 l0_1 a1).f1) ((rd_T33 l0_1 a1).f2) ((rd_T33 l0_1 a1).f3) = some r) ∧ Aside0 (kq ≤ kj34) ∧ Aside0 (wc.heap[gb209]? = some (.cells #[(.slice A0_0 l0_0.length c0_0), (.slice (some ad210) l0_1.length c0_1), .int .i64 a0_2] 25 (0, 0))) ∧ Aside0 (wc.heap[gb211]? = some (.cells #[.int .i64 ((rd_T33 l0_1 a1).f0), .int .i64 ((rd_T33 l0_1 a1).f1), .int .i64 ((rd_T33 l0_1 a1).f2), .int .i64 ((rd_T33 l0_1 a1).f3)] 33 (0, 0))) ∧ Aside0 (Below w.heap.size w wc))
           case first =>
            have H := HC41.out
            clear HC41
            by_cases c42 : x7_34 = true
            ·subst c42
             have H1 : (if ((rd_T33 l0_1 a1).f3) = (-1) then (super_checkEdge.j3 kj34 a1 0 l0_1 false l0_0 l0_1 a0_2 ((rd_T33 l0_1 a1).f0) ((rd_T33 l0_1 a1).f1) ((rd_T33 l0_1 a1).f2) ((rd_T33 l0_1 a1).f3)) else (none)) = some r := by rw [if_pos rfl] at H; exact H
             clear H
             have H := H1
             clear H1
             by_cases c43 : ((rd_T33 l0_1 a1).f3) = (-1)
             ·rw [if_pos c43] at H
              have c43b0 : (((rd_T33 l0_1 a1).f3) == (-1)) = true := beq_iff_eq.mpr c43
              have c43b1 : (((rd_T33 l0_1 a1).f3) != (-1)) = false := bne_eq_false_iff_eq.mpr c43
              clear c43
              (first | rw [c43b0] | (simp only [i64_w, i32_w]; rw [c43b0]) | skip)
              have H' := Aside0.mk H
              clear H
              have hnb44 := NB211_209.out
              have hnc44 := NB209_211.out
              have hcz45_0 : wc.cell? ⟨gb211, 0, none⟩ = some (.int .i64 ((rd_T33 l0_1 a1).f0)) := (blk_cell BK211.out 0).trans rfl
              have hcz45_1 : wc.cell? ⟨gb211, 1, none⟩ = some (.int .i64 ((rd_T33 l0_1 a1).f1)) := (blk_cell BK211.out 1).trans rfl
              have hcz45_2 : wc.cell? ⟨gb211, 2, none⟩ = some (.int .i64 ((rd_T33 l0_1 a1).f2)) := (blk_cell BK211.out 2).trans rfl
              have hcz45_3 : wc.cell? ⟨gb211, 3, none⟩ = some (.int .i64 ((rd_T33 l0_1 a1).f3)) := (blk_cell BK211.out 3).trans rfl
              have hfz45_0 := blk_frozen BK211.out 0
              have hfz45_1 := blk_frozen BK211.out 1
              have hfz45_2 := blk_frozen BK211.out 2
              have hfz45_3 := blk_frozen BK211.out 3
              go_wp2
              go_meet
              case rel => exact ⟨_, (false), (by first | rfl | (simp; done) | (simp [*]; done)), H', ⟨by have := HJ4.out; have := HJ25.out; have := HJ34.out; first | omega | exact Nat.le_refl _⟩, ⟨by (with_reducible repeat first | apply bn | apply bd | apply ba); exact BK209.out⟩, ⟨by (with_reducible repeat first | apply bn | apply bd | apply ba); exact BK211.out⟩, ⟨by repeat with_reducible first | exact HB.out | apply below_alloc | apply pw_below_drewN | apply below_drew1 | refine below_set ?_ GE209.out | refine below_set ?_ GE211.out⟩⟩
             ·rw [if_neg c43] at H
              exact absurd H (by simp)
            ·replace c42 := Bool.eq_false_iff.mpr c42
             subst c42
             have H1 : (if ((rd_T33 l0_1 a1).f3) < 0 then (none) else (super_checkEdge.j3 kj34 a1 0 l0_1 (decide (((rd_T33 l0_1 a1).f3) ≥ (l0_0.length : Int))) l0_0 l0_1 a0_2 ((rd_T33 l0_1 a1).f0) ((rd_T33 l0_1 a1).f1) ((rd_T33 l0_1 a1).f2) ((rd_T33 l0_1 a1).f3))) = some r := by rw [if_neg (show ¬ (false = true) by decide)] at H; exact H
             clear H
             have H := H1
             clear H1
             by_cases c48 : ((rd_T33 l0_1 a1).f3) < 0
             ·rw [if_pos c48] at H
              exact absurd H (by simp)
             ·rw [if_neg c48] at H
              have c48b0 : decide (((rd_T33 l0_1 a1).f3) < 0) = false := decide_eq_false c48
              clear c48
              have H' := Aside0.mk H
              clear H
              have hnb51 := NB211_209.out
              have hnc51 := NB209_211.out
              have hcz52_0 : wc.cell? ⟨gb211, 0, none⟩ = some (.int .i64 ((rd_T33 l0_1 a1).f0)) := (blk_cell BK211.out 0).trans rfl
              have hcz52_1 : wc.cell? ⟨gb211, 1, none⟩ = some (.int .i64 ((rd_T33 l0_1 a1).f1)) := (blk_cell BK211.out 1).trans rfl
              have hcz52_2 : wc.cell? ⟨gb211, 2, none⟩ = some (.int .i64 ((rd_T33 l0_1 a1).f2)) := (blk_cell BK211.out 2).trans rfl
              have hcz52_3 : wc.cell? ⟨gb211, 3, none⟩ = some (.int .i64 ((rd_T33 l0_1 a1).f3)) := (blk_cell BK211.out 3).trans rfl
              have hfz52_0 := blk_frozen BK211.out 0
              have hfz52_1 := blk_frozen BK211.out 1
              have hfz52_2 := blk_frozen BK211.out 2
              have hfz52_3 := blk_frozen BK211.out 3
              go_wp2
              go_meet
              case rel => exact ⟨_, (decide (((rd_T33 l0_1 a1).f3) ≥ (l0_0.length : Int))), (by first | rfl | (simp; done) | (simp [*]; done)), H', ⟨by have := HJ4.out; have := HJ25.out; have := HJ34.out; first | omega | exact Nat.le_refl _⟩, ⟨by (with_reducible repeat first | apply bn | apply bd | apply ba); exact BK209.out⟩, ⟨by (with_reducible repeat first | apply bn | apply bd | apply ba); exact BK211.out⟩, ⟨by repeat with_reducible first | exact HB.out | apply below_alloc | apply pw_below_drewN | apply below_drew1 | refine below_set ?_ GE209.out | refine below_set ?_ GE211.out⟩⟩
           case rest =>
            clear HC41
            (try clear c1);(try clear c2);(try clear p2);(try clear q2);(try clear hx2);(try clear c3);(try clear c3b0);(try clear c4);(try clear c4b0);(try clear c5);(try clear c9);(try clear c12);(try clear c12b0);(try clear c13);(try clear c15);(try clear c15b0);(try clear c16);(try clear c18);(try clear c18b0);(try clear c19);(try clear c21);(try clear p21);(try clear q21);(try clear hx21);(try clear c23);(try clear c24);(try clear c24b0);(try clear c25);(try clear c25b0);(try clear c27);(try clear c27b0);(try clear c28);(try clear c30);(try clear c32);(try clear c33);(try clear c33b0);(try clear c34);(try clear c34b0);(try clear c36);(try clear c36b0);(try clear c36b1);(try clear c37);(try clear c39);(try clear c42);(try clear c43);(try clear c43b0);(try clear c43b1);(try clear c44);(try clear c46);(try clear c48);(try clear c48b0);(try clear c49);(try clear c51);(try clear hcz10_0);(try clear hcz10_1);(try clear hcz10_2);(try clear hcz10_3);(try clear hcz11_0);(try clear hcz11_1);(try clear hcz11_2);(try clear hcz14_0);(try clear hcz14_1);(try clear hcz14_2);(try clear hcz14_3);(try clear hcz17_0);(try clear hcz17_1);(try clear hcz17_2);(try clear hcz17_3);(try clear hcz20_0);(try clear hcz20_1);(try clear hcz20_2);(try clear hcz20_3);(try clear hcz22_0);(try clear hcz22_1);(try clear hcz22_2);(try clear hcz22_3);(try clear hcz29_0);(try clear hcz29_1);(try clear hcz29_2);(try clear hcz29_3);(try clear hcz31_0);(try clear hcz31_1);(try clear hcz31_2);(try clear hcz31_3);(try clear hcz38_0);(try clear hcz38_1);(try clear hcz38_2);(try clear hcz38_3);(try clear hcz40_0);(try clear hcz40_1);(try clear hcz40_2);(try clear hcz40_3);(try clear hcz45_0);(try clear hcz45_1);(try clear hcz45_2);(try clear hcz45_3);(try clear hcz47_0);(try clear hcz47_1);(try clear hcz47_2);(try clear hcz47_3);(try clear hcz50_0);(try clear hcz50_1);(try clear hcz50_2);(try clear hcz50_3);(try clear hcz52_0);(try clear hcz52_1);(try clear hcz52_2);(try clear hcz52_3);(try clear hcz7_0);(try clear hcz7_1);(try clear hcz7_2);(try clear hfz10_0);(try clear hfz10_1);(try clear hfz10_2);(try clear hfz10_3);(try clear hfz11_0);(try clear hfz11_1);(try clear hfz11_2);(try clear hfz14_0);(try clear hfz14_1);(try clear hfz14_2);(try clear hfz14_3);(try clear hfz17_0);(try clear hfz17_1);(try clear hfz17_2);(try clear hfz17_3);(try clear hfz20_0);(try clear hfz20_1);(try clear hfz20_2);(try clear hfz20_3);(try clear hfz22_0);(try clear hfz22_1);(try clear hfz22_2);(try clear hfz22_3);(try clear hfz29_0);(try clear hfz29_1);(try clear hfz29_2);(try clear hfz29_3);(try clear hfz31_0);(try clear hfz31_1);(try clear hfz31_2);(try clear hfz31_3);(try clear hfz38_0);(try clear hfz38_1);(try clear hfz38_2);(try clear hfz38_3);(try clear hfz40_0);(try clear hfz40_1);(try clear hfz40_2);(try clear hfz40_3);(try clear hfz45_0);(try clear hfz45_1);(try clear hfz45_2);(try clear hfz45_3);(try clear hfz47_0);(try clear hfz47_1);(try clear hfz47_2);(try clear hfz47_3);(try clear hfz50_0);(try clear hfz50_1);(try clear hfz50_2);(try clear hfz50_3);(try clear hfz52_0);(try clear hfz52_1);(try clear hfz52_2);(try clear hfz52_3);(try clear hfz7_0);(try clear hfz7_1);(try clear hfz7_2);(try clear hx210_0);(try clear hx210_1);(try clear hx210_2);(try clear hx210_3);(try clear hx212_0);(try clear hx212_1);(try clear hx212_2);(try clear hx212_3);(try clear hx213_0);(try clear hx213_1);(try clear hx213_2);(try clear hx213_3);(try clear p2);(try clear p21);(try clear p210);(try clear p212);(try clear p213);(try clear q2);(try clear q21);(try clear q210);(try clear q212);(try clear q213)
            obtain ⟨kq, x52_40, rfl, HA, HJ40, BK209, BK211, HB⟩ := hcut
            cases kq with
            | zero => exact absurd HA.out (by simp [super_checkEdge.j3])
            | succ kj40 =>
             have H := HA.out
             clear HA
             simp only [super_checkEdge.j3] at H
             by_cases c53 : x52_40 = true
             ·subst c53
              have H1 : (if 0 ≤ (-1) then (if (-1) < (l0_1.length : Int) then (some 0) else (none)) else (none)) = some r := by rw [if_pos rfl] at H; exact H
              clear H
              have H := H1
              clear H1
              by_cases c54 : 0 ≤ (-1)
              ·exact absurd c54 (by decide)
              ·rw [if_neg c54] at H
               exact absurd H (by simp)
             ·replace c53 := Bool.eq_false_iff.mpr c53
              subst c53
              have H1 : (if a1 > 0 then (if 0 ≤ (wrap64 (a1 - 1)) then (if (wrap64 (a1 - 1)) < (l0_1.length : Int) then ((super_compareEdges.f kj40 ((rd_T33 l0_1 (wrap64 (a1 - 1))).f0) ((rd_T33 l0_1 (wrap64 (a1 - 1))).f1) ((rd_T33 l0_1 (wrap64 (a1 - 1))).f2) ((rd_T33 l0_1 (wrap64 (a1 - 1))).f3) ((rd_T33 l0_1 a1).f0) ((rd_T33 l0_1 a1).f1) ((rd_T33 l0_1 a1).f2) ((rd_T33 l0_1 a1).f3)).bind fun t216 => (super_checkEdge.j4 kj40 0 l0_1 (decide (t216 ≥ 0)) l0_0 l0_1 a0_2 ((rd_T33 l0_1 a1).f0) ((rd_T33 l0_1 a1).f1) ((rd_T33 l0_1 a1).f2) ((rd_T33 l0_1 a1).f3))) else (none)) else (none)) else (super_checkEdge.j4 kj40 0 l0_1 false l0_0 l0_1 a0_2 ((rd_T33 l0_1 a1).f0) ((rd_T33 l0_1 a1).f1) ((rd_T33 l0_1 a1).f2) ((rd_T33 l0_1 a1).f3))) = some r := by rw [if_neg (show ¬ (false = true) by decide)] at H; exact H
              clear H
              have H := H1
              clear H1
              have HC56 := Aside0.mk H
              clear H
              go_upto_region 10 with (fail)
              go_cut [74] (fun v74 wc => ∃ (kq : Nat) (x74_55 : Bool), v74 = .bool x74_55 ∧ Aside0 (super_checkEdge.j4 kq 0 l0_1 x74_55 l0_0 l0_1 a0_2 ((rd_T33 l0_1 a1).f0) ((rd_T33 l0_1 a1).f1) ((rd_T33 l0_1 a1).f2) ((rd_T33 l0_1 a1).f3) = some r) ∧ Aside0 (kq ≤ kj40) ∧ Aside0 (wc.heap[gb209]? = some (.cells #[(.slice A0_0 l0_0.length c0_0), (.slice (some ad210) l0_1.length c0_1), .int .i64 a0_2] 25 (0, 0))) ∧ Aside0 (wc.heap[gb211]? = some (.cells #[.int .i64 ((rd_T33 l0_1 a1).f0), .int .i64 ((rd_T33 l0_1 a1).f1), .int .i64 ((rd_T33 l0_1 a1).f2), .int .i64 ((rd_T33 l0_1 a1).f3)] 33 (0, 0))) ∧ Aside0 (Below w.heap.size w wc))
              case first =>
               have H := HC56.out
               clear HC56
               by_cases c57 : a1 > 0
               ·rw [if_pos c57] at H
                have c57b0 : decide (0 < a1) = true := decide_eq_true c57
                clear c57
                (first | rw [c57b0] | (simp only [i64_w, i32_w]; rw [c57b0]) | skip)
                obtain ⟨ji58, hji58⟩ : ∃ j_ : Int, (wrap64 (a1 - 1)) = j_ := ⟨_, rfl⟩
                replace H : (if 0 ≤ (ji58) then (if (ji58) < (l0_1.length : Int) then ((super_compareEdges.f kj40 ((rd_T33 l0_1 (ji58)).f0) ((rd_T33 l0_1 (ji58)).f1) ((rd_T33 l0_1 (ji58)).f2) ((rd_T33 l0_1 (ji58)).f3) ((rd_T33 l0_1 a1).f0) ((rd_T33 l0_1 a1).f1) ((rd_T33 l0_1 a1).f2) ((rd_T33 l0_1 a1).f3)).bind fun t216 => (super_checkEdge.j4 kj40 0 l0_1 (decide (t216 ≥ 0)) l0_0 l0_1 a0_2 ((rd_T33 l0_1 a1).f0) ((rd_T33 l0_1 a1).f1) ((rd_T33 l0_1 a1).f2) ((rd_T33 l0_1 a1).f3))) else (none)) else (none)) = some r := by first | (rw [hji58] at H; exact H) | (simp only [hji58] at H ⊢; exact H)
                have hji58w : (IntKind.i64.wrap (a1 - 1)) = ji58 := (i64_w _).trans hji58
                by_cases c59 : 0 ≤ (ji58)
                ·rw [if_pos c59] at H
                 have c59b0 : decide (0 ≤ (ji58)) = true := decide_eq_true c59
                 clear c59
                 by_cases c60 : (ji58) < (l0_1.length : Int)
                 ·rw [if_pos c60] at H
                  have c60b0 : decide ((ji58) < (l0_1.length : Int)) = true := decide_eq_true c60
                  clear c60
                  replace H := Option.bind_eq_some_iff.mp H
                  obtain ⟨t216, A610, H⟩ := H
                  replace H : (super_checkEdge.j4 kj40 0 l0_1 (decide (t216 ≥ 0)) l0_0 l0_1 a0_2 ((rd_T33 l0_1 a1).f0) ((rd_T33 l0_1 a1).f1) ((rd_T33 l0_1 a1).f2) ((rd_T33 l0_1 a1).f3)) = some r := H
                  have A61 := Aside0.mk A610
                  clear A610
                  have H' := Aside0.mk H
                  clear H
                  try go_wp2
                  have n0_ := Aside0.mk (blk_drew BK209.out)
                  have n1_ := Aside0.mk (blk_drew BK211.out)
                  have n2_ := Aside0.mk (below_drew1 HB.out)
                  clear BK209
                  clear BK211
                  clear HB
                  have BK209 := n0_
                  have BK211 := n1_
                  have HB := n2_
                  clear n0_ n1_ n2_
                  have p215 : 0 ≤ ((ji58) : Int) := of_decide_eq_true (by first | (with_reducible assumption) | assumption)
                  have q215 : (ji58) < (l0_1.length : Int) := of_decide_eq_true (by first | (with_reducible assumption) | assumption)
                  obtain ⟨ad215, e215, hx215_0, hx215_1, hx215_2, hx215_3⟩ := at_T33 HR0_1.out (ji58) p215 q215
                  have hw215_3 := hx215_3
                  have hw215_2 := hx215_2
                  have hw215_1 := hx215_1
                  have hw215_0 := hx215_0
                  obtain rfl : ad210 = ad215 := (by injection e215)
                  replace hx215_0 := (HB.out.cell (World.block_lt_of_cell? w _ hx215_0)).trans hx215_0
                  replace hx215_1 := (HB.out.cell (World.block_lt_of_cell? w _ hx215_1)).trans hx215_1
                  replace hx215_2 := (HB.out.cell (World.block_lt_of_cell? w _ hx215_2)).trans hx215_2
                  replace hx215_3 := (HB.out.cell (World.block_lt_of_cell? w _ hx215_3)).trans hx215_3
                  replace p215 := eq_true p215
                  replace q215 := eq_true q215
                  refine start_ (n := 14) (S := fun w' => w'.cell? ⟨gb209, 0, none⟩ = some (.slice A0_0 l0_0.length c0_0) ∧ w'.cell? ⟨gb209, 1, none⟩ = some (.slice (some ad210) l0_1.length c0_1) ∧ w'.cell? ⟨gb209, 2, none⟩ = some (.int .i64 a0_2) ∧ w'.cell? ⟨gb211, 0, none⟩ = some (.int .i64 ((rd_T33 l0_1 a1).f0)) ∧ w'.cell? ⟨gb211, 1, none⟩ = some (.int .i64 ((rd_T33 l0_1 a1).f1)) ∧ w'.cell? ⟨gb211, 2, none⟩ = some (.int .i64 ((rd_T33 l0_1 a1).f2)) ∧ w'.cell? ⟨gb211, 3, none⟩ = some (.int .i64 ((rd_T33 l0_1 a1).f3)) ∧ w'.cell? (ad210.add (((ji58)).toNat * 4)) = some (.int .i64 ((rd_T33 l0_1 (ji58)).f0)) ∧ w'.cell? ⟨(ad210.add (((ji58)).toNat * 4)).block, (ad210.add (((ji58)).toNat * 4)).off + 1, none⟩ = some (.int .i64 ((rd_T33 l0_1 (ji58)).f1)) ∧ w'.cell? ⟨(ad210.add (((ji58)).toNat * 4)).block, (ad210.add (((ji58)).toNat * 4)).off + 2, none⟩ = some (.int .i64 ((rd_T33 l0_1 (ji58)).f2)) ∧ w'.cell? ⟨(ad210.add (((ji58)).toNat * 4)).block, (ad210.add (((ji58)).toNat * 4)).off + 3, none⟩ = some (.int .i64 ((rd_T33 l0_1 (ji58)).f3))) (ds := []) #[false, false, false, false, false, false, false, false, false, false, false, false, false, false] (by kernel_rfl) rfl rfl ⟨(blk_cell BK209.out 0).trans rfl, (blk_cell BK209.out 1).trans rfl, (blk_cell BK209.out 2).trans rfl, (blk_cell BK211.out 0).trans rfl, (blk_cell BK211.out 1).trans rfl, (blk_cell BK211.out 2).trans rfl, (blk_cell BK211.out 3).trans rfl, ((HB.out.cell (World.block_lt_of_cell? w _ hw215_0)).trans hw215_0), ((HB.out.cell (World.block_lt_of_cell? w _ hw215_1)).trans hw215_1), ((HB.out.cell (World.block_lt_of_cell? w _ hw215_2)).trans hw215_2), ((HB.out.cell (World.block_lt_of_cell? w _ hw215_3)).trans hw215_3)⟩ (fun hHeld => ?_); refine with_tabW super_checkEdge.tab10 super_checkEdge.bits10 (fun HT_ HW_ => ?_)
                  generalize wc.drew = w62 at BK209 BK211 HB hx215_0 hx215_1 hx215_2 hx215_3 hHeld ⊢
                  refine pure_ (i := 0) (N := some 75) (v := ?_) (a' := ?_) #[true, false, false, false, false, false, false, false, false, false, false, false, false, false] rfl rfl (any_of HT_.out (by kernel_rfl)) (fun _ _ _ h => h) (Or.inl ⟨by rfl, ?_⟩) ?_ ?_
                  rotate_left;focus(intro w';go_simp;with_reducible rfl)
                  rotate_left;focus(simp only [Act.put, List.setIfInBounds_toArray, List.set_cons_zero, List.set_cons_succ, i64_w];rfl)
                  refine pure_ (i := 1) (N := some 76) (v := ?_) (a' := ?_) #[true, true, false, false, false, false, false, false, false, false, false, false, false, false] rfl rfl (any_of HT_.out (by kernel_rfl)) (fun _ _ _ h => h) (Or.inl ⟨by rfl, ?_⟩) ?_ ?_
                  rotate_left;focus(intro w';go_simp;with_reducible rfl)
                  rotate_left;focus(simp only [Act.put, List.setIfInBounds_toArray, List.set_cons_zero, List.set_cons_succ, i64_w];rfl)
                  refine pure_ (i := 2) (N := some 77) (v := ?_) (a' := ?_) #[true, true, true, false, false, false, false, false, false, false, false, false, false, false] rfl rfl (any_of HT_.out (by kernel_rfl)) (fun _ _ _ h => h) (Or.inl ⟨by rfl, ?_⟩) ?_ ?_
                  rotate_left;focus(intro w';go_simp;with_reducible rfl)
                  rotate_left;focus(simp only [Act.put, List.setIfInBounds_toArray, List.set_cons_zero, List.set_cons_succ, i64_w];rfl)
                  refine pure_ (i := 3) (N := some 78) (v := ?_) (a' := ?_) #[true, true, true, true, false, false, false, false, false, false, false, false, false, false] rfl rfl (any_of HT_.out (by kernel_rfl)) (fun _ _ _ h => h) (Or.inl ⟨by rfl, ?_⟩) ?_ ?_
                  rotate_left;focus(intro w';go_simp;with_reducible rfl)
                  rotate_left;focus(simp only [Act.put, List.setIfInBounds_toArray, List.set_cons_zero, List.set_cons_succ, i64_w];rfl)
                  refine pure_ (i := 5) (N := some 80) (v := ?_) (a' := ?_) #[true, true, true, true, false, true, false, false, false, false, false, false, false, false] rfl rfl (any_of HT_.out (by kernel_rfl)) (fun _ _ _ h => h) (Or.inl ⟨by rfl, ?_⟩) ?_ ?_
                  rotate_left;focus(intro w';go_simp;with_reducible rfl)
                  rotate_left;focus(simp only [Act.put, List.setIfInBounds_toArray, List.set_cons_zero, List.set_cons_succ, i64_w];rfl)
                  refine pure_ (i := 6) (N := some 81) (v := ?_) (a' := ?_) #[true, true, true, true, false, true, true, false, false, false, false, false, false, false] rfl rfl (any_of HT_.out (by kernel_rfl)) (fun _ _ _ h => h) (Or.inl ⟨by rfl, ?_⟩) ?_ ?_
                  rotate_left;focus(intro w';go_simp;with_reducible rfl)
                  rotate_left;focus(simp only [Act.put, List.setIfInBounds_toArray, List.set_cons_zero, List.set_cons_succ, i64_w];rfl)
                  refine take_ (i := 4) (N := some 79) (v := ?_) (a' := ?_) #[true, true, true, true, true, true, true, false, false, false, false, false, false, false] rfl rfl (take_ofW HT_.out HW_.out (by kernel_rfl)) (fun _ _ _ h => h) (Or.inl ⟨by rfl, ?_⟩) hHeld ?_ ?_
                  rotate_left;focus(rintro w' ⟨s0, s1, s2, s3, s4, s5, s6, s7, s8, s9, s10⟩;go_simp;with_reducible rfl)
                  rotate_left;focus(simp only [Act.put, List.setIfInBounds_toArray, List.set_cons_zero, List.set_cons_succ, i64_w];rfl)
                  refine pure_ (i := 7) (N := some 82) (v := ?_) (a' := ?_) #[true, true, true, true, true, true, true, true, false, false, false, false, false, false] rfl rfl (any_of HT_.out (by kernel_rfl)) (fun _ _ _ h => h) (Or.inl ⟨by rfl, ?_⟩) ?_ ?_
                  rotate_left;focus(intro w';go_simp;with_reducible rfl)
                  rotate_left;focus(simp only [Act.put, List.setIfInBounds_toArray, List.set_cons_zero, List.set_cons_succ, i64_w];rfl)
                  refine take_ (i := 8) (N := some 83) (v := ?_) (a' := ?_) #[true, true, true, true, true, true, true, true, true, false, false, false, false, false] rfl rfl (take_ofW HT_.out HW_.out (by kernel_rfl)) (fun _ _ _ h => h) (Or.inl ⟨by rfl, ?_⟩) hHeld ?_ ?_
                  rotate_left;focus(rintro w' ⟨s0, s1, s2, s3, s4, s5, s6, s7, s8, s9, s10⟩;go_simp;with_reducible rfl)
                  rotate_left;focus(simp only [Act.put, List.setIfInBounds_toArray, List.set_cons_zero, List.set_cons_succ, i64_w];rfl)
                  refine take_ (i := 9) (N := some 84) (v := ?_) (a' := ?_) #[true, true, true, true, true, true, true, true, true, true, false, false, false, false] rfl rfl (take_ofW HT_.out HW_.out (by kernel_rfl)) (fun _ _ _ h => h) (Or.inl ⟨by rfl, ?_⟩) hHeld ?_ ?_
                  rotate_left;focus(rintro w' ⟨s0, s1, s2, s3, s4, s5, s6, s7, s8, s9, s10⟩;go_simp;with_reducible rfl)
                  rotate_left;focus(simp only [Act.put, List.setIfInBounds_toArray, List.set_cons_zero, List.set_cons_succ, i64_w];rfl)
                  refine one_ (i := 10) (N := some 85) #[true, true, true, true, true, true, true, true, true, true, true, false, false, false] rfl rfl (one_of HT_.out (by kernel_rfl)) (by decide) (fun K hK => ?_)
                  refine goes_ Try.func36 (by kernel_rfl) rfl #[.agg #[.int .i64 ((rd_T33 l0_1 (ji58)).f0), .int .i64 ((rd_T33 l0_1 (ji58)).f1), .int .i64 ((rd_T33 l0_1 (ji58)).f2), .int .i64 ((rd_T33 l0_1 (ji58)).f3)], .agg #[.int .i64 ((rd_T33 l0_1 a1).f0), .int .i64 ((rd_T33 l0_1 a1).f1), .int .i64 ((rd_T33 l0_1 a1).f2), .int .i64 ((rd_T33 l0_1 a1).f3)]] (by rfl) rfl rfl (by (try simp only [List.map_toArray, List.map_cons, List.map_nil]); first | done | (simp only [hji58]; rfl) | rfl | (simp only [List.length_drop, List.length_take]; rfl)) ?_
                  with_reducible refine (super_compareEdges.calls kj40 ((rd_T33 l0_1 (ji58)).f0) ((rd_T33 l0_1 (ji58)).f1) ((rd_T33 l0_1 (ji58)).f2) ((rd_T33 l0_1 (ji58)).f3) ((rd_T33 l0_1 a1).f0) ((rd_T33 l0_1 a1).f1) ((rd_T33 l0_1 a1).f2) ((rd_T33 l0_1 a1).f3) t216 _ A61.out).mono ?_
                  rintro e w63 ⟨rfl, hb⟩
                  refine ⟨_, rfl, ?_⟩
                  have n0_ := Aside0.mk (blk_below (g := gb209) (o := .cells #[.slice A0_0 l0_0.length c0_0, .slice (some ad210) l0_1.length c0_1, .int .i64 a0_2] 25 (0, 0)) (by (with_reducible repeat first | apply bn | apply bd | apply ba); exact BK209.out) hb)
                  have n1_ := Aside0.mk (blk_below (g := gb211) (o := .cells #[.int .i64 ((rd_T33 l0_1 a1).f0), .int .i64 ((rd_T33 l0_1 a1).f1), .int .i64 ((rd_T33 l0_1 a1).f2), .int .i64 ((rd_T33 l0_1 a1).f3)] 33 (0, 0)) (by (with_reducible repeat first | apply bn | apply bd | apply ba); exact BK211.out) hb)
                  have n2_ := Aside0.mk (below_step (by repeat with_reducible first | exact HB.out | apply below_alloc | apply pw_below_drewN | apply below_drew1 | refine below_set ?_ GE209.out | refine below_set ?_ GE211.out) hb)
                  clear BK209
                  clear BK211
                  clear HB
                  have BK209 := n0_
                  have BK211 := n1_
                  have HB := n2_
                  clear n0_ n1_ n2_
                  (try clear hb)
                  (try clear hb2)
                  (try clear hk)
                  (try clear hi)
                  refine hK.out _ _ ⟨(blk_cell BK209.out 0).trans rfl, (blk_cell BK209.out 1).trans rfl, (blk_cell BK209.out 2).trans rfl, (blk_cell BK211.out 0).trans rfl, (blk_cell BK211.out 1).trans rfl, (blk_cell BK211.out 2).trans rfl, (blk_cell BK211.out 3).trans rfl, ((HB.out.cell (World.block_lt_of_cell? w _ hw215_0)).trans hw215_0), ((HB.out.cell (World.block_lt_of_cell? w _ hw215_1)).trans hw215_1), ((HB.out.cell (World.block_lt_of_cell? w _ hw215_2)).trans hw215_2), ((HB.out.cell (World.block_lt_of_cell? w _ hw215_3)).trans hw215_3)⟩ (fun hHeld => ?_)
                  clear hK K
                  refine norm_ (a' := ?_) ?_ ?_
                  rotate_left;focus(show Act.put _ (some 85) _ = _;simp only [Act.put, List.setIfInBounds_toArray, List.set_cons_zero, List.set_cons_succ, i64_w];rfl)
                  refine pure_ (i := 11) (N := some 86) (v := ?_) (a' := ?_) #[true, true, true, true, true, true, true, true, true, true, true, true, false, false] rfl rfl (any_of HT_.out (by kernel_rfl)) (fun _ _ _ h => h) (Or.inl ⟨by rfl, ?_⟩) ?_ ?_
                  rotate_left;focus(intro w';go_simp;with_reducible rfl)
                  rotate_left;focus(simp only [Act.put, List.setIfInBounds_toArray, List.set_cons_zero, List.set_cons_succ, i64_w];rfl)
                  refine pure_ (i := 12) (N := some 87) (v := ?_) (a' := ?_) #[true, true, true, true, true, true, true, true, true, true, true, true, true, false] rfl rfl (any_of HT_.out (by kernel_rfl)) (fun _ _ _ h => h) (Or.inl ⟨by rfl, ?_⟩) ?_ ?_
                  rotate_left;focus(intro w';go_simp;with_reducible rfl)
                  rotate_left;focus(simp only [Act.put, List.setIfInBounds_toArray, List.set_cons_zero, List.set_cons_succ, i64_w];rfl)
                  refine pure_ (i := 13) (N := some 74) (v := ?_) (a' := ?_) #[true, true, true, true, true, true, true, true, true, true, true, true, true, true] rfl rfl (any_of HT_.out (by kernel_rfl)) (fun _ _ _ h => h) (Or.inl ⟨by rfl, ?_⟩) ?_ ?_
                  rotate_left;focus(intro w';go_simp;with_reducible rfl)
                  rotate_left;focus(simp only [Act.put, List.setIfInBounds_toArray, List.set_cons_zero, List.set_cons_succ, i64_w];rfl)
                  refine done_ (done_of HT_.out (by kernel_rfl)) ?_
                  try go_wp2
                  go_meet
                  case rel => exact ⟨_, (decide (t216 ≥ 0)), (by first | rfl | (simp; done) | (simp [*]; done)), H', ⟨by have := HJ4.out; have := HJ25.out; have := HJ34.out; have := HJ40.out; first | omega | exact Nat.le_refl _⟩, ⟨by (with_reducible repeat first | apply bn | apply bd | apply ba); exact BK209.out⟩, ⟨by (with_reducible repeat first | apply bn | apply bd | apply ba); exact BK211.out⟩, ⟨by repeat with_reducible first | exact HB.out | apply below_alloc | apply pw_below_drewN | apply below_drew1 | refine below_set ?_ GE209.out | refine below_set ?_ GE211.out⟩⟩
                 ·rw [if_neg c60] at H
                  exact absurd H (by simp)
                ·rw [if_neg c59] at H
                 exact absurd H (by simp)
               ·rw [if_neg c57] at H
                have c57b0 : decide (0 < a1) = false := decide_eq_false c57
                clear c57
                (first | rw [c57b0] | (simp only [i64_w, i32_w]; rw [c57b0]) | skip)
                have H' := Aside0.mk H
                clear H
                try go_wp2
                have n0_ := Aside0.mk (blk_drew BK209.out)
                have n1_ := Aside0.mk (blk_drew BK211.out)
                have n2_ := Aside0.mk (below_drew1 HB.out)
                clear BK209
                clear BK211
                clear HB
                have BK209 := n0_
                have BK211 := n1_
                have HB := n2_
                clear n0_ n1_ n2_
                refine start_ (n := 14) (S := fun w' => True) (ds := []) #[false, false, false, false, false, false, false, false, false, false, false, false, false, false] (by kernel_rfl) rfl rfl trivial (fun hHeld => ?_); refine with_tabW super_checkEdge.tab10 super_checkEdge.bits10 (fun HT_ HW_ => ?_)
                generalize wc.drew = w64 at BK209 BK211 HB hHeld ⊢
                refine pure_ (i := 0) (N := some 75) (v := ?_) (a' := ?_) #[true, false, false, false, false, false, false, false, false, false, false, false, false, false] rfl rfl (any_of HT_.out (by kernel_rfl)) (fun _ _ _ h => h) (Or.inl ⟨by rfl, ?_⟩) ?_ ?_
                rotate_left;focus(intro w';go_simp;with_reducible rfl)
                rotate_left;focus(simp only [Act.put, List.setIfInBounds_toArray, List.set_cons_zero, List.set_cons_succ, i64_w];rfl)
                refine pure_ (i := 1) (N := some 76) (v := ?_) (a' := ?_) #[true, true, false, false, false, false, false, false, false, false, false, false, false, false] rfl rfl (any_of HT_.out (by kernel_rfl)) (fun _ _ _ h => h) (Or.inl ⟨by rfl, ?_⟩) ?_ ?_
                rotate_left;focus(intro w';go_simp;with_reducible rfl)
                rotate_left;focus(simp only [Act.put, List.setIfInBounds_toArray, List.set_cons_zero, List.set_cons_succ, i64_w];rfl)
                refine pure_ (i := 2) (N := some 77) (v := ?_) (a' := ?_) #[true, true, true, false, false, false, false, false, false, false, false, false, false, false] rfl rfl (any_of HT_.out (by kernel_rfl)) (fun _ _ _ h => h) (Or.inl ⟨by rfl, ?_⟩) ?_ ?_
                rotate_left;focus(intro w';go_simp;with_reducible rfl)
                rotate_left;focus(simp only [Act.put, List.setIfInBounds_toArray, List.set_cons_zero, List.set_cons_succ, i64_w];rfl)
                refine pure_ (i := 3) (N := some 78) (v := undef) (a' := ?_) #[true, true, true, true, false, false, false, false, false, false, false, false, false, false] rfl rfl (any_of HT_.out (by kernel_rfl)) (fun _ _ _ h => h) (Or.inr ⟨by rfl, rfl⟩) ?_ ?_
                rotate_left;focus(simp only [Act.put, List.setIfInBounds_toArray, List.set_cons_zero, List.set_cons_succ, i64_w];rfl)
                refine pure_ (i := 4) (N := some 79) (v := undef) (a' := ?_) #[true, true, true, true, true, false, false, false, false, false, false, false, false, false] rfl rfl (any_of HT_.out (by kernel_rfl)) (fun _ _ _ h => h) (Or.inr ⟨by rfl, rfl⟩) ?_ ?_
                rotate_left;focus(simp only [Act.put, List.setIfInBounds_toArray, List.set_cons_zero, List.set_cons_succ, i64_w];rfl)
                refine pure_ (i := 5) (N := some 80) (v := undef) (a' := ?_) #[true, true, true, true, true, true, false, false, false, false, false, false, false, false] rfl rfl (any_of HT_.out (by kernel_rfl)) (fun _ _ _ h => h) (Or.inr ⟨by rfl, rfl⟩) ?_ ?_
                rotate_left;focus(simp only [Act.put, List.setIfInBounds_toArray, List.set_cons_zero, List.set_cons_succ, i64_w];rfl)
                refine pure_ (i := 6) (N := some 81) (v := undef) (a' := ?_) #[true, true, true, true, true, true, true, false, false, false, false, false, false, false] rfl rfl (any_of HT_.out (by kernel_rfl)) (fun _ _ _ h => h) (Or.inr ⟨by rfl, rfl⟩) ?_ ?_
                rotate_left;focus(simp only [Act.put, List.setIfInBounds_toArray, List.set_cons_zero, List.set_cons_succ, i64_w];rfl)
                refine pure_ (i := 7) (N := some 82) (v := undef) (a' := ?_) #[true, true, true, true, true, true, true, true, false, false, false, false, false, false] rfl rfl (any_of HT_.out (by kernel_rfl)) (fun _ _ _ h => h) (Or.inr ⟨by rfl, rfl⟩) ?_ ?_
                rotate_left;focus(simp only [Act.put, List.setIfInBounds_toArray, List.set_cons_zero, List.set_cons_succ, i64_w];rfl)
                refine pure_ (i := 8) (N := some 83) (v := undef) (a' := ?_) #[true, true, true, true, true, true, true, true, true, false, false, false, false, false] rfl rfl (any_of HT_.out (by kernel_rfl)) (fun _ _ _ h => h) (Or.inr ⟨by rfl, rfl⟩) ?_ ?_
                rotate_left;focus(simp only [Act.put, List.setIfInBounds_toArray, List.set_cons_zero, List.set_cons_succ, i64_w];rfl)
                refine pure_ (i := 9) (N := some 84) (v := undef) (a' := ?_) #[true, true, true, true, true, true, true, true, true, true, false, false, false, false] rfl rfl (any_of HT_.out (by kernel_rfl)) (fun _ _ _ h => h) (Or.inr ⟨by rfl, rfl⟩) ?_ ?_
                rotate_left;focus(simp only [Act.put, List.setIfInBounds_toArray, List.set_cons_zero, List.set_cons_succ, i64_w];rfl)
                refine pure_ (i := 10) (N := some 85) (v := undef) (a' := ?_) #[true, true, true, true, true, true, true, true, true, true, true, false, false, false] rfl rfl (any_of HT_.out (by kernel_rfl)) (fun _ _ _ h => h) (Or.inr ⟨by rfl, rfl⟩) ?_ ?_
                rotate_left;focus(simp only [Act.put, List.setIfInBounds_toArray, List.set_cons_zero, List.set_cons_succ, i64_w];rfl)
                refine pure_ (i := 11) (N := some 86) (v := undef) (a' := ?_) #[true, true, true, true, true, true, true, true, true, true, true, true, false, false] rfl rfl (any_of HT_.out (by kernel_rfl)) (fun _ _ _ h => h) (Or.inr ⟨by rfl, rfl⟩) ?_ ?_
                rotate_left;focus(simp only [Act.put, List.setIfInBounds_toArray, List.set_cons_zero, List.set_cons_succ, i64_w];rfl)
                refine pure_ (i := 12) (N := some 87) (v := ?_) (a' := ?_) #[true, true, true, true, true, true, true, true, true, true, true, true, true, false] rfl rfl (any_of HT_.out (by kernel_rfl)) (fun _ _ _ h => h) (Or.inl ⟨by rfl, ?_⟩) ?_ ?_
                rotate_left;focus(intro w';go_simp;with_reducible rfl)
                rotate_left;focus(simp only [Act.put, List.setIfInBounds_toArray, List.set_cons_zero, List.set_cons_succ, i64_w];rfl)
                refine pure_ (i := 13) (N := some 74) (v := ?_) (a' := ?_) #[true, true, true, true, true, true, true, true, true, true, true, true, true, true] rfl rfl (any_of HT_.out (by kernel_rfl)) (fun _ _ _ h => h) (Or.inl ⟨by rfl, ?_⟩) ?_ ?_
                rotate_left;focus(intro w';go_simp;with_reducible rfl)
                rotate_left;focus(simp only [Act.put, List.setIfInBounds_toArray, List.set_cons_zero, List.set_cons_succ, i64_w];rfl)
                refine done_ (done_of HT_.out (by kernel_rfl)) ?_
                try go_wp2
                go_meet
                case rel => exact ⟨_, (false), (by first | rfl | (simp; done) | (simp [*]; done)), H', ⟨by have := HJ4.out; have := HJ25.out; have := HJ34.out; have := HJ40.out; first | omega | exact Nat.le_refl _⟩, ⟨by (with_reducible repeat first | apply bn | apply bd | apply ba); exact BK209.out⟩, ⟨by (with_reducible repeat first | apply bn | apply bd | apply ba); exact BK211.out⟩, ⟨by repeat with_reducible first | exact HB.out | apply below_alloc | apply pw_below_drewN | apply below_drew1 | refine below_set ?_ GE209.out | refine below_set ?_ GE211.out⟩⟩
              case rest =>
               clear HC56
               (try clear c1);(try clear c2);(try clear p2);(try clear q2);(try clear hx2);(try clear c3);(try clear c3b0);(try clear c4);(try clear c4b0);(try clear c5);(try clear c6);(try clear p6);(try clear c9);(try clear c12);(try clear c12b0);(try clear c13);(try clear c15);(try clear c15b0);(try clear c16);(try clear c18);(try clear c18b0);(try clear c19);(try clear c21);(try clear p21);(try clear q21);(try clear hx21);(try clear c23);(try clear c24);(try clear c24b0);(try clear c25);(try clear c25b0);(try clear c27);(try clear c27b0);(try clear c28);(try clear c30);(try clear c32);(try clear c33);(try clear c33b0);(try clear c34);(try clear c34b0);(try clear c36);(try clear c36b0);(try clear c36b1);(try clear c37);(try clear c39);(try clear c42);(try clear c43);(try clear c43b0);(try clear c43b1);(try clear c44);(try clear c46);(try clear c48);(try clear c48b0);(try clear c49);(try clear c51);(try clear c53);(try clear c54);(try clear c54b0);(try clear c55);(try clear c55b0);(try clear c57);(try clear c57b0);(try clear c59);(try clear c59b0);(try clear c60);(try clear c60b0);(try clear p64);(try clear hcz10_0);(try clear hcz10_1);(try clear hcz10_2);(try clear hcz10_3);(try clear hcz11_0);(try clear hcz11_1);(try clear hcz11_2);(try clear hcz14_0);(try clear hcz14_1);(try clear hcz14_2);(try clear hcz14_3);(try clear hcz17_0);(try clear hcz17_1);(try clear hcz17_2);(try clear hcz17_3);(try clear hcz20_0);(try clear hcz20_1);(try clear hcz20_2);(try clear hcz20_3);(try clear hcz22_0);(try clear hcz22_1);(try clear hcz22_2);(try clear hcz22_3);(try clear hcz29_0);(try clear hcz29_1);(try clear hcz29_2);(try clear hcz29_3);(try clear hcz31_0);(try clear hcz31_1);(try clear hcz31_2);(try clear hcz31_3);(try clear hcz38_0);(try clear hcz38_1);(try clear hcz38_2);(try clear hcz38_3);(try clear hcz40_0);(try clear hcz40_1);(try clear hcz40_2);(try clear hcz40_3);(try clear hcz45_0);(try clear hcz45_1);(try clear hcz45_2);(try clear hcz45_3);(try clear hcz47_0);(try clear hcz47_1);(try clear hcz47_2);(try clear hcz47_3);(try clear hcz50_0);(try clear hcz50_1);(try clear hcz50_2);(try clear hcz50_3);(try clear hcz52_0);(try clear hcz52_1);(try clear hcz52_2);(try clear hcz52_3);(try clear hcz7_0);(try clear hcz7_1);(try clear hcz7_2);(try clear hfz10_0);(try clear hfz10_1);(try clear hfz10_2);(try clear hfz10_3);(try clear hfz11_0);(try clear hfz11_1);(try clear hfz11_2);(try clear hfz14_0);(try clear hfz14_1);(try clear hfz14_2);(try clear hfz14_3);(try clear hfz17_0);(try clear hfz17_1);(try clear hfz17_2);(try clear hfz17_3);(try clear hfz20_0);(try clear hfz20_1);(try clear hfz20_2);(try clear hfz20_3);(try clear hfz22_0);(try clear hfz22_1);(try clear hfz22_2);(try clear hfz22_3);(try clear hfz29_0);(try clear hfz29_1);(try clear hfz29_2);(try clear hfz29_3);(try clear hfz31_0);(try clear hfz31_1);(try clear hfz31_2);(try clear hfz31_3);(try clear hfz38_0);(try clear hfz38_1);(try clear hfz38_2);(try clear hfz38_3);(try clear hfz40_0);(try clear hfz40_1);(try clear hfz40_2);(try clear hfz40_3);(try clear hfz45_0);(try clear hfz45_1);(try clear hfz45_2);(try clear hfz45_3);(try clear hfz47_0);(try clear hfz47_1);(try clear hfz47_2);(try clear hfz47_3);(try clear hfz50_0);(try clear hfz50_1);(try clear hfz50_2);(try clear hfz50_3);(try clear hfz52_0);(try clear hfz52_1);(try clear hfz52_2);(try clear hfz52_3);(try clear hfz7_0);(try clear hfz7_1);(try clear hfz7_2);(try clear hx210_0);(try clear hx210_1);(try clear hx210_2);(try clear hx210_3);(try clear hx212_0);(try clear hx212_1);(try clear hx212_2);(try clear hx212_3);(try clear hx213_0);(try clear hx213_1);(try clear hx213_2);(try clear hx213_3);(try clear hx214_0);(try clear hx214_1);(try clear hx214_2);(try clear hx214_3);(try clear hx215_0);(try clear hx215_1);(try clear hx215_2);(try clear hx215_3);(try clear p2);(try clear p21);(try clear p210);(try clear p212);(try clear p213);(try clear p214);(try clear p215);(try clear q2);(try clear q21);(try clear q210);(try clear q212);(try clear q213);(try clear q214);(try clear q215)
               obtain ⟨kq, x74_55, rfl, HA, HJ55, BK209, BK211, HB⟩ := hcut
               cases kq with
               | zero => exact absurd HA.out (by simp [super_checkEdge.j4])
               | succ kj55 =>
                have H := HA.out
                clear HA
                simp only [super_checkEdge.j4] at H
                by_cases c65 : x74_55 = true
                ·subst c65
                 have H1 : (if 0 ≤ (-1) then (if (-1) < (l0_1.length : Int) then (some 0) else (none)) else (none)) = some r := by rw [if_pos rfl] at H; exact H
                 clear H
                 have H := H1
                 clear H1
                 by_cases c66 : 0 ≤ (-1)
                 ·exact absurd c66 (by decide)
                 ·rw [if_neg c66] at H
                  exact absurd H (by simp)
                ·replace c65 := Bool.eq_false_iff.mpr c65
                 subst c65
                 have H1 : ((super_fits.f kj55 l0_0 l0_1 a0_2 ((rd_T33 l0_1 a1).f0) ((rd_T33 l0_1 a1).f1) ((rd_T33 l0_1 a1).f2) ((rd_T33 l0_1 a1).f3)).bind fun t218 => (if t218 = true then (some 0) else (if 0 ≤ (-1) then (if (-1) < (l0_1.length : Int) then (some 0) else (none)) else (none)))) = some r := by rw [if_neg (show ¬ (false = true) by decide)] at H; exact H
                 clear H
                 have H := H1
                 clear H1
                 replace H := Option.bind_eq_some_iff.mp H
                 obtain ⟨t218, A680, H⟩ := H
                 replace H : (if t218 = true then (some 0) else (if 0 ≤ (-1) then (if (-1) < (l0_1.length : Int) then (some 0) else (none)) else (none))) = some r := H
                 have A68 := Aside0.mk A680
                 clear A680
                 by_cases c69 : t218 = true
                 ·subst c69
                  have H1 : (some 0) = some r := by rw [if_pos rfl] at H; exact H
                  clear H
                  have H := H1
                  clear H1
                  obtain rfl := Option.some.inj H
                  have hnb70 := NB209_211.out
                  have hnc70 := NB211_209.out
                  have hcz71_0 : wc.cell? ⟨gb209, 0, none⟩ = some (.slice A0_0 l0_0.length c0_0) := (blk_cell BK209.out 0).trans rfl
                  have hcz71_1 : wc.cell? ⟨gb209, 1, none⟩ = some (.slice (some ad210) l0_1.length c0_1) := (blk_cell BK209.out 1).trans rfl
                  have hcz71_2 : wc.cell? ⟨gb209, 2, none⟩ = some (.int .i64 a0_2) := (blk_cell BK209.out 2).trans rfl
                  have hfz71_0 := blk_frozen BK209.out 0
                  have hfz71_1 := blk_frozen BK209.out 1
                  have hfz71_2 := blk_frozen BK209.out 2
                  have hcz72_0 : wc.cell? ⟨gb211, 0, none⟩ = some (.int .i64 ((rd_T33 l0_1 a1).f0)) := (blk_cell BK211.out 0).trans rfl
                  have hcz72_1 : wc.cell? ⟨gb211, 1, none⟩ = some (.int .i64 ((rd_T33 l0_1 a1).f1)) := (blk_cell BK211.out 1).trans rfl
                  have hcz72_2 : wc.cell? ⟨gb211, 2, none⟩ = some (.int .i64 ((rd_T33 l0_1 a1).f2)) := (blk_cell BK211.out 2).trans rfl
                  have hcz72_3 : wc.cell? ⟨gb211, 3, none⟩ = some (.int .i64 ((rd_T33 l0_1 a1).f3)) := (blk_cell BK211.out 3).trans rfl
                  have hfz72_0 := blk_frozen BK211.out 0
                  have hfz72_1 := blk_frozen BK211.out 1
                  have hfz72_2 := blk_frozen BK211.out 2
                  have hfz72_3 := blk_frozen BK211.out 3
                  go_wp2_with (first | ((with_reducible refine gate_callee (f := 37) rfl ?_); refine goesL_ (some 91) rfl rfl Try.func37 (by kernel_rfl) rfl #[.agg #[.slice A0_0 l0_0.length c0_0, .slice (some ad210) l0_1.length c0_1, .int .i64 a0_2], .agg #[.int .i64 ((rd_T33 l0_1 a1).f0), .int .i64 ((rd_T33 l0_1 a1).f1), .int .i64 ((rd_T33 l0_1 a1).f2), .int .i64 ((rd_T33 l0_1 a1).f3)]] rfl (by (try simp only [List.map_toArray, List.map_cons, List.map_nil]); first | done | rfl) ?_; (with_reducible refine (super_fits.calls kj55 _ _ l0_0 _ _ l0_1 a0_2 ((rd_T33 l0_1 a1).f0) ((rd_T33 l0_1 a1).f1) ((rd_T33 l0_1 a1).f2) ((rd_T33 l0_1 a1).f3) true _ ?side1 ?side2 ?side3 ?side4 A68.out).mono ?_); (case side1 => repeat (first | exact (Kd.C_below HR0_0.out HB.out) | (with_reducible refine Kd.C_alloc ?_ _) | (with_reducible refine Kd.C_drewN ?_ _) | (with_reducible refine Kd.C_drew ?_))); (case side2 => exact HC0_0.out); (case side3 => repeat (first | exact (Kd.C_below HR0_1.out HB.out) | (with_reducible refine Kd.C_alloc ?_ _) | (with_reducible refine Kd.C_drewN ?_ _) | (with_reducible refine Kd.C_drew ?_))); (case side4 => exact HC0_1.out); rintro e w73 ⟨rfl, hb⟩; refine ⟨_, rfl, ?_⟩; have n0_ := Aside0.mk (blk_below (g := gb209) (o := .cells #[.slice A0_0 l0_0.length c0_0, .slice (some ad210) l0_1.length c0_1, .int .i64 a0_2] 25 (0, 0)) (by (with_reducible repeat first | apply bn | apply bd | apply ba); exact BK209.out) hb); have n1_ := Aside0.mk (blk_below (g := gb211) (o := .cells #[.int .i64 ((rd_T33 l0_1 a1).f0), .int .i64 ((rd_T33 l0_1 a1).f1), .int .i64 ((rd_T33 l0_1 a1).f2), .int .i64 ((rd_T33 l0_1 a1).f3)] 33 (0, 0)) (by (with_reducible repeat first | apply bn | apply bd | apply ba); exact BK211.out) hb); have n2_ := Aside0.mk (below_step (by repeat with_reducible first | exact HB.out | apply below_alloc | apply pw_below_drewN | apply below_drew1 | refine below_set ?_ GE209.out | refine below_set ?_ GE211.out) hb); clear BK209; clear BK211; clear HB; have BK209 := n0_; have BK211 := n1_; have HB := n2_; clear n0_ n1_ n2_; (try clear hb); (try clear hb2); (try clear hk); (try clear hi)))
                  go_ret
                  exact ⟨by first | rfl | (simp [errW_none, errW_some] <;> rfl) | (simp [*, errW_none, errW_some] <;> rfl), by repeat with_reducible first | exact HB.out | apply below_alloc | apply pw_below_drewN | apply below_drew1 | refine below_set ?_ GE209.out | refine below_set ?_ GE211.out⟩
                 ·replace c69 := Bool.eq_false_iff.mpr c69
                  subst c69
                  have H1 : (if 0 ≤ (-1) then (if (-1) < (l0_1.length : Int) then (some 0) else (none)) else (none)) = some r := by rw [if_neg (show ¬ (false = true) by decide)] at H; exact H
                  clear H
                  have H := H1
                  clear H1
                  by_cases c74 : 0 ≤ (-1)
                  ·exact absurd c74 (by decide)
                  ·rw [if_neg c74] at H
                   exact absurd H (by simp)
  ·rw [if_neg c4] at H
   exact absurd H (by simp)
 ·rw [if_neg c3] at H
  exact absurd H (by simp)

end Go.Proofs.Ytbmhpnegigccnaa.PS
