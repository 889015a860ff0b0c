/- Printed by a program of this session out of the translation: plain functions with the answers of the Go functions, and the proofs that they have them. -/
import Derived.Test.YtkbclcecmcdlfaaDoorD6
import Derived.Test.YtkbclcecmcdlfaaDoorD11
import Derived.Test.YtkbclcecmcdlfaaDoorD12
import Derived.Test.YtkbclcecmcdlfaaDoorD17
import Derived.Laws.Cover1
namespace Go.Proofs.YtkbclcecmcdlfaaDoor.PD
open Go.RowKit Go.Proofs.YtkbclcecmcdlfaaDoorW.PrintWords Go.Proofs.YtkbclcecmcdlfaaDoorW.PrintLast Go.Proofs.YtkbclcecmcdlfaaDoorW.PrintMore
attribute [local go_sem] max2_int min2_int max_two min_two max_three min_three max_four min_four   -- for this text's walks alone
set_option linter.unusedVariables false
set_option linter.unusedSimpArgs false

/-! ### dataflowlaw10_HierDispatch: function 3 -/
mutual
def dataflowlaw10_HierDispatch.l0 : Nat → ByteArray → Int → List (S32) → Option (Bool)
 | 0, _, _, _ => none
 | k + 1, x1, x7, x455000 => if x7 < (x455000.length : Int) then (if 0 ≤ x7 then ((hier_Subs.f k x455000 ((rd_T32 x455000 x7).f0)).bind fun t460 => ((hier_Targets.f k x455000 ((rd_T32 x455000 x7).f0) x1).bind fun t463 => (dataflowlaw10_HierDispatch.l1 k x1 x7 t460 t463 ([] : List ByteArray) 0 x455000))) else (none)) else ((dataflowlaw10_awake.f k).bind fun t458 => (some t458))
def dataflowlaw10_HierDispatch.l1 : Nat → ByteArray → Int → List ByteArray → List ByteArray → List ByteArray → Int → List (S32) → Option (Bool)
 | 0, _, _, _, _, _, _, _ => none
 | k + 1, x1, x7, x9, x10, x11, x12, x455000 => if x12 < (x9.length : Int) then (if 0 ≤ x12 then ((hier_Lookup.f k x455000 (rdOf ByteArray.empty x9 x12) x1).bind fun bt467 => ((dataflowref10_Supers.f k x455000 (rdOf ByteArray.empty x9 x12)).bind fun t477 => ((dataflowlaw10_nearest.f k x455000 t477 x1).bind fun t480 => (if (bt467.2.2.2.2.2 != (t480.toList != ([] : List UInt8))) = true then (none) else (if bt467.1.toList = t480.toList then (if bt467.2.2.2.2.2 = true then (if bt467.2.1.toList = x1.toList then ((dataflowlaw10_has.f k x10 bt467.1).bind fun t481 => (if t481 = true then (if x11.length < 8796093022208 then (dataflowlaw10_HierDispatch.l1 k x1 x7 x9 x10 (x11 ++ [bt467.1]) (wrap64 (x12 + 1)) x455000) else (none)) else (none))) else (none)) else (if x11.length < 8796093022208 then (dataflowlaw10_HierDispatch.l1 k x1 x7 x9 x10 (x11 ++ [bt467.1]) (wrap64 (x12 + 1)) x455000) else (none))) else (none)))))) else (none)) else (dataflowlaw10_HierDispatch.l2 k x1 x7 x10 x11 0 x455000)
def dataflowlaw10_HierDispatch.l2 : Nat → ByteArray → Int → List ByteArray → List ByteArray → Int → List (S32) → Option (Bool)
 | 0, _, _, _, _, _, _ => none
 | k + 1, x1, x7, x10, x11, x17, x455000 => if x17 < (x10.length : Int) then (if 0 ≤ x17 then ((dataflowlaw10_has.f k x11 (rdOf ByteArray.empty x10 x17)).bind fun t489 => (if t489 = true then (if x17 > 0 then (if 0 ≤ (wrap64 (x17 - 1)) then (if (wrap64 (x17 - 1)) < (x10.length : Int) then (if ((Op.bytesLess ((rdOf ByteArray.empty x10 (wrap64 (x17 - 1))).toList) ((rdOf ByteArray.empty x10 x17).toList)) = true) then (dataflowlaw10_HierDispatch.l2 k x1 x7 x10 x11 (wrap64 (x17 + 1)) x455000) else (none)) else (none)) else (none)) else (dataflowlaw10_HierDispatch.l2 k x1 x7 x10 x11 (wrap64 (x17 + 1)) x455000)) else (none))) else (none)) else (dataflowlaw10_HierDispatch.l0 k x1 (wrap64 (x7 + 1)) x455000)
end
def dataflowlaw10_HierDispatch.f (k : Nat) (l0_0 : List (S32)) (a1 : ByteArray) : Option (Bool) := (hier_Check.f k l0_0).bind fun bt455 => (if bt455.2 = 0 then (dataflowlaw10_HierDispatch.l0 k a1 0 l0_0) else ((dataflowlaw10_awake.f k).bind fun t457 => (some t457)))
theorem dataflowlaw10_HierDispatch.mono_l : ∀ k, (∀ y0 y1 y2, LeO (dataflowlaw10_HierDispatch.l0 k y0 y1 y2) (dataflowlaw10_HierDispatch.l0 (k + 1) y0 y1 y2)) ∧ (∀ y0 y1 y2 y3 y4 y5 y6, LeO (dataflowlaw10_HierDispatch.l1 k y0 y1 y2 y3 y4 y5 y6) (dataflowlaw10_HierDispatch.l1 (k + 1) y0 y1 y2 y3 y4 y5 y6)) ∧ (∀ y0 y1 y2 y3 y4 y5, LeO (dataflowlaw10_HierDispatch.l2 k y0 y1 y2 y3 y4 y5) (dataflowlaw10_HierDispatch.l2 (k + 1) y0 y1 y2 y3 y4 y5))
 | 0 => ⟨fun _ _ _ r h => by simp [dataflowlaw10_HierDispatch.l0] at h, fun _ _ _ _ _ _ _ r h => by simp [dataflowlaw10_HierDispatch.l1] at h, fun _ _ _ _ _ _ r h => by simp [dataflowlaw10_HierDispatch.l2] at h⟩
 | k + 1 => by
  obtain ⟨ih0, ih1, ih2⟩ := dataflowlaw10_HierDispatch.mono_l k
  refine ⟨?_, ?_, ?_⟩
  ·intro y0 y1 y2
   unfold dataflowlaw10_HierDispatch.l0
   repeat' first
   | (with_reducible exact ih0 _ _ _)
   | (with_reducible exact ih1 _ _ _ _ _ _ _)
   | (with_reducible exact ih2 _ _ _ _ _ _)
   | (with_reducible exact dataflowlaw10_awake.mono _)
   | (with_reducible exact dataflowlaw10_has.mono _ _ _)
   | (with_reducible exact dataflowlaw10_nearest.mono _ _ _ _)
   | (with_reducible exact dataflowref10_Supers.mono _ _ _)
   | (with_reducible exact hier_Check.mono _ _)
   | (with_reducible exact hier_Lookup.mono _ _ _ _)
   | (with_reducible exact hier_Subs.mono _ _ _)
   | (with_reducible exact hier_Targets.mono _ _ _ _)
   | (with_reducible exact LeO.refl _)
   | (with_reducible exact LeO.none _)
   | (with_reducible refine LeO.ite ?_ ?_)
   | (with_reducible refine LeO.bind ?_ (fun _ => ?_))
   | exact ih0 _ _ _
   | exact ih1 _ _ _ _ _ _ _
   | exact ih2 _ _ _ _ _ _
   | exact dataflowlaw10_awake.mono _
   | exact dataflowlaw10_has.mono _ _ _
   | exact dataflowlaw10_nearest.mono _ _ _ _
   | exact dataflowref10_Supers.mono _ _ _
   | exact hier_Check.mono _ _
   | exact hier_Lookup.mono _ _ _ _
   | exact hier_Subs.mono _ _ _
   | exact hier_Targets.mono _ _ _ _
   | exact LeO.none _
   | refine LeO.ite ?_ ?_
   | refine LeO.bind ?_ (fun _ => ?_)
  ·intro y0 y1 y2 y3 y4 y5 y6
   unfold dataflowlaw10_HierDispatch.l1
   repeat' first
   | (with_reducible exact ih0 _ _ _)
   | (with_reducible exact ih1 _ _ _ _ _ _ _)
   | (with_reducible exact ih2 _ _ _ _ _ _)
   | (with_reducible exact dataflowlaw10_awake.mono _)
   | (with_reducible exact dataflowlaw10_has.mono _ _ _)
   | (with_reducible exact dataflowlaw10_nearest.mono _ _ _ _)
   | (with_reducible exact dataflowref10_Supers.mono _ _ _)
   | (with_reducible exact hier_Check.mono _ _)
   | (with_reducible exact hier_Lookup.mono _ _ _ _)
   | (with_reducible exact hier_Subs.mono _ _ _)
   | (with_reducible exact hier_Targets.mono _ _ _ _)
   | (with_reducible exact LeO.refl _)
   | (with_reducible exact LeO.none _)
   | (with_reducible refine LeO.ite ?_ ?_)
   | (with_reducible refine LeO.bind ?_ (fun _ => ?_))
   | exact ih0 _ _ _
   | exact ih1 _ _ _ _ _ _ _
   | exact ih2 _ _ _ _ _ _
   | exact dataflowlaw10_awake.mono _
   | exact dataflowlaw10_has.mono _ _ _
   | exact dataflowlaw10_nearest.mono _ _ _ _
   | exact dataflowref10_Supers.mono _ _ _
   | exact hier_Check.mono _ _
   | exact hier_Lookup.mono _ _ _ _
   | exact hier_Subs.mono _ _ _
   | exact hier_Targets.mono _ _ _ _
   | exact LeO.none _
   | refine LeO.ite ?_ ?_
   | refine LeO.bind ?_ (fun _ => ?_)
  ·intro y0 y1 y2 y3 y4 y5
   unfold dataflowlaw10_HierDispatch.l2
   repeat' first
   | (with_reducible exact ih0 _ _ _)
   | (with_reducible exact ih1 _ _ _ _ _ _ _)
   | (with_reducible exact ih2 _ _ _ _ _ _)
   | (with_reducible exact dataflowlaw10_awake.mono _)
   | (with_reducible exact dataflowlaw10_has.mono _ _ _)
   | (with_reducible exact dataflowlaw10_nearest.mono _ _ _ _)
   | (with_reducible exact dataflowref10_Supers.mono _ _ _)
   | (with_reducible exact hier_Check.mono _ _)
   | (with_reducible exact hier_Lookup.mono _ _ _ _)
   | (with_reducible exact hier_Subs.mono _ _ _)
   | (with_reducible exact hier_Targets.mono _ _ _ _)
   | (with_reducible exact LeO.refl _)
   | (with_reducible exact LeO.none _)
   | (with_reducible refine LeO.ite ?_ ?_)
   | (with_reducible refine LeO.bind ?_ (fun _ => ?_))
   | exact ih0 _ _ _
   | exact ih1 _ _ _ _ _ _ _
   | exact ih2 _ _ _ _ _ _
   | exact dataflowlaw10_awake.mono _
   | exact dataflowlaw10_has.mono _ _ _
   | exact dataflowlaw10_nearest.mono _ _ _ _
   | exact dataflowref10_Supers.mono _ _ _
   | exact hier_Check.mono _ _
   | exact hier_Lookup.mono _ _ _ _
   | exact hier_Subs.mono _ _ _
   | exact hier_Targets.mono _ _ _ _
   | exact LeO.none _
   | refine LeO.ite ?_ ?_
   | refine LeO.bind ?_ (fun _ => ?_)
theorem dataflowlaw10_HierDispatch.mono : ∀ a0 a1 k, LeO (dataflowlaw10_HierDispatch.f k a0 a1) (dataflowlaw10_HierDispatch.f (k + 1) a0 a1) := by
 intro a0 a1 k
 obtain ⟨ih0, ih1, ih2⟩ := dataflowlaw10_HierDispatch.mono_l k
 unfold dataflowlaw10_HierDispatch.f
 repeat' first
   | (with_reducible exact ih0 _ _ _)
   | (with_reducible exact ih1 _ _ _ _ _ _ _)
   | (with_reducible exact ih2 _ _ _ _ _ _)
   | (with_reducible exact dataflowlaw10_awake.mono _)
   | (with_reducible exact dataflowlaw10_has.mono _ _ _)
   | (with_reducible exact dataflowlaw10_nearest.mono _ _ _ _)
   | (with_reducible exact dataflowref10_Supers.mono _ _ _)
   | (with_reducible exact hier_Check.mono _ _)
   | (with_reducible exact hier_Lookup.mono _ _ _ _)
   | (with_reducible exact hier_Subs.mono _ _ _)
   | (with_reducible exact hier_Targets.mono _ _ _ _)
   | (with_reducible exact LeO.refl _)
   | (with_reducible exact LeO.none _)
   | (with_reducible refine LeO.ite ?_ ?_)
   | (with_reducible refine LeO.bind ?_ (fun _ => ?_))
   | exact ih0 _ _ _
   | exact ih1 _ _ _ _ _ _ _
   | exact ih2 _ _ _ _ _ _
   | exact dataflowlaw10_awake.mono _
   | exact dataflowlaw10_has.mono _ _ _
   | exact dataflowlaw10_nearest.mono _ _ _ _
   | exact dataflowref10_Supers.mono _ _ _
   | exact hier_Check.mono _ _
   | exact hier_Lookup.mono _ _ _ _
   | exact hier_Subs.mono _ _ _
   | exact hier_Targets.mono _ _ _ _
   | exact LeO.none _
   | refine LeO.ite ?_ ?_
   | refine LeO.bind ?_ (fun _ => ?_)
def dataflowlaw10_HierDispatch.T8 : Bool × List (List Nat × List Nat) := (true, [([], []), ([], []), ([0, 1], [0, 1]), ([], []), ([], []), ([], []), ([3, 4, 5, 2], [3, 4, 5]), ([2, 6, 0, 1, 2], [2]), ([6, 7, 0, 1, 2, 3, 4, 5, 6, 7], [6])])
def dataflowlaw10_HierDispatch.B8 : List Nat := [0, 0, 3, 0, 0, 0, 63, 127, 255]
theorem dataflowlaw10_HierDispatch.tab8 : rtab .any (opsOf Tryd.f3 8) = dataflowlaw10_HierDispatch.T8 := by kernel_rfl
theorem dataflowlaw10_HierDispatch.bits8 : waitsOk dataflowlaw10_HierDispatch.T8.2 dataflowlaw10_HierDispatch.B8 = true := by kernel_rfl
def dataflowlaw10_HierDispatch.T13 : Bool × List (List Nat × List Nat) := (true, [([], []), ([], []), ([], []), ([1, 2], [1, 2]), ([3], [3]), ([], []), ([0, 4, 5], [0, 4, 5]), ([6], [6]), ([7], [7]), ([7], [7]), ([7], [7]), ([], []), ([8, 6, 0, 1, 2, 3, 4, 5, 6, 7, 8, 11], [8]), ([11, 9, 12, 0, 1, 2, 3, 4, 5, 6, 7, 8, 9, 11, 12], [9, 11]), ([10, 13, 0, 1, 2, 3, 4, 5, 6, 7, 8, 9, 10, 11, 12, 13], [10])])
def dataflowlaw10_HierDispatch.B13 : List Nat := [0, 0, 0, 6, 14, 0, 63, 127, 255, 255, 255, 0, 2559, 7167, 16383]
theorem dataflowlaw10_HierDispatch.tab13 : rtab .any (opsOf Tryd.f3 13) = dataflowlaw10_HierDispatch.T13 := by kernel_rfl
theorem dataflowlaw10_HierDispatch.bits13 : waitsOk dataflowlaw10_HierDispatch.T13.2 dataflowlaw10_HierDispatch.B13 = true := by kernel_rfl
def dataflowlaw10_HierDispatch.T14 : Bool × List (List Nat × List Nat) := (true, [([], []), ([], []), ([], []), ([], []), ([2, 3], [2, 3]), ([4], [4]), ([1, 5], [1, 5]), ([], []), ([0, 6, 7, 6], [0, 6, 7]), ([8, 8, 0, 1, 2, 3, 4, 5, 6, 7, 8], [8])])
def dataflowlaw10_HierDispatch.B14 : List Nat := [0, 0, 0, 0, 12, 28, 62, 0, 255, 511]
theorem dataflowlaw10_HierDispatch.tab14 : rtab .any (opsOf Tryd.f3 14) = dataflowlaw10_HierDispatch.T14 := by kernel_rfl
theorem dataflowlaw10_HierDispatch.bits14 : waitsOk dataflowlaw10_HierDispatch.T14.2 dataflowlaw10_HierDispatch.B14 = true := by kernel_rfl
def dataflowlaw10_HierDispatch.T21 : Bool × List (List Nat × List Nat) := (true, [([], []), ([], []), ([], []), ([1, 2], [1, 2]), ([3], [3]), ([0, 4], [0, 4]), ([5], [5]), ([6, 5], [6]), ([7], [7]), ([8, 7], [7, 8]), ([9, 7, 7], [7, 9]), ([10], [10]), ([10], [10]), ([12, 10], [10, 12]), ([11, 13, 10], [10, 11, 13]), ([14, 10], [10, 14]), ([10], [10]), ([10], [10]), ([16, 17, 10], [10, 16, 17]), ([18, 10], [10, 18]), ([15, 19, 10], [10, 15, 19]), ([10, 20, 7], [7, 10, 20]), ([7, 21], [7, 21])])
def dataflowlaw10_HierDispatch.B21 : List Nat := [0, 0, 0, 6, 14, 31, 63, 127, 255, 511, 1023, 2047, 2047, 6143, 16383, 32767, 2047, 2047, 198655, 460799, 1048575, 2097151, 4194303]
theorem dataflowlaw10_HierDispatch.tab21 : rtab .any (opsOf Tryd.f3 21) = dataflowlaw10_HierDispatch.T21 := by kernel_rfl
theorem dataflowlaw10_HierDispatch.bits21 : waitsOk dataflowlaw10_HierDispatch.T21.2 dataflowlaw10_HierDispatch.B21 = true := by kernel_rfl
set_option maxHeartbeats 8000000 in
set_option maxRecDepth 100000 in
theorem dataflowlaw10_HierDispatch.calls (k : Nat) (A0_0 : Option Addr) (c0_0 : Nat) (l0_0 : List (S32)) (a1 : ByteArray) (r : Bool) (w : World) (hr0_0 : Kd.C k32 w A0_0 l0_0.length l0_0) (hc0_0 : l0_0.length ≤ c0_0) (h : dataflowlaw10_HierDispatch.f k l0_0 a1 = some r) (hT : TabW w) :
  Calls Tryd.prog 3 #[.agg #[.slice A0_0 l0_0.length c0_0], .string a1] w fun e w' => e = .returned (.bool r) ∧ Below w.heap.size w w' := by
 have HTB_ := Aside0.mk hT
 clear hT
 have hu24 := Tryd.underlying24
 have hu37 := Tryd.underlying37
 have HR0_0 := Aside0.mk hr0_0
 have HC0_0 := Aside0.mk hc0_0
 clear hr0_0 hc0_0
 have HB := Aside0.mk (Below.refl w.heap.size w)
 have H : ((hier_Check.f k l0_0).bind fun bt455 => (if bt455.2 = 0 then (dataflowlaw10_HierDispatch.l0 k a1 0 l0_0) else ((dataflowlaw10_awake.f k).bind fun t457 => (some t457)))) = some r := h
 clear h
 replace H := Option.bind_eq_some_iff.mp H
 obtain ⟨⟨t455, t456⟩, A30, H⟩ := H
 replace H : (if t456 = 0 then (dataflowlaw10_HierDispatch.l0 k a1 0 l0_0) else ((dataflowlaw10_awake.f k).bind fun t457 => (some t457))) = some r := H
 have A3 := Aside0.mk A30
 clear A30
 by_cases c4 : t456 = 0
 ·rw [if_pos c4] at H
  have c4b0 : (t456 == 0) = true := beq_iff_eq.mpr c4
  have c4b1 : (t456 != 0) = false := bne_eq_false_iff_eq.mpr c4
  clear c4
  have H' := Aside0.mk H
  clear H
  go_enter Tryd.func3, Tryd.ntmps3
  go_wp2_with (first | ((with_reducible refine gate_dst (N := 2) rfl ?_); refine box_event ?hg (N := 2) ?hd (cs := #[.slice A0_0 l0_0.length c0_0]) (t := 24) ?hr ?_; (case hd => rfl); (case hg => rfl); (case hr => first | (go_simp; done) | (go_simp; rfl)); intro gb454 hg w5 hbox hb; have n0_ := Aside0.mk (below_step (by repeat with_reducible first | exact HB.out | apply below_alloc | apply pw_below_drewN | apply below_drew1) hb); have n1_ := Aside0.mk (hbox); have n2_ := Aside0.mk ((by rw [hg]; exact (below_size (by repeat with_reducible first | exact HB.out | apply below_alloc | apply pw_below_drewN | apply below_drew1)) : w.heap.size ≤ gb454)); have n3_ := Aside0.mk ((by rw [hg]; exact (below_size (by repeat with_reducible first | exact HB.out | apply below_alloc | apply pw_below_drewN | apply below_drew1)) : w.heap.size ≤ gb454)); clear HB; have HB := n0_; have BK454 := n1_; have GW454 := n2_; have GE454 := n3_; clear n0_ n1_ n2_ n3_; clear hb hbox hg; have hcz6_0 : w5.cell? ⟨gb454, 0, none⟩ = some (.slice A0_0 l0_0.length c0_0) := (blk_cell BK454.out 0).trans rfl; have hfz6_0 := blk_frozen BK454.out 0) | ((with_reducible refine gate_callee (f := 6) rfl ?_); refine goesL_ (some 20) rfl rfl Tryd.func6 (by kernel_rfl) rfl #[.agg #[.slice A0_0 l0_0.length c0_0]] rfl (by (try simp only [List.map_toArray, List.map_cons, List.map_nil]); first | done | rfl) ?_; (with_reducible refine (hier_Check.calls k _ _ l0_0 t455 t456 _ ?side1 ?side2 A3.out ?sideT).mono ?_); (case sideT => first | exact HTB_.out | exact HTB_.out.below (by repeat with_reducible first | exact HB.out | apply below_alloc | apply pw_below_drewN | apply below_drew1 | refine below_set ?_ GE454.out | refine below_set ?_ GE475.out)); (case side1 => repeat (first | exact (Kd.C_below HR0_0.out HB.out) | (with_reducible refine Kd.C_alloc ?_ _) | (with_reducible refine Kd.C_drewN ?_ _) | (with_reducible refine Kd.C_drew ?_))); (case side2 => exact HC0_0.out); rintro e w7 ⟨rfl, hb⟩; refine ⟨_, rfl, ?_⟩; have n0_ := Aside0.mk (blk_below (g := gb454) (o := .cells #[.slice A0_0 l0_0.length c0_0] 24 (0, 0)) (by (with_reducible repeat first | apply bn | apply bd | apply ba); exact BK454.out) hb); have n1_ := Aside0.mk (below_step (by repeat with_reducible first | exact HB.out | apply below_alloc | apply pw_below_drewN | apply below_drew1 | refine below_set ?_ GE454.out) hb); clear BK454; clear HB; have BK454 := n0_; have HB := n1_; clear n0_ n1_; (try clear hb); (try clear hb2); (try clear hk); (try clear hi)))
  go_loopg [7] k (fun kq v7 w' => ∃ (x7_1 : Int), v7 = .int .i64 x7_1 ∧ Aside0 (dataflowlaw10_HierDispatch.l0 kq a1 x7_1 l0_0 = some r) ∧ Aside0 (kq ≤ k) ∧ Aside0 (w'.heap[gb454]? = some (.cells #[(.slice A0_0 l0_0.length c0_0)] 24 (0, 0))) ∧ Aside0 (Below w.heap.size w w'))
  case atStart => exact ⟨(0), (by first | rfl | (simp; done) | (simp [*]; done)), H', ⟨Nat.le_refl _⟩, ⟨by (with_reducible repeat first | apply bn | apply bd | apply ba); exact BK454.out⟩, ⟨by repeat with_reducible first | exact HB.out | apply below_alloc | apply pw_below_drewN | apply below_drew1 | refine below_set ?_ GE454.out⟩⟩
  case round =>
   clear H'
   (try clear p2);(try clear c3);(try clear c4);(try clear c4b0);(try clear c4b1);(try clear c6);(try clear hcz6_0);(try clear hfz6_0)
   obtain ⟨x7_1, rfl, HA, HK1, BK454, HB⟩ := hrel
   cases gk with
   | zero => exact absurd HA.out (by simp [dataflowlaw10_HierDispatch.l0])
   | succ k1 =>
    have H := HA.out
    clear HA
    simp only [dataflowlaw10_HierDispatch.l0] at H
    by_cases c8 : x7_1 < (l0_0.length : Int)
    ·rw [if_pos c8] at H
     have c8b0 : decide (x7_1 < (l0_0.length : Int)) = true := decide_eq_true c8
     clear c8
     by_cases c9 : 0 ≤ x7_1
     ·rw [if_pos c9] at H
      have c9b0 : decide (0 ≤ x7_1) = true := decide_eq_true c9
      clear c9
      replace H := Option.bind_eq_some_iff.mp H
      obtain ⟨t460, A100, H⟩ := H
      replace H : ((hier_Targets.f k1 l0_0 ((rd_T32 l0_0 x7_1).f0) a1).bind fun t463 => (dataflowlaw10_HierDispatch.l1 k1 a1 x7_1 t460 t463 ([] : List ByteArray) 0 l0_0)) = some r := H
      have A10 := Aside0.mk A100
      clear A100
      replace H := Option.bind_eq_some_iff.mp H
      obtain ⟨t463, A110, H⟩ := H
      replace H : (dataflowlaw10_HierDispatch.l1 k1 a1 x7_1 t460 t463 ([] : List ByteArray) 0 l0_0) = some r := H
      have A11 := Aside0.mk A110
      clear A110
      have H' := Aside0.mk H
      clear H
      have hcz12_0 : wr.cell? ⟨gb454, 0, none⟩ = some (.slice A0_0 l0_0.length c0_0) := (blk_cell BK454.out 0).trans rfl
      have hfz12_0 := blk_frozen BK454.out 0
      have p459 : 0 ≤ (x7_1 : Int) := of_decide_eq_true (by first | (with_reducible assumption) | assumption)
      have q459 : x7_1 < (l0_0.length : Int) := of_decide_eq_true (by first | (with_reducible assumption) | assumption)
      obtain ⟨ad459, A459_2, c459_2, A459_3, c459_3, e459, hx459_0, hx459_1, hx459_2, hx459_3, hl459_2, hi459_2, hl459_3, hi459_3⟩ := at_T32 HR0_0.out x7_1 p459 q459
      cases e459
      replace hx459_0 := (HB.out.cell (World.block_lt_of_cell? w _ hx459_0)).trans hx459_0
      replace hx459_1 := (HB.out.cell (World.block_lt_of_cell? w _ hx459_1)).trans hx459_1
      replace hx459_2 := (HB.out.cell (World.block_lt_of_cell? w _ hx459_2)).trans hx459_2
      replace hx459_3 := (HB.out.cell (World.block_lt_of_cell? w _ hx459_3)).trans hx459_3
      have HR459_2 := Aside0.mk hi459_2
      have HC459_2 := Aside0.mk hl459_2
      clear hi459_2 hl459_2
      have HR459_3 := Aside0.mk hi459_3
      have HC459_3 := Aside0.mk hl459_3
      clear hi459_3 hl459_3
      replace p459 := eq_true p459
      replace q459 := eq_true q459
      try go_wp2
      have n0_ := Aside0.mk (blk_drew BK454.out)
      have n1_ := Aside0.mk (below_drew1 HB.out)
      clear BK454
      clear HB
      have BK454 := n0_
      have HB := n1_
      clear n0_ n1_
      refine start_ (n := 9) (S := fun w' => w'.cell? ⟨gb454, 0, none⟩ = some (.slice (some ad459) l0_0.length c0_0)) (ds := []) #[false,false,false,false,false,false,false,false,false] (by kernel_rfl) rfl rfl ((blk_cell BK454.out 0).trans rfl) (fun hHeld => ?_); refine with_tabW dataflowlaw10_HierDispatch.tab8 dataflowlaw10_HierDispatch.bits8 (fun HT_ HW_ => ?_)
      generalize wr.drew = w13 at BK454 HB hHeld ⊢
      refine pure_ (i := 1) (N := some 40) (v := ?_) (a' := ?_) #[false,true,false,false,false,false,false,false,false] rfl rfl (any_of HT_.out (by kernel_rfl)) (fun _ _ _ h => h) (Or.inl ⟨by rfl, ?_⟩) ?_ ?_
      rotate_left;focus(intro w';go_simp;with_reducible rfl)
      rotate_left;focus(simp only [Act.put, List.setIfInBounds_toArray, List.set_cons_zero, List.set_cons_succ, i64_w];rfl)
      refine pure_ (i := 4) (N := some 43) (v := ?_) (a' := ?_) #[false,true,false,false,true,false,false,false,false] rfl rfl (any_of HT_.out (by kernel_rfl)) (fun _ _ _ h => h) (Or.inl ⟨by rfl, ?_⟩) ?_ ?_
      rotate_left;focus(intro w';go_simp;with_reducible rfl)
      rotate_left;focus(simp only [Act.put, List.setIfInBounds_toArray, List.set_cons_zero, List.set_cons_succ, i64_w];rfl)
      refine pure_ (i := 5) (N := some 44) (v := ?_) (a' := ?_) #[false,true,false,false,true,true,false,false,false] rfl rfl (any_of HT_.out (by kernel_rfl)) (fun _ _ _ h => h) (Or.inl ⟨by rfl, ?_⟩) ?_ ?_
      rotate_left;focus(intro w';go_simp;with_reducible rfl)
      rotate_left;focus(simp only [Act.put, List.setIfInBounds_toArray, List.set_cons_zero, List.set_cons_succ, i64_w];rfl)
      refine take_ (i := 0) (N := some 39) (v := ?_) (a' := ?_) #[true,true,false,false,true,true,false,false,false] rfl rfl (take_ofW HT_.out HW_.out (by kernel_rfl)) (fun _ _ _ h => h) (Or.inl ⟨by rfl, ?_⟩) hHeld ?_ ?_
      rotate_left;focus(intro w' s0;go_simp;with_reducible rfl)
      rotate_left;focus(simp only [Act.put, List.setIfInBounds_toArray, List.set_cons_zero, List.set_cons_succ, i64_w];rfl)
      refine take_ (i := 3) (N := some 42) (v := ?_) (a' := ?_) #[true,true,false,true,true,true,false,false,false] rfl rfl (take_ofW HT_.out HW_.out (by kernel_rfl)) (fun _ _ _ h => h) (Or.inl ⟨by rfl, ?_⟩) hHeld ?_ ?_
      rotate_left;focus(intro w' s0;go_simp;with_reducible rfl)
      rotate_left;focus(simp only [Act.put, List.setIfInBounds_toArray, List.set_cons_zero, List.set_cons_succ, i64_w];rfl)
      refine one_ (i := 2) (N := some 41) #[true,true,true,true,true,true,false,false,false] rfl rfl (one_of HT_.out (by kernel_rfl)) (by decide) (fun K hK => ?_)
      refine goes_ Tryd.func8 (by kernel_rfl) rfl #[.agg #[.slice (some ad459) l0_0.length c0_0], .string ((rd_T32 l0_0 x7_1).f0)] (by rfl) rfl rfl (by (try simp only [List.map_toArray, List.map_cons, List.map_nil]); first | done | rfl) ?_
      with_reducible refine (hier_Subs.calls k1 _ _ l0_0 ((rd_T32 l0_0 x7_1).f0) t460 _ ?side1 ?side2 A10.out).mono ?_
      (case side1 => repeat (first | exact (Kd.C_below HR0_0.out HB.out) | (with_reducible refine Kd.C_alloc ?_ _) | (with_reducible refine Kd.C_drewN ?_ _) | (with_reducible refine Kd.C_drew ?_)))
      (case side2 => exact HC0_0.out)
      rintro e w14 ⟨v461, rfl, ho0, hb⟩
      refine ⟨_, rfl, ?_⟩
      have n0_ := Aside0.mk (Kd.R_lower ho0 (below_size (by repeat with_reducible first | exact HB.out | apply below_alloc | apply pw_below_drewN | apply below_drew1 | refine below_set ?_ GE454.out)))
      have n1_ := Aside0.mk (blk_below (g := gb454) (o := .cells #[.slice (some ad459) l0_0.length c0_0] 24 (0, 0)) (by (with_reducible repeat first | apply bn | apply bd | apply ba); exact BK454.out) hb)
      have n2_ := Aside0.mk (below_step (by repeat with_reducible first | exact HB.out | apply below_alloc | apply pw_below_drewN | apply below_drew1 | refine below_set ?_ GE454.out) hb)
      clear BK454
      clear HB
      have HO462 := n0_
      have BK454 := n1_
      have HB := n2_
      clear n0_ n1_ n2_
      (try clear hb)
      (try clear hb2)
      (try clear hk)
      (try clear hi)
      (try clear ho0)
      refine hK.out _ _ ((blk_cell BK454.out 0).trans rfl) (fun hHeld => ?_)
      clear hK K
      refine norm_ (a' := ?_) ?_ ?_
      rotate_left;focus(show Act.put _ (some 41) _ = _;simp only [Act.put, List.setIfInBounds_toArray, List.set_cons_zero, List.set_cons_succ, i64_w];rfl)
      refine one_ (i := 6) (N := some 45) #[true,true,true,true,true,true,true,false,false] rfl rfl (one_of HT_.out (by kernel_rfl)) (by decide) (fun K hK => ?_)
      refine goes_ Tryd.func9 (by kernel_rfl) rfl #[.agg #[.slice (some ad459) l0_0.length c0_0], .string ((rd_T32 l0_0 x7_1).f0), .string a1] (by rfl) rfl rfl (by (try simp only [List.map_toArray, List.map_cons, List.map_nil]); first | done | rfl) ?_
      with_reducible refine (hier_Targets.calls k1 _ _ l0_0 ((rd_T32 l0_0 x7_1).f0) a1 t463 _ ?side1 ?side2 A11.out).mono ?_
      (case side1 => repeat (first | exact (Kd.C_below HR0_0.out HB.out) | (with_reducible refine Kd.C_alloc ?_ _) | (with_reducible refine Kd.C_drewN ?_ _) | (with_reducible refine Kd.C_drew ?_)))
      (case side2 => exact HC0_0.out)
      rintro e w15 ⟨v464, rfl, ho0, hb⟩
      refine ⟨_, rfl, ?_⟩
      have n0_ := Aside0.mk (Kd.R_elder' (by (with_reducible repeat first | apply Kd.R_alloc | apply Kd.R_drewN | apply Kd.R_drew); exact HO462.out) (Kd.R_base ho0) hb)
      have n1_ := Aside0.mk (Kd.R_lower (Kd.R_new' ho0 (Kd.R_lt (by (with_reducible repeat first | apply Kd.R_alloc | apply Kd.R_drewN | apply Kd.R_drew); exact HO462.out))) (below_size (by repeat with_reducible first | exact HB.out | apply below_alloc | apply pw_below_drewN | apply below_drew1 | refine below_set ?_ GE454.out)))
      have n2_ := Aside0.mk (blk_below (g := gb454) (o := .cells #[.slice (some ad459) l0_0.length c0_0] 24 (0, 0)) (by (with_reducible repeat first | apply bn | apply bd | apply ba); exact BK454.out) hb)
      have n3_ := Aside0.mk (below_step (by repeat with_reducible first | exact HB.out | apply below_alloc | apply pw_below_drewN | apply below_drew1 | refine below_set ?_ GE454.out) hb)
      clear HO462
      clear BK454
      clear HB
      have HO462 := n0_
      have HO465 := n1_
      have BK454 := n2_
      have HB := n3_
      clear n0_ n1_ n2_ n3_
      (try clear hb)
      (try clear hb2)
      (try clear hk)
      (try clear hi)
      (try clear ho0)
      refine hK.out _ _ ((blk_cell BK454.out 0).trans rfl) (fun hHeld => ?_)
      clear hK K
      refine norm_ (a' := ?_) ?_ ?_
      rotate_left;focus(show Act.put _ (some 45) _ = _;simp only [Act.put, List.setIfInBounds_toArray, List.set_cons_zero, List.set_cons_succ, i64_w];rfl)
      refine pure_ (i := 7) (N := some 9) (v := ?_) (a' := ?_) #[true,true,true,true,true,true,true,true,false] rfl rfl (any_of HT_.out (by kernel_rfl)) (fun _ _ _ h => h) (Or.inl ⟨by rfl, ?_⟩) ?_ ?_
      rotate_left;focus(intro w';go_simp;with_reducible rfl)
      rotate_left;focus(simp only [Act.put, List.setIfInBounds_toArray, List.set_cons_zero, List.set_cons_succ, i64_w];rfl)
      refine pure_ (i := 8) (N := some 10) (v := ?_) (a' := ?_) #[true,true,true,true,true,true,true,true,true] rfl rfl (any_of HT_.out (by kernel_rfl)) (fun _ _ _ h => h) (Or.inl ⟨by rfl, ?_⟩) ?_ ?_
      rotate_left;focus(intro w';go_simp;with_reducible rfl)
      rotate_left;focus(simp only [Act.put, List.setIfInBounds_toArray, List.set_cons_zero, List.set_cons_succ, i64_w];rfl)
      refine done_ (done_of HT_.out (by kernel_rfl)) ?_
      try go_wp2
      go_loopg [11, 12] k1 (fun kq v11 v12 w' => ∃ (x11_2 : List ByteArray) (x12_2 : Int), v12 = .int .i64 x12_2 ∧ Aside0 (dataflowlaw10_HierDispatch.l1 kq a1 x7_1 t460 t463 x11_2 x12_2 l0_0 = some r) ∧ Aside0 (kq ≤ k1) ∧ Aside0 (Kd.R Kd.string 9 w' w.heap.size (fun k_ => some k_ ≠ (v464 : Value).ownBlock ∧ some k_ ≠ (v11 : Value).ownBlock) v461 t460) ∧ Aside0 (Kd.R Kd.string 9 w' w.heap.size (fun k_ => some k_ ≠ (v461 : Value).ownBlock ∧ some k_ ≠ (v11 : Value).ownBlock) v464 t463) ∧ Aside0 (Kd.R Kd.string 9 w' w.heap.size (fun k_ => some k_ ≠ (v461 : Value).ownBlock ∧ some k_ ≠ (v464 : Value).ownBlock) v11 x11_2) ∧ Aside0 (w'.heap[gb454]? = some (.cells #[(.slice (some ad459) l0_0.length c0_0)] 24 (0, 0))) ∧ Aside0 (Below w.heap.size w w'))
      case atStart => exact ⟨(([] : List ByteArray)), (0), (by first | rfl | (simp; done) | (simp [*]; done)), H', ⟨Nat.le_refl _⟩, ⟨by (with_reducible repeat first | apply Kd.R_alloc | apply Kd.R_drewN | apply Kd.R_drew); exact Kd.R_mono HO462.out (fun _ hk => ⟨hk.2, (by simp [Value.ownBlock])⟩)⟩, ⟨by (with_reducible repeat first | apply Kd.R_alloc | apply Kd.R_drewN | apply Kd.R_drew); exact Kd.R_mono HO465.out (fun _ hk => ⟨hk.2, (by simp [Value.ownBlock])⟩)⟩, ⟨by first | exact Kd.R_nil _ _ _ _ _ | exact Kd.N_nil _ _ _ _ _ | exact Kd.V_nil _ _ _ _ _ | exact Kd.Q_nil _ _ _ _ _ | exact Kd.S_nil _ _ _ _ _⟩, ⟨by (with_reducible repeat first | apply bn | apply bd | apply ba); exact BK454.out⟩, ⟨by repeat with_reducible first | exact HB.out | apply below_alloc | apply pw_below_drewN | apply below_drew1 | refine below_set ?_ GE454.out⟩⟩
      case round =>
       clear H'
       (try clear p2);(try clear c3);(try clear c4);(try clear c4b0);(try clear c4b1);(try clear p4);(try clear q4);(try clear hx4);(try clear c6);(try clear c8);(try clear c8b0);(try clear c9);(try clear c9b0);(try clear hcz12_0);(try clear hcz6_0);(try clear hfz12_0);(try clear hfz6_0);(try clear hx459_0);(try clear hx459_1);(try clear hx459_2);(try clear hx459_3);(try clear p2);(try clear p459);(try clear q459)
       obtain ⟨x11_2, x12_2, rfl, HA, HK2, HO_9, HO_10, HO_11, BK454, HB⟩ := hrel
       cases gk with
       | zero => exact absurd HA.out (by simp [dataflowlaw10_HierDispatch.l1])
       | succ k2 =>
        have H := HA.out
        clear HA
        simp only [dataflowlaw10_HierDispatch.l1] at H
        by_cases c16 : x12_2 < (t460.length : Int)
        ·rw [if_pos c16] at H
         have c16b0 : decide (x12_2 < (t460.length : Int)) = true := decide_eq_true c16
         clear c16
         by_cases c17 : 0 ≤ x12_2
         ·rw [if_pos c17] at H
          have c17b0 : decide (0 ≤ x12_2) = true := decide_eq_true c17
          clear c17
          replace H := Option.bind_eq_some_iff.mp H
          obtain ⟨⟨t467, t468, t469, t470, t473, t474⟩, A180, H⟩ := H
          replace H : ((dataflowref10_Supers.f k2 l0_0 (rdOf ByteArray.empty t460 x12_2)).bind fun t477 => ((dataflowlaw10_nearest.f k2 l0_0 t477 a1).bind fun t480 => (if (t474 != (t480.toList != ([] : List UInt8))) = true then (none) else (if t467.toList = t480.toList then (if t474 = true then (if t468.toList = a1.toList then ((dataflowlaw10_has.f k2 t463 t467).bind fun t481 => (if t481 = true then (if x11_2.length < 8796093022208 then (dataflowlaw10_HierDispatch.l1 k2 a1 x7_1 t460 t463 (x11_2 ++ [t467]) (wrap64 (x12_2 + 1)) l0_0) else (none)) else (none))) else (none)) else (if x11_2.length < 8796093022208 then (dataflowlaw10_HierDispatch.l1 k2 a1 x7_1 t460 t463 (x11_2 ++ [t467]) (wrap64 (x12_2 + 1)) l0_0) else (none))) else (none))))) = some r := H
          have A18 := Aside0.mk A180
          clear A180
          replace H := Option.bind_eq_some_iff.mp H
          obtain ⟨t477, A190, H⟩ := H
          replace H : ((dataflowlaw10_nearest.f k2 l0_0 t477 a1).bind fun t480 => (if (t474 != (t480.toList != ([] : List UInt8))) = true then (none) else (if t467.toList = t480.toList then (if t474 = true then (if t468.toList = a1.toList then ((dataflowlaw10_has.f k2 t463 t467).bind fun t481 => (if t481 = true then (if x11_2.length < 8796093022208 then (dataflowlaw10_HierDispatch.l1 k2 a1 x7_1 t460 t463 (x11_2 ++ [t467]) (wrap64 (x12_2 + 1)) l0_0) else (none)) else (none))) else (none)) else (if x11_2.length < 8796093022208 then (dataflowlaw10_HierDispatch.l1 k2 a1 x7_1 t460 t463 (x11_2 ++ [t467]) (wrap64 (x12_2 + 1)) l0_0) else (none))) else (none)))) = some r := H
          have A19 := Aside0.mk A190
          clear A190
          replace H := Option.bind_eq_some_iff.mp H
          obtain ⟨t480, A200, H⟩ := H
          replace H : (if (t474 != (t480.toList != ([] : List UInt8))) = true then (none) else (if t467.toList = t480.toList then (if t474 = true then (if t468.toList = a1.toList then ((dataflowlaw10_has.f k2 t463 t467).bind fun t481 => (if t481 = true then (if x11_2.length < 8796093022208 then (dataflowlaw10_HierDispatch.l1 k2 a1 x7_1 t460 t463 (x11_2 ++ [t467]) (wrap64 (x12_2 + 1)) l0_0) else (none)) else (none))) else (none)) else (if x11_2.length < 8796093022208 then (dataflowlaw10_HierDispatch.l1 k2 a1 x7_1 t460 t463 (x11_2 ++ [t467]) (wrap64 (x12_2 + 1)) l0_0) else (none))) else (none))) = some r := H
          have A20 := Aside0.mk A200
          clear A200
          by_cases c21 : (t474 != (t480.toList != ([] : List UInt8))) = true
          ·rw [if_pos c21] at H
           exact absurd H (by simp)
          ·rw [if_neg c21] at H
           have c21b0 : (t474 != (t480.toList != ([] : List UInt8))) = false := by simpa using c21
           (try (have c21b1 : decide (t474 = (t480.toList != ([] : List UInt8))) = true := by simpa using c21))
           (try (have c21b2 : (t474 == (t480.toList != ([] : List UInt8))) = true := by simpa using c21))
           clear c21
           by_cases c37 : t467.toList = t480.toList
           ·rw [if_pos c37] at H
            have c37b0 : (t467.toList == t480.toList) = true := beq_iff_eq.mpr c37
            have c37b1 : (t467.toList != t480.toList) = false := bne_eq_false_iff_eq.mpr c37
            clear c37
            by_cases c38 : t474 = true
            ·subst c38
             have c_c : ¬ t480.toList = [] := by intro h_; rw [h_] at c21b0; exact absurd c21b0 (by decide)
             have H1 : (if t468.toList = a1.toList then ((dataflowlaw10_has.f k2 t463 t467).bind fun t481 => (if t481 = true then (if x11_2.length < 8796093022208 then (dataflowlaw10_HierDispatch.l1 k2 a1 x7_1 t460 t463 (x11_2 ++ [t467]) (wrap64 (x12_2 + 1)) l0_0) else (none)) else (none))) else (none)) = some r := by rw [if_pos rfl] at H; exact H
             clear H
             have H := H1
             clear H1
             by_cases c39 : t468.toList = a1.toList
             ·rw [if_pos c39] at H
              have c39b0 : (t468.toList == a1.toList) = true := beq_iff_eq.mpr c39
              have c39b1 : (t468.toList != a1.toList) = false := bne_eq_false_iff_eq.mpr c39
              clear c39
              replace H := Option.bind_eq_some_iff.mp H
              obtain ⟨t481, A400, H⟩ := H
              replace H : (if t481 = true then (if x11_2.length < 8796093022208 then (dataflowlaw10_HierDispatch.l1 k2 a1 x7_1 t460 t463 (x11_2 ++ [t467]) (wrap64 (x12_2 + 1)) l0_0) else (none)) else (none)) = some r := H
              have A40 := Aside0.mk A400
              clear A400
              by_cases c41 : t481 = true
              ·subst c41
               have H1 : (if x11_2.length < 8796093022208 then (dataflowlaw10_HierDispatch.l1 k2 a1 x7_1 t460 t463 (x11_2 ++ [t467]) (wrap64 (x12_2 + 1)) l0_0) else (none)) = some r := by rw [if_pos rfl] at H; exact H
               clear H
               have H := H1
               clear H1
               by_cases c42 : x11_2.length < 8796093022208
               ·rw [if_pos c42] at H
                have LMc42 := Aside0.mk c42
                clear c42
                obtain ⟨y482, hy482⟩ : ∃ y_ : List ByteArray, y_ = (x11_2 ++ [t467]) := ⟨_, rfl⟩
                replace H : (dataflowlaw10_HierDispatch.l1 k2 a1 x7_1 t460 t463 y482 (wrap64 (x12_2 + 1)) l0_0) = some r := by first | (rw [hy482]; with_reducible exact H) | (have H2_ := (Option.bind_some _ _).symm.trans H; rw [hy482]; with_reducible exact H2_) | (have H2_ := (Option.bind_some _ _).symm.trans H; with_reducible exact H2_) | with_reducible exact H | (rw [hy482]; exact H) | exact H
                have Ny482 := Aside0.mk hy482
                clear hy482
                have H' := Aside0.mk H
                clear H
                obtain ⟨Ao43, co43, eo43⟩ := Kd.R_slice HO_9.out
                subst eo43
                try go_wp2
                have n0_ := Aside0.mk (Kd.R_drew HO_9.out)
                have n1_ := Aside0.mk (Kd.R_drew HO_10.out)
                have n2_ := Aside0.mk (Kd.R_drew HO_11.out)
                have n3_ := Aside0.mk (blk_drew BK454.out)
                have n4_ := Aside0.mk (below_drew1 HB.out)
                clear HO_9
                clear HO_10
                clear HO_11
                clear BK454
                clear HB
                have HO_9 := n0_
                have HO_10 := n1_
                have HO_11 := n2_
                have BK454 := n3_
                have HB := n4_
                clear n0_ n1_ n2_ n3_ n4_
                have p466 : 0 ≤ (x12_2 : Int) := of_decide_eq_true (by first | (with_reducible assumption) | assumption)
                have q466 : x12_2 < (t460.length : Int) := of_decide_eq_true (by first | (with_reducible assumption) | assumption)
                obtain ⟨ad466, e466, hx466_0⟩ := Kd.at_string (Kd.R_reads' HO_9.out).2.2 x12_2 p466 q466
                cases e466
                replace p466 := eq_true p466
                replace q466 := eq_true q466
                refine start_ (n := 15) (S := fun w' => w'.cell? ⟨gb454, 0, none⟩ = some (.slice (some ad459) l0_0.length c0_0) ∧ w'.cell? (ad466.add (x12_2).toNat) = some (.string (rdOf ByteArray.empty t460 x12_2))) (ds := []) #[false,false,false,false,false,false,false,false,false,false,false,false,false,false,false] (by kernel_rfl) rfl rfl ⟨(blk_cell BK454.out 0).trans rfl, hx466_0⟩ (fun hHeld => ?_); refine with_tabW dataflowlaw10_HierDispatch.tab13 dataflowlaw10_HierDispatch.bits13 (fun HT_ HW_ => ?_)
                generalize wr.drew = w44 at HO_9 HO_10 HO_11 BK454 HB hx466_0 hHeld ⊢
                refine pure_ (i := 1) (N := some 54) (v := ?_) (a' := ?_) #[false,true,false,false,false,false,false,false,false,false,false,false,false,false,false] rfl rfl (any_of HT_.out (by kernel_rfl)) (fun _ _ _ h => h) (Or.inl ⟨by rfl, ?_⟩) ?_ ?_
                rotate_left;focus(intro w';go_simp;with_reducible rfl)
                rotate_left;focus(simp only [Act.put, List.setIfInBounds_toArray, List.set_cons_zero, List.set_cons_succ, i64_w];rfl)
                refine pure_ (i := 2) (N := some 55) (v := ?_) (a' := ?_) #[false,true,true,false,false,false,false,false,false,false,false,false,false,false,false] rfl rfl (any_of HT_.out (by kernel_rfl)) (fun _ _ _ h => h) (Or.inl ⟨by rfl, ?_⟩) ?_ ?_
                rotate_left;focus(intro w';go_simp;with_reducible rfl)
                rotate_left;focus(simp only [Act.put, List.setIfInBounds_toArray, List.set_cons_zero, List.set_cons_succ, i64_w];rfl)
                refine pure_ (i := 3) (N := some 56) (v := ?_) (a' := ?_) #[false,true,true,true,false,false,false,false,false,false,false,false,false,false,false] rfl rfl (any_of HT_.out (by kernel_rfl)) (fun _ _ _ h => h) (Or.inl ⟨by rfl, ?_⟩) ?_ ?_
                rotate_left;focus(intro w';go_simp;with_reducible rfl)
                rotate_left;focus(simp only [Act.put, List.setIfInBounds_toArray, List.set_cons_zero, List.set_cons_succ, i64_w];rfl)
                refine pure_ (i := 5) (N := some 58) (v := ?_) (a' := ?_) #[false,true,true,true,false,true,false,false,false,false,false,false,false,false,false] rfl rfl (any_of HT_.out (by kernel_rfl)) (fun _ _ _ h => h) (Or.inl ⟨by rfl, ?_⟩) ?_ ?_
                rotate_left;focus(intro w';go_simp;with_reducible rfl)
                rotate_left;focus(simp only [Act.put, List.setIfInBounds_toArray, List.set_cons_zero, List.set_cons_succ, i64_w];rfl)
                refine take_ (i := 0) (N := some 53) (v := ?_) (a' := ?_) #[true,true,true,true,false,true,false,false,false,false,false,false,false,false,false] rfl rfl (take_ofW HT_.out HW_.out (by kernel_rfl)) (fun _ _ _ h => h) (Or.inl ⟨by rfl, ?_⟩) hHeld ?_ ?_
                rotate_left;focus(rintro w' ⟨s0, s1⟩;go_simp;with_reducible rfl)
                rotate_left;focus(simp only [Act.put, List.setIfInBounds_toArray, List.set_cons_zero, List.set_cons_succ, i64_w];rfl)
                refine take_ (i := 4) (N := some 57) (v := ?_) (a' := ?_) #[true,true,true,true,true,true,false,false,false,false,false,false,false,false,false] rfl rfl (take_ofW HT_.out HW_.out (by kernel_rfl)) (fun _ _ _ h => h) (Or.inl ⟨by rfl, ?_⟩) hHeld ?_ ?_
                rotate_left;focus(rintro w' ⟨s0, s1⟩;go_simp;with_reducible rfl)
                rotate_left;focus(simp only [Act.put, List.setIfInBounds_toArray, List.set_cons_zero, List.set_cons_succ, i64_w];rfl)
                refine join_ (σ := Value × Nat) 3 #[true,true,true,true,true,true,true,true,true,true,true,true,false,false,false] (fun s_ => [(59, .tuple #[.string t467, .agg #[.string t468, .bool t469, s_.1, .string t473], .bool true]), (14, .pointer (some ⟨s_.2, 0, none⟩)), (52, .tuple #[.string t467, .agg #[.string t468, .bool t469, s_.1, .string t473], .bool true]), (60, .string t467), (61, .agg #[.string t468, .bool t469, s_.1, .string t473]), (62, .bool true)]) (fun s_ w' => (w'.cell? ⟨gb454, 0, none⟩ = some (.slice (some ad459) l0_0.length c0_0) ∧ w'.cell? (ad466.add (x12_2).toNat) = some (.string (rdOf ByteArray.empty t460 x12_2))) ∧ (Kd.R Kd.string 9 w' w.heap.size (fun k_ => some k_ ≠ (v464 : Value).ownBlock ∧ some k_ ≠ (u11 : Value).ownBlock ∧ some k_ ≠ (.slice (some ad466) t460.length co43 : Value).ownBlock) s_.1 t470) ∧ (Kd.R Kd.string 9 w' w.heap.size (fun k_ => some k_ ≠ (s_.1 : Value).ownBlock ∧ some k_ ≠ (u11 : Value).ownBlock ∧ some k_ ≠ (.slice (some ad466) t460.length co43 : Value).ownBlock) v464 t463) ∧ (Kd.R Kd.string 9 w' w.heap.size (fun k_ => some k_ ≠ (s_.1 : Value).ownBlock ∧ some k_ ≠ (v464 : Value).ownBlock ∧ some k_ ≠ (.slice (some ad466) t460.length co43 : Value).ownBlock) u11 x11_2) ∧ (Kd.R Kd.string 9 w' w.heap.size (fun k_ => some k_ ≠ (s_.1 : Value).ownBlock ∧ some k_ ≠ (v464 : Value).ownBlock ∧ some k_ ≠ (u11 : Value).ownBlock) (.slice (some ad466) t460.length co43) t460) ∧ (w'.heap[gb454]? = some (.cells #[.slice (some ad459) l0_0.length c0_0] 24 (0, 0))) ∧ (w'.heap[s_.2]? = some (.cells #[.string (⟨#[]⟩ : ByteArray), .bool false, .slice none 0 0, .string (⟨#[]⟩ : ByteArray)] 37 (0, 0))) ∧ (w.heap.size ≤ s_.2) ∧ (w.heap.size ≤ s_.2) ∧ (gb454 ≠ s_.2) ∧ (s_.2 ≠ gb454) ∧ (Below w.heap.size w w')) ?_ ?_
                rotate_left
                ·intro hCont
                 refine two_ (i := 6) (j := 11) (Ni := some 59) (Nj := some 14) #[true,true,true,true,true,true,true,false,false,false,false,false,false,false,false] #[true,true,true,true,true,true,false,false,false,false,false,true,false,false,false] rfl rfl rfl rfl (two_of HT_.out (by kernel_rfl)) (by decide) (by decide) (fun K hK => ?_) (fun K hK => ?_)
                 ·skip
                  refine goes_ Tryd.func10 (by kernel_rfl) rfl #[.agg #[.slice (some ad459) l0_0.length c0_0], .string (rdOf ByteArray.empty t460 x12_2), .string a1] (by rfl) rfl rfl (by (try simp only [List.map_toArray, List.map_cons, List.map_nil]); first | done | rfl) ?_
                  with_reducible refine (hier_Lookup.calls k2 _ _ l0_0 (rdOf ByteArray.empty t460 x12_2) a1 t467 t468 t469 t470 t473 true _ ?side1 ?side2 A18.out).mono ?_
                  (case side1 => repeat (first | exact (Kd.C_below HR0_0.out HB.out) | (with_reducible refine Kd.C_alloc ?_ _) | (with_reducible refine Kd.C_drewN ?_ _) | (with_reducible refine Kd.C_drew ?_)))
                  (case side2 => exact HC0_0.out)
                  rintro e w45 ⟨v471, rfl, ho0, hb⟩
                  have HS1_ := (hb.cell (World.block_lt_of_cell? _ _ (hHeld.2))).trans (hHeld.2)
                  refine ⟨_, rfl, ?_⟩
                  have n0_ := Aside0.mk (Kd.R_elder' (by (with_reducible repeat first | apply Kd.R_alloc | apply Kd.R_drewN | apply Kd.R_drew); exact HO_9.out) (Kd.R_base ho0) hb)
                  have n1_ := Aside0.mk (Kd.R_elder' (by (with_reducible repeat first | apply Kd.R_alloc | apply Kd.R_drewN | apply Kd.R_drew); exact HO_10.out) (Kd.R_base ho0) hb)
                  have n2_ := Aside0.mk (Kd.R_elder' (by (with_reducible repeat first | apply Kd.R_alloc | apply Kd.R_drewN | apply Kd.R_drew); exact HO_11.out) (Kd.R_base ho0) hb)
                  have n3_ := Aside0.mk (Kd.R_lower (Kd.R_new' (Kd.R_new' (Kd.R_new' ho0 (Kd.R_lt (by (with_reducible repeat first | apply Kd.R_alloc | apply Kd.R_drewN | apply Kd.R_drew); exact HO_9.out))) (Kd.R_lt (by (with_reducible repeat first | apply Kd.R_alloc | apply Kd.R_drewN | apply Kd.R_drew); exact HO_10.out))) (Kd.R_lt (by (with_reducible repeat first | apply Kd.R_alloc | apply Kd.R_drewN | apply Kd.R_drew); exact HO_11.out))) (below_size (by repeat with_reducible first | exact HB.out | apply below_alloc | apply pw_below_drewN | apply below_drew1 | refine below_set ?_ GE454.out)))
                  have n4_ := Aside0.mk (blk_below (g := gb454) (o := .cells #[.slice (some ad459) l0_0.length c0_0] 24 (0, 0)) (by (with_reducible repeat first | apply bn | apply bd | apply ba); exact BK454.out) hb)
                  have n5_ := Aside0.mk (below_step (by repeat with_reducible first | exact HB.out | apply below_alloc | apply pw_below_drewN | apply below_drew1 | refine below_set ?_ GE454.out) hb)
                  clear HO_9
                  clear HO_10
                  clear HO_11
                  clear BK454
                  clear HB
                  have HO_9 := n0_
                  have HO_10 := n1_
                  have HO_11 := n2_
                  have HO472 := n3_
                  have BK454 := n4_
                  have HB := n5_
                  clear n0_ n1_ n2_ n3_ n4_ n5_
                  (try clear hb)
                  (try clear hb2)
                  (try clear hk)
                  (try clear hi)
                  (try clear ho0)
                  refine hK.out _ _ ⟨(blk_cell BK454.out 0).trans rfl, HS1_⟩ (fun hHeld => ?_)
                  clear hK K
                  refine norm_ (a' := ?_) ?_ ?_
                  rotate_left;focus(show Act.put _ (some 59) _ = _;simp only [Act.put, List.setIfInBounds_toArray, List.set_cons_zero, List.set_cons_succ, i64_w];rfl)
                  refine pure_ (i := 7) (N := some 52) (v := ?_) (a' := ?_) #[true,true,true,true,true,true,true,true,false,false,false,false,false,false,false] rfl rfl (any_of HT_.out (by kernel_rfl)) (fun _ _ _ h => h) (Or.inl ⟨by rfl, ?_⟩) ?_ ?_
                  rotate_left;focus(intro w';go_simp;with_reducible rfl)
                  rotate_left;focus(simp only [Act.put, List.setIfInBounds_toArray, List.set_cons_zero, List.set_cons_succ, i64_w];rfl)
                  refine pure_ (i := 8) (N := some 60) (v := ?_) (a' := ?_) #[true,true,true,true,true,true,true,true,true,false,false,false,false,false,false] rfl rfl (any_of HT_.out (by kernel_rfl)) (fun _ _ _ h => h) (Or.inl ⟨by rfl, ?_⟩) ?_ ?_
                  rotate_left;focus(intro w';go_simp;with_reducible rfl)
                  rotate_left;focus(simp only [Act.put, List.setIfInBounds_toArray, List.set_cons_zero, List.set_cons_succ, i64_w];rfl)
                  refine pure_ (i := 9) (N := some 61) (v := ?_) (a' := ?_) #[true,true,true,true,true,true,true,true,true,true,false,false,false,false,false] rfl rfl (any_of HT_.out (by kernel_rfl)) (fun _ _ _ h => h) (Or.inl ⟨by rfl, ?_⟩) ?_ ?_
                  rotate_left;focus(intro w';go_simp;with_reducible rfl)
                  rotate_left;focus(simp only [Act.put, List.setIfInBounds_toArray, List.set_cons_zero, List.set_cons_succ, i64_w];rfl)
                  refine pure_ (i := 10) (N := some 62) (v := ?_) (a' := ?_) #[true,true,true,true,true,true,true,true,true,true,true,false,false,false,false] rfl rfl (any_of HT_.out (by kernel_rfl)) (fun _ _ _ h => h) (Or.inl ⟨by rfl, ?_⟩) ?_ ?_
                  rotate_left;focus(intro w';go_simp;with_reducible rfl)
                  rotate_left;focus(simp only [Act.put, List.setIfInBounds_toArray, List.set_cons_zero, List.set_cons_succ, i64_w];rfl)
                  refine one_ (i := 11) (N := some 14) #[true,true,true,true,true,true,true,true,true,true,true,true,false,false,false] rfl rfl (one_of HT_.out (by kernel_rfl)) (by decide) (fun K hK => ?_)
                  refine box_step ?hg (N := 14) ?hd (cs := #[.string (⟨#[]⟩ : ByteArray), .bool false, .slice none 0 0, .string (⟨#[]⟩ : ByteArray)]) (t := 37) ?hr ?_; (case hd => rfl); (case hg => rfl); (case hr => first | (go_simp; done) | (go_simp; rfl))
                  intro gb475 hg w46 hbox hb
                  have HS1_ := (hb.cell (World.block_lt_of_cell? _ _ (hHeld.2))).trans (hHeld.2)
                  have n0_ := Aside0.mk (Kd.R_below (by (with_reducible repeat first | apply Kd.R_alloc | apply Kd.R_drewN | apply Kd.R_drew); exact HO_9.out) hb)
                  have n1_ := Aside0.mk (Kd.R_below (by (with_reducible repeat first | apply Kd.R_alloc | apply Kd.R_drewN | apply Kd.R_drew); exact HO_10.out) hb)
                  have n2_ := Aside0.mk (Kd.R_below (by (with_reducible repeat first | apply Kd.R_alloc | apply Kd.R_drewN | apply Kd.R_drew); exact HO_11.out) hb)
                  have n3_ := Aside0.mk (Kd.R_below (by (with_reducible repeat first | apply Kd.R_alloc | apply Kd.R_drewN | apply Kd.R_drew); exact HO472.out) hb)
                  have n4_ := Aside0.mk (blk_below (g := gb454) (o := .cells #[.slice (some ad459) l0_0.length c0_0] 24 (0, 0)) (by (with_reducible repeat first | apply bn | apply bd | apply ba); exact BK454.out) hb)
                  have n5_ := Aside0.mk (below_step (by repeat with_reducible first | exact HB.out | apply below_alloc | apply pw_below_drewN | apply below_drew1 | refine below_set ?_ GE454.out) hb)
                  have n6_ := Aside0.mk (hbox)
                  have n7_ := Aside0.mk ((by rw [hg]; exact (below_size (by repeat with_reducible first | exact HB.out | apply below_alloc | apply pw_below_drewN | apply below_drew1 | refine below_set ?_ GE454.out)) : w.heap.size ≤ gb475))
                  have n8_ := Aside0.mk ((by rw [hg]; exact (below_size (by repeat with_reducible first | exact HB.out | apply below_alloc | apply pw_below_drewN | apply below_drew1 | refine below_set ?_ GE454.out)) : w.heap.size ≤ gb475))
                  have n9_ := Aside0.mk ((by rw [hg]; exact Nat.ne_of_lt (blk_lt (g := gb454) (o := .cells #[.slice (some ad459) l0_0.length c0_0] 24 (0, 0)) (by (with_reducible repeat first | apply bn | apply bd | apply ba); exact BK454.out)) : gb454 ≠ gb475))
                  have n10_ := Aside0.mk ((by rw [hg]; exact Nat.ne_of_gt (blk_lt (g := gb454) (o := .cells #[.slice (some ad459) l0_0.length c0_0] 24 (0, 0)) (by (with_reducible repeat first | apply bn | apply bd | apply ba); exact BK454.out)) : gb475 ≠ gb454))
                  clear HO_9
                  clear HO_10
                  clear HO_11
                  clear HO472
                  clear BK454
                  clear HB
                  have HO_9 := n0_
                  have HO_10 := n1_
                  have HO_11 := n2_
                  have HO472 := n3_
                  have BK454 := n4_
                  have HB := n5_
                  have BK475 := n6_
                  have GW475 := n7_
                  have GE475 := n8_
                  have NB454_475 := n9_
                  have NB475_454 := n10_
                  clear n0_ n1_ n2_ n3_ n4_ n5_ n6_ n7_ n8_ n9_ n10_
                  clear hb hbox hg
                  refine hK.out _ _ ⟨(blk_cell BK454.out 0).trans rfl, HS1_⟩ (fun hHeld => ?_)
                  clear hK K
                  refine norm_ (a' := ?_) ?_ ?_
                  rotate_left;focus(show Act.put _ (some 14) _ = _;simp only [Act.put, List.setIfInBounds_toArray, List.set_cons_zero, List.set_cons_succ, i64_w];rfl)
                  exact norm_ (by simp only [putAll, Act.put, List.setIfInBounds_toArray, List.set_cons_zero, List.set_cons_succ]) (hCont (v471, gb475) _ ⟨hHeld, (by (with_reducible repeat first | apply Kd.R_alloc | apply Kd.R_drewN | apply Kd.R_drew); exact Kd.R_mono HO472.out (fun _ hk => ⟨hk.1.2, ⟨hk.2, hk.1.1.2⟩⟩)), (by (with_reducible repeat first | apply Kd.R_alloc | apply Kd.R_drewN | apply Kd.R_drew); exact Kd.R_mono HO_10.out (fun _ hk => ⟨hk.2, ⟨hk.1.2, hk.1.1⟩⟩)), (by (with_reducible repeat first | apply Kd.R_alloc | apply Kd.R_drewN | apply Kd.R_drew); exact Kd.R_mono HO_11.out (fun _ hk => ⟨hk.2, ⟨hk.1.2, hk.1.1⟩⟩)), (by (with_reducible repeat first | apply Kd.R_alloc | apply Kd.R_drewN | apply Kd.R_drew); exact Kd.R_mono HO_9.out (fun _ hk => ⟨hk.2, ⟨hk.1.1, hk.1.2⟩⟩)), (by (with_reducible repeat first | apply bn | apply bd | apply ba); exact BK454.out), (by (with_reducible repeat first | apply bn | apply bd | apply ba); exact BK475.out), GW475.out, GE475.out, NB454_475.out, NB475_454.out, (by repeat with_reducible first | exact HB.out | apply below_alloc | apply pw_below_drewN | apply below_drew1 | refine below_set ?_ GE454.out | refine below_set ?_ GE475.out)⟩)
                 ·skip
                  refine box_step ?hg (N := 14) ?hd (cs := #[.string (⟨#[]⟩ : ByteArray), .bool false, .slice none 0 0, .string (⟨#[]⟩ : ByteArray)]) (t := 37) ?hr ?_; (case hd => rfl); (case hg => rfl); (case hr => first | (go_simp; done) | (go_simp; rfl))
                  intro gb475 hg w45 hbox hb
                  have HS1_ := (hb.cell (World.block_lt_of_cell? _ _ (hHeld.2))).trans (hHeld.2)
                  have n0_ := Aside0.mk (Kd.R_below (by (with_reducible repeat first | apply Kd.R_alloc | apply Kd.R_drewN | apply Kd.R_drew); exact HO_9.out) hb)
                  have n1_ := Aside0.mk (Kd.R_below (by (with_reducible repeat first | apply Kd.R_alloc | apply Kd.R_drewN | apply Kd.R_drew); exact HO_10.out) hb)
                  have n2_ := Aside0.mk (Kd.R_below (by (with_reducible repeat first | apply Kd.R_alloc | apply Kd.R_drewN | apply Kd.R_drew); exact HO_11.out) hb)
                  have n3_ := Aside0.mk (blk_below (g := gb454) (o := .cells #[.slice (some ad459) l0_0.length c0_0] 24 (0, 0)) (by (with_reducible repeat first | apply bn | apply bd | apply ba); exact BK454.out) hb)
                  have n4_ := Aside0.mk (below_step (by repeat with_reducible first | exact HB.out | apply below_alloc | apply pw_below_drewN | apply below_drew1 | refine below_set ?_ GE454.out) hb)
                  have n5_ := Aside0.mk (hbox)
                  have n6_ := Aside0.mk ((by rw [hg]; exact (below_size (by repeat with_reducible first | exact HB.out | apply below_alloc | apply pw_below_drewN | apply below_drew1 | refine below_set ?_ GE454.out)) : w.heap.size ≤ gb475))
                  have n7_ := Aside0.mk ((by rw [hg]; exact (below_size (by repeat with_reducible first | exact HB.out | apply below_alloc | apply pw_below_drewN | apply below_drew1 | refine below_set ?_ GE454.out)) : w.heap.size ≤ gb475))
                  have n8_ := Aside0.mk ((by rw [hg]; exact Nat.ne_of_lt (blk_lt (g := gb454) (o := .cells #[.slice (some ad459) l0_0.length c0_0] 24 (0, 0)) (by (with_reducible repeat first | apply bn | apply bd | apply ba); exact BK454.out)) : gb454 ≠ gb475))
                  have n9_ := Aside0.mk ((by rw [hg]; exact Nat.ne_of_gt (blk_lt (g := gb454) (o := .cells #[.slice (some ad459) l0_0.length c0_0] 24 (0, 0)) (by (with_reducible repeat first | apply bn | apply bd | apply ba); exact BK454.out)) : gb475 ≠ gb454))
                  clear HO_9
                  clear HO_10
                  clear HO_11
                  clear BK454
                  clear HB
                  have HO_9 := n0_
                  have HO_10 := n1_
                  have HO_11 := n2_
                  have BK454 := n3_
                  have HB := n4_
                  have BK475 := n5_
                  have GW475 := n6_
                  have GE475 := n7_
                  have NB454_475 := n8_
                  have NB475_454 := n9_
                  clear n0_ n1_ n2_ n3_ n4_ n5_ n6_ n7_ n8_ n9_
                  clear hb hbox hg
                  refine hK.out _ _ ⟨(blk_cell BK454.out 0).trans rfl, HS1_⟩ (fun hHeld => ?_)
                  clear hK K
                  refine norm_ (a' := ?_) ?_ ?_
                  rotate_left;focus(show Act.put _ (some 14) _ = _;simp only [Act.put, List.setIfInBounds_toArray, List.set_cons_zero, List.set_cons_succ, i64_w];rfl)
                  refine one_ (i := 6) (N := some 59) #[true,true,true,true,true,true,true,false,false,false,false,true,false,false,false] rfl rfl (one_of HT_.out (by kernel_rfl)) (by decide) (fun K hK => ?_)
                  refine goes_ Tryd.func10 (by kernel_rfl) rfl #[.agg #[.slice (some ad459) l0_0.length c0_0], .string (rdOf ByteArray.empty t460 x12_2), .string a1] (by rfl) rfl rfl (by (try simp only [List.map_toArray, List.map_cons, List.map_nil]); first | done | rfl) ?_
                  with_reducible refine (hier_Lookup.calls k2 _ _ l0_0 (rdOf ByteArray.empty t460 x12_2) a1 t467 t468 t469 t470 t473 true _ ?side1 ?side2 A18.out).mono ?_
                  (case side1 => repeat (first | exact (Kd.C_below HR0_0.out HB.out) | (with_reducible refine Kd.C_alloc ?_ _) | (with_reducible refine Kd.C_drewN ?_ _) | (with_reducible refine Kd.C_drew ?_)))
                  (case side2 => exact HC0_0.out)
                  rintro e w46 ⟨v471, rfl, ho0, hb⟩
                  have HS1_ := (hb.cell (World.block_lt_of_cell? _ _ (hHeld.2))).trans (hHeld.2)
                  refine ⟨_, rfl, ?_⟩
                  have n0_ := Aside0.mk (Kd.R_elder' (by (with_reducible repeat first | apply Kd.R_alloc | apply Kd.R_drewN | apply Kd.R_drew); exact HO_9.out) (Kd.R_base ho0) hb)
                  have n1_ := Aside0.mk (Kd.R_elder' (by (with_reducible repeat first | apply Kd.R_alloc | apply Kd.R_drewN | apply Kd.R_drew); exact HO_10.out) (Kd.R_base ho0) hb)
                  have n2_ := Aside0.mk (Kd.R_elder' (by (with_reducible repeat first | apply Kd.R_alloc | apply Kd.R_drewN | apply Kd.R_drew); exact HO_11.out) (Kd.R_base ho0) hb)
                  have n3_ := Aside0.mk (Kd.R_lower (Kd.R_new' (Kd.R_new' (Kd.R_new' ho0 (Kd.R_lt (by (with_reducible repeat first | apply Kd.R_alloc | apply Kd.R_drewN | apply Kd.R_drew); exact HO_9.out))) (Kd.R_lt (by (with_reducible repeat first | apply Kd.R_alloc | apply Kd.R_drewN | apply Kd.R_drew); exact HO_10.out))) (Kd.R_lt (by (with_reducible repeat first | apply Kd.R_alloc | apply Kd.R_drewN | apply Kd.R_drew); exact HO_11.out))) (below_size (by repeat with_reducible first | exact HB.out | apply below_alloc | apply pw_below_drewN | apply below_drew1 | refine below_set ?_ GE454.out | refine below_set ?_ GE475.out)))
                  have n4_ := Aside0.mk (blk_below (g := gb454) (o := .cells #[.slice (some ad459) l0_0.length c0_0] 24 (0, 0)) (by (with_reducible repeat first | apply bn | apply bd | apply ba); exact BK454.out) hb)
                  have n5_ := Aside0.mk (blk_below (g := gb475) (o := .cells #[.string (⟨#[]⟩ : ByteArray), .bool false, .slice none 0 0, .string (⟨#[]⟩ : ByteArray)] 37 (0, 0)) (by (with_reducible repeat first | apply bn | apply bd | apply ba); exact BK475.out) hb)
                  have n6_ := Aside0.mk (below_step (by repeat with_reducible first | exact HB.out | apply below_alloc | apply pw_below_drewN | apply below_drew1 | refine below_set ?_ GE454.out | refine below_set ?_ GE475.out) hb)
                  clear HO_9
                  clear HO_10
                  clear HO_11
                  clear BK454
                  clear BK475
                  clear HB
                  have HO_9 := n0_
                  have HO_10 := n1_
                  have HO_11 := n2_
                  have HO472 := n3_
                  have BK454 := n4_
                  have BK475 := n5_
                  have HB := n6_
                  clear n0_ n1_ n2_ n3_ n4_ n5_ n6_
                  (try clear hb)
                  (try clear hb2)
                  (try clear hk)
                  (try clear hi)
                  (try clear ho0)
                  refine hK.out _ _ ⟨(blk_cell BK454.out 0).trans rfl, HS1_⟩ (fun hHeld => ?_)
                  clear hK K
                  refine norm_ (a' := ?_) ?_ ?_
                  rotate_left;focus(show Act.put _ (some 59) _ = _;simp only [Act.put, List.setIfInBounds_toArray, List.set_cons_zero, List.set_cons_succ, i64_w];rfl)
                  refine pure_ (i := 7) (N := some 52) (v := ?_) (a' := ?_) #[true,true,true,true,true,true,true,true,false,false,false,true,false,false,false] rfl rfl (any_of HT_.out (by kernel_rfl)) (fun _ _ _ h => h) (Or.inl ⟨by rfl, ?_⟩) ?_ ?_
                  rotate_left;focus(intro w';go_simp;with_reducible rfl)
                  rotate_left;focus(simp only [Act.put, List.setIfInBounds_toArray, List.set_cons_zero, List.set_cons_succ, i64_w];rfl)
                  refine pure_ (i := 8) (N := some 60) (v := ?_) (a' := ?_) #[true,true,true,true,true,true,true,true,true,false,false,true,false,false,false] rfl rfl (any_of HT_.out (by kernel_rfl)) (fun _ _ _ h => h) (Or.inl ⟨by rfl, ?_⟩) ?_ ?_
                  rotate_left;focus(intro w';go_simp;with_reducible rfl)
                  rotate_left;focus(simp only [Act.put, List.setIfInBounds_toArray, List.set_cons_zero, List.set_cons_succ, i64_w];rfl)
                  refine pure_ (i := 9) (N := some 61) (v := ?_) (a' := ?_) #[true,true,true,true,true,true,true,true,true,true,false,true,false,false,false] rfl rfl (any_of HT_.out (by kernel_rfl)) (fun _ _ _ h => h) (Or.inl ⟨by rfl, ?_⟩) ?_ ?_
                  rotate_left;focus(intro w';go_simp;with_reducible rfl)
                  rotate_left;focus(simp only [Act.put, List.setIfInBounds_toArray, List.set_cons_zero, List.set_cons_succ, i64_w];rfl)
                  refine pure_ (i := 10) (N := some 62) (v := ?_) (a' := ?_) #[true,true,true,true,true,true,true,true,true,true,true,true,false,false,false] rfl rfl (any_of HT_.out (by kernel_rfl)) (fun _ _ _ h => h) (Or.inl ⟨by rfl, ?_⟩) ?_ ?_
                  rotate_left;focus(intro w';go_simp;with_reducible rfl)
                  rotate_left;focus(simp only [Act.put, List.setIfInBounds_toArray, List.set_cons_zero, List.set_cons_succ, i64_w];rfl)
                  exact norm_ (by simp only [putAll, Act.put, List.setIfInBounds_toArray, List.set_cons_zero, List.set_cons_succ]) (hCont (v471, gb475) _ ⟨hHeld, (by (with_reducible repeat first | apply Kd.R_alloc | apply Kd.R_drewN | apply Kd.R_drew); exact Kd.R_mono HO472.out (fun _ hk => ⟨hk.1.2, ⟨hk.2, hk.1.1.2⟩⟩)), (by (with_reducible repeat first | apply Kd.R_alloc | apply Kd.R_drewN | apply Kd.R_drew); exact Kd.R_mono HO_10.out (fun _ hk => ⟨hk.2, ⟨hk.1.2, hk.1.1⟩⟩)), (by (with_reducible repeat first | apply Kd.R_alloc | apply Kd.R_drewN | apply Kd.R_drew); exact Kd.R_mono HO_11.out (fun _ hk => ⟨hk.2, ⟨hk.1.2, hk.1.1⟩⟩)), (by (with_reducible repeat first | apply Kd.R_alloc | apply Kd.R_drewN | apply Kd.R_drew); exact Kd.R_mono HO_9.out (fun _ hk => ⟨hk.2, ⟨hk.1.1, hk.1.2⟩⟩)), (by (with_reducible repeat first | apply bn | apply bd | apply ba); exact BK454.out), (by (with_reducible repeat first | apply bn | apply bd | apply ba); exact BK475.out), GW475.out, GE475.out, NB454_475.out, NB475_454.out, (by repeat with_reducible first | exact HB.out | apply below_alloc | apply pw_below_drewN | apply below_drew1 | refine below_set ?_ GE454.out | refine below_set ?_ GE475.out)⟩)
                rintro ⟨v471, gb475⟩ w47 ⟨hS_, h0_, h1_, h2_, h3_, h4_, h5_, h6_, h7_, h8_, h9_, h10_⟩
                have n0_ : Aside0 (Kd.R Kd.string 9 w47 w.heap.size (fun k_ => some k_ ≠ (v464 : Value).ownBlock ∧ some k_ ≠ (u11 : Value).ownBlock ∧ some k_ ≠ (.slice (some ad466) t460.length co43 : Value).ownBlock) v471 t470) := ⟨h0_⟩
                have n1_ : Aside0 (Kd.R Kd.string 9 w47 w.heap.size (fun k_ => some k_ ≠ (v471 : Value).ownBlock ∧ some k_ ≠ (u11 : Value).ownBlock ∧ some k_ ≠ (.slice (some ad466) t460.length co43 : Value).ownBlock) v464 t463) := ⟨h1_⟩
                have n2_ : Aside0 (Kd.R Kd.string 9 w47 w.heap.size (fun k_ => some k_ ≠ (v471 : Value).ownBlock ∧ some k_ ≠ (v464 : Value).ownBlock ∧ some k_ ≠ (.slice (some ad466) t460.length co43 : Value).ownBlock) u11 x11_2) := ⟨h2_⟩
                have n3_ : Aside0 (Kd.R Kd.string 9 w47 w.heap.size (fun k_ => some k_ ≠ (v471 : Value).ownBlock ∧ some k_ ≠ (v464 : Value).ownBlock ∧ some k_ ≠ (u11 : Value).ownBlock) (.slice (some ad466) t460.length co43) t460) := ⟨h3_⟩
                have n4_ : Aside0 (w47.heap[gb454]? = some (.cells #[.slice (some ad459) l0_0.length c0_0] 24 (0, 0))) := ⟨h4_⟩
                have n5_ : Aside0 (w47.heap[gb475]? = some (.cells #[.string (⟨#[]⟩ : ByteArray), .bool false, .slice none 0 0, .string (⟨#[]⟩ : ByteArray)] 37 (0, 0))) := ⟨h5_⟩
                have n6_ : Aside0 (w.heap.size ≤ gb475) := ⟨h6_⟩
                have n7_ : Aside0 (w.heap.size ≤ gb475) := ⟨h7_⟩
                have n8_ : Aside0 (gb454 ≠ gb475) := ⟨h8_⟩
                have n9_ : Aside0 (gb475 ≠ gb454) := ⟨h9_⟩
                have n10_ : Aside0 (Below w.heap.size w w47) := ⟨h10_⟩
                clear HO_9
                clear HO_10
                clear HO_11
                clear BK454
                clear HB
                clear h0_ h1_ h2_ h3_ h4_ h5_ h6_ h7_ h8_ h9_ h10_
                have HO472 := n0_
                have HO_10 := n1_
                have HO_11 := n2_
                have HO_9 := n3_
                have BK454 := n4_
                have BK475 := n5_
                have GW475 := n6_
                have GE475 := n7_
                have NB454_475 := n8_
                have NB475_454 := n9_
                have HB := n10_
                clear n0_ n1_ n2_ n3_ n4_ n5_ n6_ n7_ n8_ n9_ n10_
                have hHeld : w47.cell? ⟨gb454, 0, none⟩ = some (.slice (some ad459) l0_0.length c0_0) ∧ w47.cell? (ad466.add (x12_2).toNat) = some (.string (rdOf ByteArray.empty t460 x12_2)) := hS_
                obtain ⟨Ao50, co50, eo50⟩ := Kd.R_slice HO472.out
                (first | subst eo50 | (injection eo50 with f1_ f2_ f3_; have f4_ := f1_.symm; have f5_ := f3_.symm; clear f1_ f2_ f3_; subst f4_; subst f5_))
                refine norm_ (a' := ?_) ?_ ?_
                rotate_left;focus(simp only [putAll, Act.put, List.setIfInBounds_toArray, List.set_cons_zero, List.set_cons_succ];rfl)
                refine pure_ (i := 12) (N := some 13) (v := ?_) (a' := ?_) #[true,true,true,true,true,true,true,true,true,true,true,true,true,false,false] rfl rfl (any_of HT_.out (by kernel_rfl)) (fun _ _ _ h => h) (Or.inl ⟨by rfl, ?_⟩) ?_ ?_
                rotate_left;focus(intro w';go_simp;with_reducible rfl)
                rotate_left;focus(simp only [Act.put, List.setIfInBounds_toArray, List.set_cons_zero, List.set_cons_succ, i64_w];rfl)
                refine one_ (i := 13) (N := none) #[true,true,true,true,true,true,true,true,true,true,true,true,true,true,false] rfl rfl (one_of HT_.out (by kernel_rfl)) (by decide) (fun K hK => ?_)
                have hs48 : w47.cell? ⟨gb475, 0, none⟩ = some (.string (⟨#[]⟩ : ByteArray)) := (blk_cell BK475.out 0).trans rfl
                have hfs48 := blk_frozen BK475.out 0
                have hns48_0 := NB454_475.out
                have hms48_0 := NB475_454.out
                have hs49 : w47.cell? ⟨gb475, 1, none⟩ = some (.bool false) := (blk_cell BK475.out 1).trans rfl
                have hfs49 := blk_frozen BK475.out 1
                have hns49_0 := NB454_475.out
                have hms49_0 := NB475_454.out
                have hs51 : w47.cell? ⟨gb475, 2, none⟩ = some (.slice none 0 0) := (blk_cell BK475.out 2).trans rfl
                have hfs51 := blk_frozen BK475.out 2
                have hns51_0 := NB454_475.out
                have hms51_0 := NB475_454.out
                have hs52 : w47.cell? ⟨gb475, 3, none⟩ = some (.string (⟨#[]⟩ : ByteArray)) := (blk_cell BK475.out 3).trans rfl
                have hfs52 := blk_frozen BK475.out 3
                have hns52_0 := NB454_475.out
                have hms52_0 := NB475_454.out
                refine skip_ (w1 := ?_) (by rfl) rfl ?_ ?_
                rotate_left;focus(go_simp;rfl)
                refine hK.out _ _ ⟨(far4 (g := gb475) NB454_475.out (hHeld.1)), ((cell_far (p := ⟨gb475, _, none⟩) (by first | exact Kd.own_blk (Kd.R_ne HO_9.out BK475.out (by decide)) | (rw [add_block]; exact Kd.own_blk (Kd.R_ne HO_9.out BK475.out (by decide))) | (show (Addr.add _ _).block ≠ _; rw [add_block]; exact Kd.own_blk (Kd.R_ne HO_9.out BK475.out (by decide))) | (dsimp only; exact Kd.own_blk (Kd.R_ne HO_9.out BK475.out (by decide)))) _).trans (((cell_far (p := ⟨gb475, _, none⟩) (by first | exact Kd.own_blk (Kd.R_ne HO_9.out BK475.out (by decide)) | (rw [add_block]; exact Kd.own_blk (Kd.R_ne HO_9.out BK475.out (by decide))) | (show (Addr.add _ _).block ≠ _; rw [add_block]; exact Kd.own_blk (Kd.R_ne HO_9.out BK475.out (by decide))) | (dsimp only; exact Kd.own_blk (Kd.R_ne HO_9.out BK475.out (by decide)))) _).trans (((cell_far (p := ⟨gb475, _, none⟩) (by first | exact Kd.own_blk (Kd.R_ne HO_9.out BK475.out (by decide)) | (rw [add_block]; exact Kd.own_blk (Kd.R_ne HO_9.out BK475.out (by decide))) | (show (Addr.add _ _).block ≠ _; rw [add_block]; exact Kd.own_blk (Kd.R_ne HO_9.out BK475.out (by decide))) | (dsimp only; exact Kd.own_blk (Kd.R_ne HO_9.out BK475.out (by decide)))) _).trans (((cell_far (p := ⟨gb475, _, none⟩) (by first | exact Kd.own_blk (Kd.R_ne HO_9.out BK475.out (by decide)) | (rw [add_block]; exact Kd.own_blk (Kd.R_ne HO_9.out BK475.out (by decide))) | (show (Addr.add _ _).block ≠ _; rw [add_block]; exact Kd.own_blk (Kd.R_ne HO_9.out BK475.out (by decide))) | (dsimp only; exact Kd.own_blk (Kd.R_ne HO_9.out BK475.out (by decide)))) _).trans (hHeld.2))))))))⟩ (fun hHeld => ?_)
                clear hK K
                refine pure_ (i := 14) (N := some 15) (v := ?_) (a' := ?_) #[true,true,true,true,true,true,true,true,true,true,true,true,true,true,true] rfl rfl (any_of HT_.out (by kernel_rfl)) (fun _ _ _ h => h) (Or.inl ⟨by rfl, ?_⟩) ?_ ?_
                rotate_left;focus(intro w';go_simp;with_reducible rfl)
                rotate_left;focus(simp only [Act.put, List.setIfInBounds_toArray, List.set_cons_zero, List.set_cons_succ, i64_w];rfl)
                refine done_ (done_of HT_.out (by kernel_rfl)) ?_
                try go_wp2
                have n0_ : Aside0 (Kd.R Kd.string 9 ((((w47.setCell ⟨gb475, 0, none⟩ (.string t468)).setCell ⟨gb475, 1, none⟩ (.bool t469)).setCell ⟨gb475, 2, none⟩ (.slice Ao50 t470.length co50)).setCell ⟨gb475, 3, none⟩ (.string t473)) w.heap.size (fun k_ => some k_ ≠ (v464 : Value).ownBlock ∧ some k_ ≠ (u11 : Value).ownBlock ∧ some k_ ≠ (.slice Ao50 t470.length co50 : Value).ownBlock) (.slice (some ad466) t460.length co43) t460) := ⟨by (with_reducible repeat first | apply Kd.R_alloc | apply Kd.R_drewN | apply Kd.R_drew); exact Kd.R_mono (Kd.R_far (p := ⟨gb475, 3, none⟩) (Kd.R_far (p := ⟨gb475, 2, none⟩) (Kd.R_far (p := ⟨gb475, 1, none⟩) (Kd.R_far (p := ⟨gb475, 0, none⟩) (Kd.R_types HO_9.out BK475.out (by decide)) (fun _ hk => hk.2) (.string t468)) (fun _ hk => hk.2) (.bool t469)) (fun _ hk => hk.2) (.slice Ao50 t470.length co50)) (fun _ hk => hk.2) (.string t473)) (fun _ hk => ⟨hk.1.2.1, ⟨hk.1.2.2, hk.1.1⟩⟩)⟩
                have n1_ : Aside0 (Kd.R Kd.string 9 ((((w47.setCell ⟨gb475, 0, none⟩ (.string t468)).setCell ⟨gb475, 1, none⟩ (.bool t469)).setCell ⟨gb475, 2, none⟩ (.slice Ao50 t470.length co50)).setCell ⟨gb475, 3, none⟩ (.string t473)) w.heap.size (fun k_ => some k_ ≠ (.slice (some ad466) t460.length co43 : Value).ownBlock ∧ some k_ ≠ (u11 : Value).ownBlock ∧ some k_ ≠ (.slice Ao50 t470.length co50 : Value).ownBlock) v464 t463) := ⟨by (with_reducible repeat first | apply Kd.R_alloc | apply Kd.R_drewN | apply Kd.R_drew); exact Kd.R_mono (Kd.R_far (p := ⟨gb475, 3, none⟩) (Kd.R_far (p := ⟨gb475, 2, none⟩) (Kd.R_far (p := ⟨gb475, 1, none⟩) (Kd.R_far (p := ⟨gb475, 0, none⟩) (Kd.R_types HO_10.out BK475.out (by decide)) (fun _ hk => hk.2) (.string t468)) (fun _ hk => hk.2) (.bool t469)) (fun _ hk => hk.2) (.slice Ao50 t470.length co50)) (fun _ hk => hk.2) (.string t473)) (fun _ hk => ⟨hk.1.2.2, ⟨hk.1.2.1, hk.1.1⟩⟩)⟩
                have n2_ : Aside0 (Kd.R Kd.string 9 ((((w47.setCell ⟨gb475, 0, none⟩ (.string t468)).setCell ⟨gb475, 1, none⟩ (.bool t469)).setCell ⟨gb475, 2, none⟩ (.slice Ao50 t470.length co50)).setCell ⟨gb475, 3, none⟩ (.string t473)) w.heap.size (fun k_ => some k_ ≠ (.slice (some ad466) t460.length co43 : Value).ownBlock ∧ some k_ ≠ (v464 : Value).ownBlock ∧ some k_ ≠ (.slice Ao50 t470.length co50 : Value).ownBlock) u11 x11_2) := ⟨by (with_reducible repeat first | apply Kd.R_alloc | apply Kd.R_drewN | apply Kd.R_drew); exact Kd.R_mono (Kd.R_far (p := ⟨gb475, 3, none⟩) (Kd.R_far (p := ⟨gb475, 2, none⟩) (Kd.R_far (p := ⟨gb475, 1, none⟩) (Kd.R_far (p := ⟨gb475, 0, none⟩) (Kd.R_types HO_11.out BK475.out (by decide)) (fun _ hk => hk.2) (.string t468)) (fun _ hk => hk.2) (.bool t469)) (fun _ hk => hk.2) (.slice Ao50 t470.length co50)) (fun _ hk => hk.2) (.string t473)) (fun _ hk => ⟨hk.1.2.2, ⟨hk.1.2.1, hk.1.1⟩⟩)⟩
                have n3_ : Aside0 (Kd.R Kd.string 9 ((((w47.setCell ⟨gb475, 0, none⟩ (.string t468)).setCell ⟨gb475, 1, none⟩ (.bool t469)).setCell ⟨gb475, 2, none⟩ (.slice Ao50 t470.length co50)).setCell ⟨gb475, 3, none⟩ (.string t473)) w.heap.size (fun k_ => some k_ ≠ (.slice (some ad466) t460.length co43 : Value).ownBlock ∧ some k_ ≠ (v464 : Value).ownBlock ∧ some k_ ≠ (u11 : Value).ownBlock) (.slice Ao50 t470.length co50) t470) := ⟨by (with_reducible repeat first | apply Kd.R_alloc | apply Kd.R_drewN | apply Kd.R_drew); exact Kd.R_mono (Kd.R_far (p := ⟨gb475, 3, none⟩) (Kd.R_far (p := ⟨gb475, 2, none⟩) (Kd.R_far (p := ⟨gb475, 1, none⟩) (Kd.R_far (p := ⟨gb475, 0, none⟩) (Kd.R_types HO472.out BK475.out (by decide)) (fun _ hk => hk.2) (.string t468)) (fun _ hk => hk.2) (.bool t469)) (fun _ hk => hk.2) (.slice Ao50 t470.length co50)) (fun _ hk => hk.2) (.string t473)) (fun _ hk => ⟨hk.1.2.2, ⟨hk.1.1, hk.1.2.1⟩⟩)⟩
                have n4_ : Aside0 (((((w47.setCell ⟨gb475, 0, none⟩ (.string t468)).setCell ⟨gb475, 1, none⟩ (.bool t469)).setCell ⟨gb475, 2, none⟩ (.slice Ao50 t470.length co50)).setCell ⟨gb475, 3, none⟩ (.string t473)).heap[gb454]? = some (.cells #[.slice (some ad459) l0_0.length c0_0] 24 (0, 0))) := ⟨by (with_reducible repeat first | apply bn | apply bd | apply ba); refine blk_far ?_ NB454_475.out _; refine blk_far ?_ NB454_475.out _; refine blk_far ?_ NB454_475.out _; refine blk_far ?_ NB454_475.out _; (with_reducible repeat first | apply bn | apply bd | apply ba); exact BK454.out⟩
                have n5_ : Aside0 (((((w47.setCell ⟨gb475, 0, none⟩ (.string t468)).setCell ⟨gb475, 1, none⟩ (.bool t469)).setCell ⟨gb475, 2, none⟩ (.slice Ao50 t470.length co50)).setCell ⟨gb475, 3, none⟩ (.string t473)).heap[gb475]? = some (.cells #[.string t468, .bool t469, .slice Ao50 t470.length co50, .string t473] 37 (0, 0))) := ⟨by (with_reducible repeat first | apply bn | apply bd | apply ba); refine blk_put (cs := #[.string t468, .bool t469, .slice Ao50 t470.length co50, .string (⟨#[]⟩ : ByteArray)]) ?_ 3 _ rfl; refine blk_put (cs := #[.string t468, .bool t469, .slice none 0 0, .string (⟨#[]⟩ : ByteArray)]) ?_ 2 _ rfl; refine blk_put (cs := #[.string t468, .bool false, .slice none 0 0, .string (⟨#[]⟩ : ByteArray)]) ?_ 1 _ rfl; refine blk_put (cs := #[.string (⟨#[]⟩ : ByteArray), .bool false, .slice none 0 0, .string (⟨#[]⟩ : ByteArray)]) ?_ 0 _ rfl; (with_reducible repeat first | apply bn | apply bd | apply ba); exact BK475.out⟩
                have n6_ : Aside0 (Below w.heap.size w ((((w47.setCell ⟨gb475, 0, none⟩ (.string t468)).setCell ⟨gb475, 1, none⟩ (.bool t469)).setCell ⟨gb475, 2, none⟩ (.slice Ao50 t470.length co50)).setCell ⟨gb475, 3, none⟩ (.string t473))) := ⟨by repeat with_reducible first | exact HB.out | apply below_alloc | apply pw_below_drewN | apply below_drew1 | refine below_set ?_ GE454.out | refine below_set ?_ GE475.out⟩
                (try clear HO_9)
                (try clear HO_10)
                (try clear HO_11)
                (try clear HO472)
                (try clear BK454)
                (try clear BK475)
                (try clear HB)
                generalize ((((w47.setCell ⟨gb475, 0, none⟩ (.string t468)).setCell ⟨gb475, 1, none⟩ (.bool t469)).setCell ⟨gb475, 2, none⟩ (.slice Ao50 t470.length co50)).setCell ⟨gb475, 3, none⟩ (.string t473)) = w53 at n0_ n1_ n2_ n3_ n4_ n5_ n6_ ⊢
                have HO_9 := n0_
                have HO_10 := n1_
                have HO_11 := n2_
                have HO472 := n3_
                have BK454 := n4_
                have BK475 := n5_
                have HB := n6_
                clear n0_ n1_ n2_ n3_ n4_ n5_ n6_
                have n0_ := Aside0.mk (Kd.R_drew HO_9.out)
                have n1_ := Aside0.mk (Kd.R_drew HO_10.out)
                have n2_ := Aside0.mk (Kd.R_drew HO_11.out)
                have n3_ := Aside0.mk (Kd.R_drew HO472.out)
                have n4_ := Aside0.mk (blk_drew BK454.out)
                have n5_ := Aside0.mk (blk_drew BK475.out)
                have n6_ := Aside0.mk (below_drew1 HB.out)
                clear HO_9
                clear HO_10
                clear HO_11
                clear HO472
                clear BK454
                clear BK475
                clear HB
                have HO_9 := n0_
                have HO_10 := n1_
                have HO_11 := n2_
                have HO472 := n3_
                have BK454 := n4_
                have BK475 := n5_
                have HB := n6_
                clear n0_ n1_ n2_ n3_ n4_ n5_ n6_
                have p476 : 0 ≤ (x12_2 : Int) := of_decide_eq_true (by first | (with_reducible assumption) | assumption)
                have q476 : x12_2 < (t460.length : Int) := of_decide_eq_true (by first | (with_reducible assumption) | assumption)
                obtain ⟨ad476, e476, hx476_0⟩ := Kd.at_string (Kd.R_reads' HO_9.out).2.2 x12_2 p476 q476
                obtain rfl : ad466 = ad476 := (by injection e476)
                replace p476 := eq_true p476
                replace q476 := eq_true q476
                refine start_ (n := 10) (S := fun w' => w'.cell? ⟨gb454, 0, none⟩ = some (.slice (some ad459) l0_0.length c0_0) ∧ w'.cell? (ad466.add (x12_2).toNat) = some (.string (rdOf ByteArray.empty t460 x12_2))) (ds := []) #[false,false,false,false,false,false,false,false,false,false] (by kernel_rfl) rfl rfl ⟨(blk_cell BK454.out 0).trans rfl, hx476_0⟩ (fun hHeld => ?_); refine with_tabW dataflowlaw10_HierDispatch.tab14 dataflowlaw10_HierDispatch.bits14 (fun HT_ HW_ => ?_)
                generalize w53.drew = w54 at HO_9 HO_10 HO_11 HO472 BK454 BK475 HB hx476_0 hHeld ⊢
                refine pure_ (i := 2) (N := some 65) (v := ?_) (a' := ?_) #[false,false,true,false,false,false,false,false,false,false] rfl rfl (any_of HT_.out (by kernel_rfl)) (fun _ _ _ h => h) (Or.inl ⟨by rfl, ?_⟩) ?_ ?_
                rotate_left;focus(intro w';go_simp;with_reducible rfl)
                rotate_left;focus(simp only [Act.put, List.setIfInBounds_toArray, List.set_cons_zero, List.set_cons_succ, i64_w];rfl)
                refine pure_ (i := 3) (N := some 66) (v := ?_) (a' := ?_) #[false,false,true,true,false,false,false,false,false,false] rfl rfl (any_of HT_.out (by kernel_rfl)) (fun _ _ _ h => h) (Or.inl ⟨by rfl, ?_⟩) ?_ ?_
                rotate_left;focus(intro w';go_simp;with_reducible rfl)
                rotate_left;focus(simp only [Act.put, List.setIfInBounds_toArray, List.set_cons_zero, List.set_cons_succ, i64_w];rfl)
                refine pure_ (i := 4) (N := some 67) (v := ?_) (a' := ?_) #[false,false,true,true,true,false,false,false,false,false] rfl rfl (any_of HT_.out (by kernel_rfl)) (fun _ _ _ h => h) (Or.inl ⟨by rfl, ?_⟩) ?_ ?_
                rotate_left;focus(intro w';go_simp;with_reducible rfl)
                rotate_left;focus(simp only [Act.put, List.setIfInBounds_toArray, List.set_cons_zero, List.set_cons_succ, i64_w];rfl)
                refine pure_ (i := 7) (N := some 70) (v := ?_) (a' := ?_) #[false,false,true,true,true,false,false,true,false,false] rfl rfl (any_of HT_.out (by kernel_rfl)) (fun _ _ _ h => h) (Or.inl ⟨by rfl, ?_⟩) ?_ ?_
                rotate_left;focus(intro w';go_simp;with_reducible rfl)
                rotate_left;focus(simp only [Act.put, List.setIfInBounds_toArray, List.set_cons_zero, List.set_cons_succ, i64_w];rfl)
                refine take_ (i := 0) (N := some 63) (v := ?_) (a' := ?_) #[true,false,true,true,true,false,false,true,false,false] rfl rfl (take_ofW HT_.out HW_.out (by kernel_rfl)) (fun _ _ _ h => h) (Or.inl ⟨by rfl, ?_⟩) hHeld ?_ ?_
                rotate_left;focus(rintro w' ⟨s0, s1⟩;go_simp;with_reducible rfl)
                rotate_left;focus(simp only [Act.put, List.setIfInBounds_toArray, List.set_cons_zero, List.set_cons_succ, i64_w];rfl)
                refine take_ (i := 1) (N := some 64) (v := ?_) (a' := ?_) #[true,true,true,true,true,false,false,true,false,false] rfl rfl (take_ofW HT_.out HW_.out (by kernel_rfl)) (fun _ _ _ h => h) (Or.inl ⟨by rfl, ?_⟩) hHeld ?_ ?_
                rotate_left;focus(rintro w' ⟨s0, s1⟩;go_simp;with_reducible rfl)
                rotate_left;focus(simp only [Act.put, List.setIfInBounds_toArray, List.set_cons_zero, List.set_cons_succ, i64_w];rfl)
                refine take_ (i := 5) (N := some 68) (v := ?_) (a' := ?_) #[true,true,true,true,true,true,false,true,false,false] rfl rfl (take_ofW HT_.out HW_.out (by kernel_rfl)) (fun _ _ _ h => h) (Or.inl ⟨by rfl, ?_⟩) hHeld ?_ ?_
                rotate_left;focus(rintro w' ⟨s0, s1⟩;go_simp;with_reducible rfl)
                rotate_left;focus(simp only [Act.put, List.setIfInBounds_toArray, List.set_cons_zero, List.set_cons_succ, i64_w];rfl)
                refine one_ (i := 6) (N := some 69) #[true,true,true,true,true,true,true,true,false,false] rfl rfl (one_of HT_.out (by kernel_rfl)) (by decide) (fun K hK => ?_)
                refine goes_ Tryd.func12 (by kernel_rfl) rfl #[.agg #[.slice (some ad459) l0_0.length c0_0], .string (rdOf ByteArray.empty t460 x12_2)] (by rfl) rfl rfl (by (try simp only [List.map_toArray, List.map_cons, List.map_nil]); first | done | rfl) ?_
                with_reducible refine (dataflowref10_Supers.calls k2 _ _ l0_0 (rdOf ByteArray.empty t460 x12_2) t477 _ ?side1 ?side2 A19.out).mono ?_
                (case side1 => repeat (first | exact (Kd.C_below HR0_0.out HB.out) | (with_reducible refine Kd.C_alloc ?_ _) | (with_reducible refine Kd.C_drewN ?_ _) | (with_reducible refine Kd.C_drew ?_)))
                (case side2 => exact HC0_0.out)
                rintro e w55 ⟨v478, rfl, ho0, hb⟩
                have HS1_ := (hb.cell (World.block_lt_of_cell? _ _ (hHeld.2))).trans (hHeld.2)
                refine ⟨_, rfl, ?_⟩
                have n0_ := Aside0.mk (Kd.R_elder' (by (with_reducible repeat first | apply Kd.R_alloc | apply Kd.R_drewN | apply Kd.R_drew); exact HO_9.out) (Kd.R_base ho0) hb)
                have n1_ := Aside0.mk (Kd.R_elder' (by (with_reducible repeat first | apply Kd.R_alloc | apply Kd.R_drewN | apply Kd.R_drew); exact HO_10.out) (Kd.R_base ho0) hb)
                have n2_ := Aside0.mk (Kd.R_elder' (by (with_reducible repeat first | apply Kd.R_alloc | apply Kd.R_drewN | apply Kd.R_drew); exact HO_11.out) (Kd.R_base ho0) hb)
                have n3_ := Aside0.mk (Kd.R_elder' (by (with_reducible repeat first | apply Kd.R_alloc | apply Kd.R_drewN | apply Kd.R_drew); exact HO472.out) (Kd.R_base ho0) hb)
                have n4_ := Aside0.mk (Kd.R_lower (Kd.R_new' (Kd.R_new' (Kd.R_new' (Kd.R_new' ho0 (Kd.R_lt (by (with_reducible repeat first | apply Kd.R_alloc | apply Kd.R_drewN | apply Kd.R_drew); exact HO_9.out))) (Kd.R_lt (by (with_reducible repeat first | apply Kd.R_alloc | apply Kd.R_drewN | apply Kd.R_drew); exact HO_10.out))) (Kd.R_lt (by (with_reducible repeat first | apply Kd.R_alloc | apply Kd.R_drewN | apply Kd.R_drew); exact HO_11.out))) (Kd.R_lt (by (with_reducible repeat first | apply Kd.R_alloc | apply Kd.R_drewN | apply Kd.R_drew); exact HO472.out))) (below_size (by repeat with_reducible first | exact HB.out | apply below_alloc | apply pw_below_drewN | apply below_drew1 | refine below_set ?_ GE454.out | refine below_set ?_ GE475.out)))
                have n5_ := Aside0.mk (blk_below (g := gb454) (o := .cells #[.slice (some ad459) l0_0.length c0_0] 24 (0, 0)) (by (with_reducible repeat first | apply bn | apply bd | apply ba); exact BK454.out) hb)
                have n6_ := Aside0.mk (blk_below (g := gb475) (o := .cells #[.string t468, .bool t469, .slice Ao50 t470.length co50, .string t473] 37 (0, 0)) (by (with_reducible repeat first | apply bn | apply bd | apply ba); exact BK475.out) hb)
                have n7_ := Aside0.mk (below_step (by repeat with_reducible first | exact HB.out | apply below_alloc | apply pw_below_drewN | apply below_drew1 | refine below_set ?_ GE454.out | refine below_set ?_ GE475.out) hb)
                clear HO_9
                clear HO_10
                clear HO_11
                clear HO472
                clear BK454
                clear BK475
                clear HB
                have HO_9 := n0_
                have HO_10 := n1_
                have HO_11 := n2_
                have HO472 := n3_
                have HO479 := n4_
                have BK454 := n5_
                have BK475 := n6_
                have HB := n7_
                clear n0_ n1_ n2_ n3_ n4_ n5_ n6_ n7_
                (try clear hb)
                (try clear hb2)
                (try clear hk)
                (try clear hi)
                (try clear ho0)
                obtain ⟨Ao56, co56, eo56⟩ := Kd.R_slice HO479.out
                (first | subst eo56 | (injection eo56 with f1_ f2_ f3_; have f4_ := f1_.symm; have f5_ := f3_.symm; clear f1_ f2_ f3_; subst f4_; subst f5_))
                refine hK.out _ _ ⟨(blk_cell BK454.out 0).trans rfl, HS1_⟩ (fun hHeld => ?_)
                clear hK K
                refine norm_ (a' := ?_) ?_ ?_
                rotate_left;focus(show Act.put _ (some 69) _ = _;simp only [Act.put, List.setIfInBounds_toArray, List.set_cons_zero, List.set_cons_succ, i64_w];rfl)
                refine one_ (i := 8) (N := some 71) #[true,true,true,true,true,true,true,true,true,false] rfl rfl (one_of HT_.out (by kernel_rfl)) (by decide) (fun K hK => ?_)
                refine goes_ Tryd.func11 (by kernel_rfl) rfl #[.agg #[.slice (some ad459) l0_0.length c0_0], .slice Ao56 t477.length co56, .string a1] (by rfl) rfl rfl (by (try simp only [List.map_toArray, List.map_cons, List.map_nil]); first | done | rfl) ?_
                with_reducible refine (dataflowlaw10_nearest.calls k2 _ _ l0_0 _ _ t477 a1 t480 _ ?side1 ?side2 ?side3 ?side4 A20.out).mono ?_
                (case side1 => repeat (first | exact (Kd.C_below HR0_0.out HB.out) | (with_reducible refine Kd.C_alloc ?_ _) | (with_reducible refine Kd.C_drewN ?_ _) | (with_reducible refine Kd.C_drew ?_)))
                (case side2 => exact HC0_0.out)
                (case side3 => repeat (first | exact (Kd.R_reads' HO479.out).2.2 | (with_reducible refine Kd.C_alloc ?_ _) | (with_reducible refine Kd.C_drewN ?_ _) | (with_reducible refine Kd.C_drew ?_)))
                (case side4 => exact (Kd.R_reads' HO479.out).2.1)
                rintro e w57 ⟨rfl, hb⟩
                have HS1_ := (hb.cell (World.block_lt_of_cell? _ _ (hHeld.2))).trans (hHeld.2)
                refine ⟨_, rfl, ?_⟩
                have n0_ := Aside0.mk (Kd.R_below (by (with_reducible repeat first | apply Kd.R_alloc | apply Kd.R_drewN | apply Kd.R_drew); exact HO_9.out) hb)
                have n1_ := Aside0.mk (Kd.R_below (by (with_reducible repeat first | apply Kd.R_alloc | apply Kd.R_drewN | apply Kd.R_drew); exact HO_10.out) hb)
                have n2_ := Aside0.mk (Kd.R_below (by (with_reducible repeat first | apply Kd.R_alloc | apply Kd.R_drewN | apply Kd.R_drew); exact HO_11.out) hb)
                have n3_ := Aside0.mk (Kd.R_below (by (with_reducible repeat first | apply Kd.R_alloc | apply Kd.R_drewN | apply Kd.R_drew); exact HO472.out) hb)
                have n4_ := Aside0.mk (Kd.R_below (by (with_reducible repeat first | apply Kd.R_alloc | apply Kd.R_drewN | apply Kd.R_drew); exact HO479.out) hb)
                have n5_ := Aside0.mk (blk_below (g := gb454) (o := .cells #[.slice (some ad459) l0_0.length c0_0] 24 (0, 0)) (by (with_reducible repeat first | apply bn | apply bd | apply ba); exact BK454.out) hb)
                have n6_ := Aside0.mk (blk_below (g := gb475) (o := .cells #[.string t468, .bool t469, .slice Ao50 t470.length co50, .string t473] 37 (0, 0)) (by (with_reducible repeat first | apply bn | apply bd | apply ba); exact BK475.out) hb)
                have n7_ := Aside0.mk (below_step (by repeat with_reducible first | exact HB.out | apply below_alloc | apply pw_below_drewN | apply below_drew1 | refine below_set ?_ GE454.out | refine below_set ?_ GE475.out) hb)
                clear HO_9
                clear HO_10
                clear HO_11
                clear HO472
                clear HO479
                clear BK454
                clear BK475
                clear HB
                have HO_9 := n0_
                have HO_10 := n1_
                have HO_11 := n2_
                have HO472 := n3_
                have HO479 := n4_
                have BK454 := n5_
                have BK475 := n6_
                have HB := n7_
                clear n0_ n1_ n2_ n3_ n4_ n5_ n6_ n7_
                (try clear hb)
                (try clear hb2)
                (try clear hk)
                (try clear hi)
                refine hK.out _ _ ⟨(blk_cell BK454.out 0).trans rfl, HS1_⟩ (fun hHeld => ?_)
                clear hK K
                refine norm_ (a' := ?_) ?_ ?_
                rotate_left;focus(show Act.put _ (some 71) _ = _;simp only [Act.put, List.setIfInBounds_toArray, List.set_cons_zero, List.set_cons_succ, i64_w];rfl)
                refine pure_ (i := 9) (N := some 16) (v := ?_) (a' := ?_) #[true,true,true,true,true,true,true,true,true,true] rfl rfl (any_of HT_.out (by kernel_rfl)) (fun _ _ _ h => h) (Or.inl ⟨by rfl, ?_⟩) ?_ ?_
                rotate_left;focus(intro w';go_simp;with_reducible rfl)
                rotate_left;focus(simp only [Act.put, List.setIfInBounds_toArray, List.set_cons_zero, List.set_cons_succ, i64_w];rfl)
                refine done_ (done_of HT_.out (by kernel_rfl)) ?_
                have hnb58 := NB475_454.out
                have hnc58 := NB454_475.out
                have hcz59_0 : w57.cell? ⟨gb475, 0, none⟩ = some (.string t468) := (blk_cell BK475.out 0).trans rfl
                have hcz59_1 : w57.cell? ⟨gb475, 1, none⟩ = some (.bool t469) := (blk_cell BK475.out 1).trans rfl
                have hcz59_2 : w57.cell? ⟨gb475, 2, none⟩ = some (.slice Ao50 t470.length co50) := (blk_cell BK475.out 2).trans rfl
                have hcz59_3 : w57.cell? ⟨gb475, 3, none⟩ = some (.string t473) := (blk_cell BK475.out 3).trans rfl
                have hfz59_0 := blk_frozen BK475.out 0
                have hfz59_1 := blk_frozen BK475.out 1
                have hfz59_2 := blk_frozen BK475.out 2
                have hfz59_3 := blk_frozen BK475.out 3
                obtain ⟨Ao60, co60, eo60⟩ := Kd.R_slice HO_10.out
                subst eo60
                try go_wp2_with (first | (go_at_call 13; (with_reducible refine (dataflowlaw10_has.calls k2 _ _ t463 t467 true _ ?side1 ?side2 A40.out).mono ?_); (case side1 => repeat (first | exact (Kd.R_reads' HO_10.out).2.2 | (with_reducible refine Kd.C_alloc ?_ _) | (with_reducible refine Kd.C_drewN ?_ _) | (with_reducible refine Kd.C_drew ?_))); (case side2 => exact (Kd.R_reads' HO_10.out).2.1); rintro e w' ⟨rfl, ⟨nd, rfl⟩⟩) | ((with_reducible refine gate_builtin (b := .append) (xs := #[.tmp 96, .tmp 98]) rfl ?_); at_builtin; refine Kd.R_append Kd.string (w0 := w) w.heap.size rfl (.tmp 96) (.tmp 98) 33 9 (.string ⟨#[]⟩) 16 rfl Tryd.underlying33 info9 rfl (by decide) (by omega) u11 x11_2 t467 [.string t467] (fun k_ => some k_ ≠ (.slice (some ad466) t460.length co43 : Value).ownBlock ∧ some k_ ≠ (.slice Ao60 t463.length co60 : Value).ownBlock ∧ some k_ ≠ (.slice Ao50 t470.length co50 : Value).ownBlock ∧ some k_ ≠ (.slice Ao56 t477.length co56 : Value).ownBlock) (fun _ => False) rfl rfl ?aP (fun _ hk => hk.elim) ?aF ?aO ?aB ?aS ?aL ?_; (case aP => exact rfl); (case aB => exact (by repeat with_reducible first | exact HB.out | apply below_alloc | apply pw_below_drewN | apply below_drew1 | refine below_set ?_ GE454.out | refine below_set ?_ GE475.out)); (case aF => exact (fun k_ hk => ⟨Kd.fresh' (Kd.R_lt (by (with_reducible repeat first | apply Kd.R_alloc | apply Kd.R_drewN | apply Kd.R_drew); exact HO_9.out)) k_ hk, Kd.fresh' (Kd.R_lt (by (with_reducible repeat first | apply Kd.R_alloc | apply Kd.R_drewN | apply Kd.R_drew); exact HO_10.out)) k_ hk, Kd.fresh' (Kd.R_lt (by (with_reducible repeat first | apply Kd.R_alloc | apply Kd.R_drewN | apply Kd.R_drew); exact HO472.out)) k_ hk, Kd.fresh' (Kd.R_lt (by (with_reducible repeat first | apply Kd.R_alloc | apply Kd.R_drewN | apply Kd.R_drew); exact HO479.out)) k_ hk⟩)); (case aO => exact (by (with_reducible repeat first | apply Kd.R_alloc | apply Kd.R_drewN | apply Kd.R_drew); exact Kd.R_mono HO_11.out (fun _ hk => ⟨hk.1.1, ⟨hk.1.2.1, ⟨hk.1.2.2, hk.2⟩⟩⟩))); (case aS => exact (below_size (by repeat with_reducible first | exact HB.out | apply below_alloc | apply pw_below_drewN | apply below_drew1 | refine below_set ?_ GE454.out | refine below_set ?_ GE475.out))); (case aL => have := LMc42.out; omega); intro v483 w61 ho hb hg hat; rw [← Ny482.out] at ho; have n0_ := Aside0.mk (Kd.R_after (ok := (fun k_ => some k_ ≠ (.slice Ao60 t463.length co60 : Value).ownBlock ∧ some k_ ≠ (.slice Ao50 t470.length co50 : Value).ownBlock ∧ some k_ ≠ (.slice Ao56 t477.length co56 : Value).ownBlock)) (by (with_reducible repeat first | apply Kd.R_alloc | apply Kd.R_drewN | apply Kd.R_drew); exact Kd.R_mono HO_9.out (fun _ hk => ⟨⟨hk.1.1, ⟨hk.1.2.2, hk.2⟩⟩, hk.1.2.1⟩)) hg hat); have n1_ := Aside0.mk (Kd.R_after (ok := (fun k_ => some k_ ≠ (.slice (some ad466) t460.length co43 : Value).ownBlock ∧ some k_ ≠ (.slice Ao50 t470.length co50 : Value).ownBlock ∧ some k_ ≠ (.slice Ao56 t477.length co56 : Value).ownBlock)) (by (with_reducible repeat first | apply Kd.R_alloc | apply Kd.R_drewN | apply Kd.R_drew); exact Kd.R_mono HO_10.out (fun _ hk => ⟨⟨hk.1.1, ⟨hk.1.2.2, hk.2⟩⟩, hk.1.2.1⟩)) hg hat); have n2_ := Aside0.mk (blk_grown (g := gb454) (o := .cells #[.slice (some ad459) l0_0.length c0_0] 24 (0, 0)) (by (with_reducible repeat first | apply bn | apply bd | apply ba); exact BK454.out) hg (Kd.R_ne HO_11.out BK454.out (by decide))); have n3_ := Aside0.mk (Kd.R_after (ok := (fun k_ => some k_ ≠ (.slice (some ad466) t460.length co43 : Value).ownBlock ∧ some k_ ≠ (.slice Ao60 t463.length co60 : Value).ownBlock ∧ some k_ ≠ (.slice Ao56 t477.length co56 : Value).ownBlock)) (by (with_reducible repeat first | apply Kd.R_alloc | apply Kd.R_drewN | apply Kd.R_drew); exact Kd.R_mono HO472.out (fun _ hk => ⟨⟨hk.1.1, ⟨hk.1.2.1, hk.2⟩⟩, hk.1.2.2⟩)) hg hat); have n4_ := Aside0.mk (blk_grown (g := gb475) (o := .cells #[.string t468, .bool t469, .slice Ao50 t470.length co50, .string t473] 37 (0, 0)) (by (with_reducible repeat first | apply bn | apply bd | apply ba); exact BK475.out) hg (Kd.R_ne HO_11.out BK475.out (by decide))); have n5_ := Aside0.mk (Kd.R_after (ok := (fun k_ => some k_ ≠ (.slice (some ad466) t460.length co43 : Value).ownBlock ∧ some k_ ≠ (.slice Ao60 t463.length co60 : Value).ownBlock ∧ some k_ ≠ (.slice Ao50 t470.length co50 : Value).ownBlock)) (by (with_reducible repeat first | apply Kd.R_alloc | apply Kd.R_drewN | apply Kd.R_drew); exact Kd.R_mono HO479.out (fun _ hk => ⟨⟨hk.1.1.1.2, ⟨hk.1.1.2, hk.2⟩⟩, hk.1.2⟩)) hg hat); have n6_ := Aside0.mk (hb); have n7_ := Aside0.mk (ho); clear HO_9; clear HO_10; clear BK454; clear HO472; clear BK475; clear HO479; clear HB; clear HO_11; have HO_9 := n0_; have HO_10 := n1_; have BK454 := n2_; have HO472 := n3_; have BK475 := n4_; have HO479 := n5_; have HB := n6_; have HO484 := n7_; clear n0_ n1_ n2_ n3_ n4_ n5_ n6_ n7_; clear ho hb hg hat))
                all_goals first | exact absurd (by assumption) c_c | exact absurd (List.isEmpty_iff.mp (by assumption)) c_c | skip
                go_roundg k2
                case measure => have := HK1.out; have := HK2.out; omega
                case rel => exact ⟨(y482), (wrap64 (x12_2 + 1)), (by first | rfl | (simp; done) | (simp [*]; done)), H', ⟨by have := HK1.out; have := HK2.out; omega⟩, ⟨by (with_reducible repeat first | apply Kd.R_alloc | apply Kd.R_drewN | apply Kd.R_drew); exact Kd.R_mono HO_9.out (fun _ hk => ⟨hk.1.1, hk.2⟩)⟩, ⟨by (with_reducible repeat first | apply Kd.R_alloc | apply Kd.R_drewN | apply Kd.R_drew); exact Kd.R_mono HO_10.out (fun _ hk => ⟨hk.1.1, hk.2⟩)⟩, ⟨by (with_reducible repeat first | apply Kd.R_alloc | apply Kd.R_drewN | apply Kd.R_drew); exact Kd.R_mono HO484.out (fun _ hk => ⟨hk.1, hk.2.1⟩)⟩, ⟨by (with_reducible repeat first | apply bn | apply bd | apply ba); exact BK454.out⟩, ⟨by repeat with_reducible first | exact HB.out | apply below_alloc | apply pw_below_drewN | apply below_drew1 | refine below_set ?_ GE454.out | refine below_set ?_ GE475.out⟩⟩
               ·rw [if_neg c42] at H
                exact absurd H (by simp)
              ·rw [if_neg c41] at H
               exact absurd H (by simp)
             ·rw [if_neg c39] at H
              exact absurd H (by simp)
            ·replace c38 := Bool.eq_false_iff.mpr c38
             subst c38
             have c_c : t480.toList = [] := by
              cases h_ : t480.toList with
              | nil => rfl
              | cons x_ y_ => rw [h_] at c21b0; exact absurd c21b0 (by simp)
             have c_d : t467.toList = [] := (beq_iff_eq.mp c37b0).trans c_c
             have H1 : (if x11_2.length < 8796093022208 then (dataflowlaw10_HierDispatch.l1 k2 a1 x7_1 t460 t463 (x11_2 ++ [t467]) (wrap64 (x12_2 + 1)) l0_0) else (none)) = some r := by rw [if_neg (show ¬ (false = true) by decide)] at H; exact H
             clear H
             have H := H1
             clear H1
             by_cases c97 : x11_2.length < 8796093022208
             ·rw [if_pos c97] at H
              have LMc97 := Aside0.mk c97
              clear c97
              obtain ⟨y485, hy485⟩ : ∃ y_ : List ByteArray, y_ = (x11_2 ++ [t467]) := ⟨_, rfl⟩
              replace H : (dataflowlaw10_HierDispatch.l1 k2 a1 x7_1 t460 t463 y485 (wrap64 (x12_2 + 1)) l0_0) = some r := by first | (rw [hy485]; with_reducible exact H) | (have H2_ := (Option.bind_some _ _).symm.trans H; rw [hy485]; with_reducible exact H2_) | (have H2_ := (Option.bind_some _ _).symm.trans H; with_reducible exact H2_) | with_reducible exact H | (rw [hy485]; exact H) | exact H
              have Ny485 := Aside0.mk hy485
              clear hy485
              have H' := Aside0.mk H
              clear H
              obtain ⟨Ao98, co98, eo98⟩ := Kd.R_slice HO_9.out
              subst eo98
              try go_wp2
              have n0_ := Aside0.mk (Kd.R_drew HO_9.out)
              have n1_ := Aside0.mk (Kd.R_drew HO_10.out)
              have n2_ := Aside0.mk (Kd.R_drew HO_11.out)
              have n3_ := Aside0.mk (blk_drew BK454.out)
              have n4_ := Aside0.mk (below_drew1 HB.out)
              clear HO_9
              clear HO_10
              clear HO_11
              clear BK454
              clear HB
              have HO_9 := n0_
              have HO_10 := n1_
              have HO_11 := n2_
              have BK454 := n3_
              have HB := n4_
              clear n0_ n1_ n2_ n3_ n4_
              have p466 : 0 ≤ (x12_2 : Int) := of_decide_eq_true (by first | (with_reducible assumption) | assumption)
              have q466 : x12_2 < (t460.length : Int) := of_decide_eq_true (by first | (with_reducible assumption) | assumption)
              obtain ⟨ad466, e466, hx466_0⟩ := Kd.at_string (Kd.R_reads' HO_9.out).2.2 x12_2 p466 q466
              cases e466
              replace p466 := eq_true p466
              replace q466 := eq_true q466
              refine start_ (n := 15) (S := fun w' => w'.cell? ⟨gb454, 0, none⟩ = some (.slice (some ad459) l0_0.length c0_0) ∧ w'.cell? (ad466.add (x12_2).toNat) = some (.string (rdOf ByteArray.empty t460 x12_2))) (ds := []) #[false,false,false,false,false,false,false,false,false,false,false,false,false,false,false] (by kernel_rfl) rfl rfl ⟨(blk_cell BK454.out 0).trans rfl, hx466_0⟩ (fun hHeld => ?_); refine with_tabW dataflowlaw10_HierDispatch.tab13 dataflowlaw10_HierDispatch.bits13 (fun HT_ HW_ => ?_)
              generalize wr.drew = w99 at HO_9 HO_10 HO_11 BK454 HB hx466_0 hHeld ⊢
              refine pure_ (i := 1) (N := some 54) (v := ?_) (a' := ?_) #[false,true,false,false,false,false,false,false,false,false,false,false,false,false,false] rfl rfl (any_of HT_.out (by kernel_rfl)) (fun _ _ _ h => h) (Or.inl ⟨by rfl, ?_⟩) ?_ ?_
              rotate_left;focus(intro w';go_simp;with_reducible rfl)
              rotate_left;focus(simp only [Act.put, List.setIfInBounds_toArray, List.set_cons_zero, List.set_cons_succ, i64_w];rfl)
              refine pure_ (i := 2) (N := some 55) (v := ?_) (a' := ?_) #[false,true,true,false,false,false,false,false,false,false,false,false,false,false,false] rfl rfl (any_of HT_.out (by kernel_rfl)) (fun _ _ _ h => h) (Or.inl ⟨by rfl, ?_⟩) ?_ ?_
              rotate_left;focus(intro w';go_simp;with_reducible rfl)
              rotate_left;focus(simp only [Act.put, List.setIfInBounds_toArray, List.set_cons_zero, List.set_cons_succ, i64_w];rfl)
              refine pure_ (i := 3) (N := some 56) (v := ?_) (a' := ?_) #[false,true,true,true,false,false,false,false,false,false,false,false,false,false,false] rfl rfl (any_of HT_.out (by kernel_rfl)) (fun _ _ _ h => h) (Or.inl ⟨by rfl, ?_⟩) ?_ ?_
              rotate_left;focus(intro w';go_simp;with_reducible rfl)
              rotate_left;focus(simp only [Act.put, List.setIfInBounds_toArray, List.set_cons_zero, List.set_cons_succ, i64_w];rfl)
              refine pure_ (i := 5) (N := some 58) (v := ?_) (a' := ?_) #[false,true,true,true,false,true,false,false,false,false,false,false,false,false,false] rfl rfl (any_of HT_.out (by kernel_rfl)) (fun _ _ _ h => h) (Or.inl ⟨by rfl, ?_⟩) ?_ ?_
              rotate_left;focus(intro w';go_simp;with_reducible rfl)
              rotate_left;focus(simp only [Act.put, List.setIfInBounds_toArray, List.set_cons_zero, List.set_cons_succ, i64_w];rfl)
              refine take_ (i := 0) (N := some 53) (v := ?_) (a' := ?_) #[true,true,true,true,false,true,false,false,false,false,false,false,false,false,false] rfl rfl (take_ofW HT_.out HW_.out (by kernel_rfl)) (fun _ _ _ h => h) (Or.inl ⟨by rfl, ?_⟩) hHeld ?_ ?_
              rotate_left;focus(rintro w' ⟨s0, s1⟩;go_simp;with_reducible rfl)
              rotate_left;focus(simp only [Act.put, List.setIfInBounds_toArray, List.set_cons_zero, List.set_cons_succ, i64_w];rfl)
              refine take_ (i := 4) (N := some 57) (v := ?_) (a' := ?_) #[true,true,true,true,true,true,false,false,false,false,false,false,false,false,false] rfl rfl (take_ofW HT_.out HW_.out (by kernel_rfl)) (fun _ _ _ h => h) (Or.inl ⟨by rfl, ?_⟩) hHeld ?_ ?_
              rotate_left;focus(rintro w' ⟨s0, s1⟩;go_simp;with_reducible rfl)
              rotate_left;focus(simp only [Act.put, List.setIfInBounds_toArray, List.set_cons_zero, List.set_cons_succ, i64_w];rfl)
              refine join_ (σ := Value × Nat) 3 #[true,true,true,true,true,true,true,true,true,true,true,true,false,false,false] (fun s_ => [(59, .tuple #[.string t467, .agg #[.string t468, .bool t469, s_.1, .string t473], .bool false]), (14, .pointer (some ⟨s_.2, 0, none⟩)), (52, .tuple #[.string t467, .agg #[.string t468, .bool t469, s_.1, .string t473], .bool false]), (60, .string t467), (61, .agg #[.string t468, .bool t469, s_.1, .string t473]), (62, .bool false)]) (fun s_ w' => (w'.cell? ⟨gb454, 0, none⟩ = some (.slice (some ad459) l0_0.length c0_0) ∧ w'.cell? (ad466.add (x12_2).toNat) = some (.string (rdOf ByteArray.empty t460 x12_2))) ∧ (Kd.R Kd.string 9 w' w.heap.size (fun k_ => some k_ ≠ (v464 : Value).ownBlock ∧ some k_ ≠ (u11 : Value).ownBlock ∧ some k_ ≠ (.slice (some ad466) t460.length co98 : Value).ownBlock) s_.1 t470) ∧ (Kd.R Kd.string 9 w' w.heap.size (fun k_ => some k_ ≠ (s_.1 : Value).ownBlock ∧ some k_ ≠ (u11 : Value).ownBlock ∧ some k_ ≠ (.slice (some ad466) t460.length co98 : Value).ownBlock) v464 t463) ∧ (Kd.R Kd.string 9 w' w.heap.size (fun k_ => some k_ ≠ (s_.1 : Value).ownBlock ∧ some k_ ≠ (v464 : Value).ownBlock ∧ some k_ ≠ (.slice (some ad466) t460.length co98 : Value).ownBlock) u11 x11_2) ∧ (Kd.R Kd.string 9 w' w.heap.size (fun k_ => some k_ ≠ (s_.1 : Value).ownBlock ∧ some k_ ≠ (v464 : Value).ownBlock ∧ some k_ ≠ (u11 : Value).ownBlock) (.slice (some ad466) t460.length co98) t460) ∧ (w'.heap[gb454]? = some (.cells #[.slice (some ad459) l0_0.length c0_0] 24 (0, 0))) ∧ (w'.heap[s_.2]? = some (.cells #[.string (⟨#[]⟩ : ByteArray), .bool false, .slice none 0 0, .string (⟨#[]⟩ : ByteArray)] 37 (0, 0))) ∧ (w.heap.size ≤ s_.2) ∧ (w.heap.size ≤ s_.2) ∧ (gb454 ≠ s_.2) ∧ (s_.2 ≠ gb454) ∧ (Below w.heap.size w w')) ?_ ?_
              rotate_left
              ·intro hCont
               refine two_ (i := 6) (j := 11) (Ni := some 59) (Nj := some 14) #[true,true,true,true,true,true,true,false,false,false,false,false,false,false,false] #[true,true,true,true,true,true,false,false,false,false,false,true,false,false,false] rfl rfl rfl rfl (two_of HT_.out (by kernel_rfl)) (by decide) (by decide) (fun K hK => ?_) (fun K hK => ?_)
               ·skip
                refine goes_ Tryd.func10 (by kernel_rfl) rfl #[.agg #[.slice (some ad459) l0_0.length c0_0], .string (rdOf ByteArray.empty t460 x12_2), .string a1] (by rfl) rfl rfl (by (try simp only [List.map_toArray, List.map_cons, List.map_nil]); first | done | rfl) ?_
                with_reducible refine (hier_Lookup.calls k2 _ _ l0_0 (rdOf ByteArray.empty t460 x12_2) a1 t467 t468 t469 t470 t473 false _ ?side1 ?side2 A18.out).mono ?_
                (case side1 => repeat (first | exact (Kd.C_below HR0_0.out HB.out) | (with_reducible refine Kd.C_alloc ?_ _) | (with_reducible refine Kd.C_drewN ?_ _) | (with_reducible refine Kd.C_drew ?_)))
                (case side2 => exact HC0_0.out)
                rintro e w100 ⟨v471, rfl, ho0, hb⟩
                have HS1_ := (hb.cell (World.block_lt_of_cell? _ _ (hHeld.2))).trans (hHeld.2)
                refine ⟨_, rfl, ?_⟩
                have n0_ := Aside0.mk (Kd.R_elder' (by (with_reducible repeat first | apply Kd.R_alloc | apply Kd.R_drewN | apply Kd.R_drew); exact HO_9.out) (Kd.R_base ho0) hb)
                have n1_ := Aside0.mk (Kd.R_elder' (by (with_reducible repeat first | apply Kd.R_alloc | apply Kd.R_drewN | apply Kd.R_drew); exact HO_10.out) (Kd.R_base ho0) hb)
                have n2_ := Aside0.mk (Kd.R_elder' (by (with_reducible repeat first | apply Kd.R_alloc | apply Kd.R_drewN | apply Kd.R_drew); exact HO_11.out) (Kd.R_base ho0) hb)
                have n3_ := Aside0.mk (Kd.R_lower (Kd.R_new' (Kd.R_new' (Kd.R_new' ho0 (Kd.R_lt (by (with_reducible repeat first | apply Kd.R_alloc | apply Kd.R_drewN | apply Kd.R_drew); exact HO_9.out))) (Kd.R_lt (by (with_reducible repeat first | apply Kd.R_alloc | apply Kd.R_drewN | apply Kd.R_drew); exact HO_10.out))) (Kd.R_lt (by (with_reducible repeat first | apply Kd.R_alloc | apply Kd.R_drewN | apply Kd.R_drew); exact HO_11.out))) (below_size (by repeat with_reducible first | exact HB.out | apply below_alloc | apply pw_below_drewN | apply below_drew1 | refine below_set ?_ GE454.out)))
                have n4_ := Aside0.mk (blk_below (g := gb454) (o := .cells #[.slice (some ad459) l0_0.length c0_0] 24 (0, 0)) (by (with_reducible repeat first | apply bn | apply bd | apply ba); exact BK454.out) hb)
                have n5_ := Aside0.mk (below_step (by repeat with_reducible first | exact HB.out | apply below_alloc | apply pw_below_drewN | apply below_drew1 | refine below_set ?_ GE454.out) hb)
                clear HO_9
                clear HO_10
                clear HO_11
                clear BK454
                clear HB
                have HO_9 := n0_
                have HO_10 := n1_
                have HO_11 := n2_
                have HO472 := n3_
                have BK454 := n4_
                have HB := n5_
                clear n0_ n1_ n2_ n3_ n4_ n5_
                (try clear hb)
                (try clear hb2)
                (try clear hk)
                (try clear hi)
                (try clear ho0)
                refine hK.out _ _ ⟨(blk_cell BK454.out 0).trans rfl, HS1_⟩ (fun hHeld => ?_)
                clear hK K
                refine norm_ (a' := ?_) ?_ ?_
                rotate_left;focus(show Act.put _ (some 59) _ = _;simp only [Act.put, List.setIfInBounds_toArray, List.set_cons_zero, List.set_cons_succ, i64_w];rfl)
                refine pure_ (i := 7) (N := some 52) (v := ?_) (a' := ?_) #[true,true,true,true,true,true,true,true,false,false,false,false,false,false,false] rfl rfl (any_of HT_.out (by kernel_rfl)) (fun _ _ _ h => h) (Or.inl ⟨by rfl, ?_⟩) ?_ ?_
                rotate_left;focus(intro w';go_simp;with_reducible rfl)
                rotate_left;focus(simp only [Act.put, List.setIfInBounds_toArray, List.set_cons_zero, List.set_cons_succ, i64_w];rfl)
                refine pure_ (i := 8) (N := some 60) (v := ?_) (a' := ?_) #[true,true,true,true,true,true,true,true,true,false,false,false,false,false,false] rfl rfl (any_of HT_.out (by kernel_rfl)) (fun _ _ _ h => h) (Or.inl ⟨by rfl, ?_⟩) ?_ ?_
                rotate_left;focus(intro w';go_simp;with_reducible rfl)
                rotate_left;focus(simp only [Act.put, List.setIfInBounds_toArray, List.set_cons_zero, List.set_cons_succ, i64_w];rfl)
                refine pure_ (i := 9) (N := some 61) (v := ?_) (a' := ?_) #[true,true,true,true,true,true,true,true,true,true,false,false,false,false,false] rfl rfl (any_of HT_.out (by kernel_rfl)) (fun _ _ _ h => h) (Or.inl ⟨by rfl, ?_⟩) ?_ ?_
                rotate_left;focus(intro w';go_simp;with_reducible rfl)
                rotate_left;focus(simp only [Act.put, List.setIfInBounds_toArray, List.set_cons_zero, List.set_cons_succ, i64_w];rfl)
                refine pure_ (i := 10) (N := some 62) (v := ?_) (a' := ?_) #[true,true,true,true,true,true,true,true,true,true,true,false,false,false,false] rfl rfl (any_of HT_.out (by kernel_rfl)) (fun _ _ _ h => h) (Or.inl ⟨by rfl, ?_⟩) ?_ ?_
                rotate_left;focus(intro w';go_simp;with_reducible rfl)
                rotate_left;focus(simp only [Act.put, List.setIfInBounds_toArray, List.set_cons_zero, List.set_cons_succ, i64_w];rfl)
                refine one_ (i := 11) (N := some 14) #[true,true,true,true,true,true,true,true,true,true,true,true,false,false,false] rfl rfl (one_of HT_.out (by kernel_rfl)) (by decide) (fun K hK => ?_)
                refine box_step ?hg (N := 14) ?hd (cs := #[.string (⟨#[]⟩ : ByteArray), .bool false, .slice none 0 0, .string (⟨#[]⟩ : ByteArray)]) (t := 37) ?hr ?_; (case hd => rfl); (case hg => rfl); (case hr => first | (go_simp; done) | (go_simp; rfl))
                intro gb475 hg w101 hbox hb
                have HS1_ := (hb.cell (World.block_lt_of_cell? _ _ (hHeld.2))).trans (hHeld.2)
                have n0_ := Aside0.mk (Kd.R_below (by (with_reducible repeat first | apply Kd.R_alloc | apply Kd.R_drewN | apply Kd.R_drew); exact HO_9.out) hb)
                have n1_ := Aside0.mk (Kd.R_below (by (with_reducible repeat first | apply Kd.R_alloc | apply Kd.R_drewN | apply Kd.R_drew); exact HO_10.out) hb)
                have n2_ := Aside0.mk (Kd.R_below (by (with_reducible repeat first | apply Kd.R_alloc | apply Kd.R_drewN | apply Kd.R_drew); exact HO_11.out) hb)
                have n3_ := Aside0.mk (Kd.R_below (by (with_reducible repeat first | apply Kd.R_alloc | apply Kd.R_drewN | apply Kd.R_drew); exact HO472.out) hb)
                have n4_ := Aside0.mk (blk_below (g := gb454) (o := .cells #[.slice (some ad459) l0_0.length c0_0] 24 (0, 0)) (by (with_reducible repeat first | apply bn | apply bd | apply ba); exact BK454.out) hb)
                have n5_ := Aside0.mk (below_step (by repeat with_reducible first | exact HB.out | apply below_alloc | apply pw_below_drewN | apply below_drew1 | refine below_set ?_ GE454.out) hb)
                have n6_ := Aside0.mk (hbox)
                have n7_ := Aside0.mk ((by rw [hg]; exact (below_size (by repeat with_reducible first | exact HB.out | apply below_alloc | apply pw_below_drewN | apply below_drew1 | refine below_set ?_ GE454.out)) : w.heap.size ≤ gb475))
                have n8_ := Aside0.mk ((by rw [hg]; exact (below_size (by repeat with_reducible first | exact HB.out | apply below_alloc | apply pw_below_drewN | apply below_drew1 | refine below_set ?_ GE454.out)) : w.heap.size ≤ gb475))
                have n9_ := Aside0.mk ((by rw [hg]; exact Nat.ne_of_lt (blk_lt (g := gb454) (o := .cells #[.slice (some ad459) l0_0.length c0_0] 24 (0, 0)) (by (with_reducible repeat first | apply bn | apply bd | apply ba); exact BK454.out)) : gb454 ≠ gb475))
                have n10_ := Aside0.mk ((by rw [hg]; exact Nat.ne_of_gt (blk_lt (g := gb454) (o := .cells #[.slice (some ad459) l0_0.length c0_0] 24 (0, 0)) (by (with_reducible repeat first | apply bn | apply bd | apply ba); exact BK454.out)) : gb475 ≠ gb454))
                clear HO_9
                clear HO_10
                clear HO_11
                clear HO472
                clear BK454
                clear HB
                have HO_9 := n0_
                have HO_10 := n1_
                have HO_11 := n2_
                have HO472 := n3_
                have BK454 := n4_
                have HB := n5_
                have BK475 := n6_
                have GW475 := n7_
                have GE475 := n8_
                have NB454_475 := n9_
                have NB475_454 := n10_
                clear n0_ n1_ n2_ n3_ n4_ n5_ n6_ n7_ n8_ n9_ n10_
                clear hb hbox hg
                refine hK.out _ _ ⟨(blk_cell BK454.out 0).trans rfl, HS1_⟩ (fun hHeld => ?_)
                clear hK K
                refine norm_ (a' := ?_) ?_ ?_
                rotate_left;focus(show Act.put _ (some 14) _ = _;simp only [Act.put, List.setIfInBounds_toArray, List.set_cons_zero, List.set_cons_succ, i64_w];rfl)
                exact norm_ (by simp only [putAll, Act.put, List.setIfInBounds_toArray, List.set_cons_zero, List.set_cons_succ]) (hCont (v471, gb475) _ ⟨hHeld, (by (with_reducible repeat first | apply Kd.R_alloc | apply Kd.R_drewN | apply Kd.R_drew); exact Kd.R_mono HO472.out (fun _ hk => ⟨hk.1.2, ⟨hk.2, hk.1.1.2⟩⟩)), (by (with_reducible repeat first | apply Kd.R_alloc | apply Kd.R_drewN | apply Kd.R_drew); exact Kd.R_mono HO_10.out (fun _ hk => ⟨hk.2, ⟨hk.1.2, hk.1.1⟩⟩)), (by (with_reducible repeat first | apply Kd.R_alloc | apply Kd.R_drewN | apply Kd.R_drew); exact Kd.R_mono HO_11.out (fun _ hk => ⟨hk.2, ⟨hk.1.2, hk.1.1⟩⟩)), (by (with_reducible repeat first | apply Kd.R_alloc | apply Kd.R_drewN | apply Kd.R_drew); exact Kd.R_mono HO_9.out (fun _ hk => ⟨hk.2, ⟨hk.1.1, hk.1.2⟩⟩)), (by (with_reducible repeat first | apply bn | apply bd | apply ba); exact BK454.out), (by (with_reducible repeat first | apply bn | apply bd | apply ba); exact BK475.out), GW475.out, GE475.out, NB454_475.out, NB475_454.out, (by repeat with_reducible first | exact HB.out | apply below_alloc | apply pw_below_drewN | apply below_drew1 | refine below_set ?_ GE454.out | refine below_set ?_ GE475.out)⟩)
               ·skip
                refine box_step ?hg (N := 14) ?hd (cs := #[.string (⟨#[]⟩ : ByteArray), .bool false, .slice none 0 0, .string (⟨#[]⟩ : ByteArray)]) (t := 37) ?hr ?_; (case hd => rfl); (case hg => rfl); (case hr => first | (go_simp; done) | (go_simp; rfl))
                intro gb475 hg w100 hbox hb
                have HS1_ := (hb.cell (World.block_lt_of_cell? _ _ (hHeld.2))).trans (hHeld.2)
                have n0_ := Aside0.mk (Kd.R_below (by (with_reducible repeat first | apply Kd.R_alloc | apply Kd.R_drewN | apply Kd.R_drew); exact HO_9.out) hb)
                have n1_ := Aside0.mk (Kd.R_below (by (with_reducible repeat first | apply Kd.R_alloc | apply Kd.R_drewN | apply Kd.R_drew); exact HO_10.out) hb)
                have n2_ := Aside0.mk (Kd.R_below (by (with_reducible repeat first | apply Kd.R_alloc | apply Kd.R_drewN | apply Kd.R_drew); exact HO_11.out) hb)
                have n3_ := Aside0.mk (blk_below (g := gb454) (o := .cells #[.slice (some ad459) l0_0.length c0_0] 24 (0, 0)) (by (with_reducible repeat first | apply bn | apply bd | apply ba); exact BK454.out) hb)
                have n4_ := Aside0.mk (below_step (by repeat with_reducible first | exact HB.out | apply below_alloc | apply pw_below_drewN | apply below_drew1 | refine below_set ?_ GE454.out) hb)
                have n5_ := Aside0.mk (hbox)
                have n6_ := Aside0.mk ((by rw [hg]; exact (below_size (by repeat with_reducible first | exact HB.out | apply below_alloc | apply pw_below_drewN | apply below_drew1 | refine below_set ?_ GE454.out)) : w.heap.size ≤ gb475))
                have n7_ := Aside0.mk ((by rw [hg]; exact (below_size (by repeat with_reducible first | exact HB.out | apply below_alloc | apply pw_below_drewN | apply below_drew1 | refine below_set ?_ GE454.out)) : w.heap.size ≤ gb475))
                have n8_ := Aside0.mk ((by rw [hg]; exact Nat.ne_of_lt (blk_lt (g := gb454) (o := .cells #[.slice (some ad459) l0_0.length c0_0] 24 (0, 0)) (by (with_reducible repeat first | apply bn | apply bd | apply ba); exact BK454.out)) : gb454 ≠ gb475))
                have n9_ := Aside0.mk ((by rw [hg]; exact Nat.ne_of_gt (blk_lt (g := gb454) (o := .cells #[.slice (some ad459) l0_0.length c0_0] 24 (0, 0)) (by (with_reducible repeat first | apply bn | apply bd | apply ba); exact BK454.out)) : gb475 ≠ gb454))
                clear HO_9
                clear HO_10
                clear HO_11
                clear BK454
                clear HB
                have HO_9 := n0_
                have HO_10 := n1_
                have HO_11 := n2_
                have BK454 := n3_
                have HB := n4_
                have BK475 := n5_
                have GW475 := n6_
                have GE475 := n7_
                have NB454_475 := n8_
                have NB475_454 := n9_
                clear n0_ n1_ n2_ n3_ n4_ n5_ n6_ n7_ n8_ n9_
                clear hb hbox hg
                refine hK.out _ _ ⟨(blk_cell BK454.out 0).trans rfl, HS1_⟩ (fun hHeld => ?_)
                clear hK K
                refine norm_ (a' := ?_) ?_ ?_
                rotate_left;focus(show Act.put _ (some 14) _ = _;simp only [Act.put, List.setIfInBounds_toArray, List.set_cons_zero, List.set_cons_succ, i64_w];rfl)
                refine one_ (i := 6) (N := some 59) #[true,true,true,true,true,true,true,false,false,false,false,true,false,false,false] rfl rfl (one_of HT_.out (by kernel_rfl)) (by decide) (fun K hK => ?_)
                refine goes_ Tryd.func10 (by kernel_rfl) rfl #[.agg #[.slice (some ad459) l0_0.length c0_0], .string (rdOf ByteArray.empty t460 x12_2), .string a1] (by rfl) rfl rfl (by (try simp only [List.map_toArray, List.map_cons, List.map_nil]); first | done | rfl) ?_
                with_reducible refine (hier_Lookup.calls k2 _ _ l0_0 (rdOf ByteArray.empty t460 x12_2) a1 t467 t468 t469 t470 t473 false _ ?side1 ?side2 A18.out).mono ?_
                (case side1 => repeat (first | exact (Kd.C_below HR0_0.out HB.out) | (with_reducible refine Kd.C_alloc ?_ _) | (with_reducible refine Kd.C_drewN ?_ _) | (with_reducible refine Kd.C_drew ?_)))
                (case side2 => exact HC0_0.out)
                rintro e w101 ⟨v471, rfl, ho0, hb⟩
                have HS1_ := (hb.cell (World.block_lt_of_cell? _ _ (hHeld.2))).trans (hHeld.2)
                refine ⟨_, rfl, ?_⟩
                have n0_ := Aside0.mk (Kd.R_elder' (by (with_reducible repeat first | apply Kd.R_alloc | apply Kd.R_drewN | apply Kd.R_drew); exact HO_9.out) (Kd.R_base ho0) hb)
                have n1_ := Aside0.mk (Kd.R_elder' (by (with_reducible repeat first | apply Kd.R_alloc | apply Kd.R_drewN | apply Kd.R_drew); exact HO_10.out) (Kd.R_base ho0) hb)
                have n2_ := Aside0.mk (Kd.R_elder' (by (with_reducible repeat first | apply Kd.R_alloc | apply Kd.R_drewN | apply Kd.R_drew); exact HO_11.out) (Kd.R_base ho0) hb)
                have n3_ := Aside0.mk (Kd.R_lower (Kd.R_new' (Kd.R_new' (Kd.R_new' ho0 (Kd.R_lt (by (with_reducible repeat first | apply Kd.R_alloc | apply Kd.R_drewN | apply Kd.R_drew); exact HO_9.out))) (Kd.R_lt (by (with_reducible repeat first | apply Kd.R_alloc | apply Kd.R_drewN | apply Kd.R_drew); exact HO_10.out))) (Kd.R_lt (by (with_reducible repeat first | apply Kd.R_alloc | apply Kd.R_drewN | apply Kd.R_drew); exact HO_11.out))) (below_size (by repeat with_reducible first | exact HB.out | apply below_alloc | apply pw_below_drewN | apply below_drew1 | refine below_set ?_ GE454.out | refine below_set ?_ GE475.out)))
                have n4_ := Aside0.mk (blk_below (g := gb454) (o := .cells #[.slice (some ad459) l0_0.length c0_0] 24 (0, 0)) (by (with_reducible repeat first | apply bn | apply bd | apply ba); exact BK454.out) hb)
                have n5_ := Aside0.mk (blk_below (g := gb475) (o := .cells #[.string (⟨#[]⟩ : ByteArray), .bool false, .slice none 0 0, .string (⟨#[]⟩ : ByteArray)] 37 (0, 0)) (by (with_reducible repeat first | apply bn | apply bd | apply ba); exact BK475.out) hb)
                have n6_ := Aside0.mk (below_step (by repeat with_reducible first | exact HB.out | apply below_alloc | apply pw_below_drewN | apply below_drew1 | refine below_set ?_ GE454.out | refine below_set ?_ GE475.out) hb)
                clear HO_9
                clear HO_10
                clear HO_11
                clear BK454
                clear BK475
                clear HB
                have HO_9 := n0_
                have HO_10 := n1_
                have HO_11 := n2_
                have HO472 := n3_
                have BK454 := n4_
                have BK475 := n5_
                have HB := n6_
                clear n0_ n1_ n2_ n3_ n4_ n5_ n6_
                (try clear hb)
                (try clear hb2)
                (try clear hk)
                (try clear hi)
                (try clear ho0)
                refine hK.out _ _ ⟨(blk_cell BK454.out 0).trans rfl, HS1_⟩ (fun hHeld => ?_)
                clear hK K
                refine norm_ (a' := ?_) ?_ ?_
                rotate_left;focus(show Act.put _ (some 59) _ = _;simp only [Act.put, List.setIfInBounds_toArray, List.set_cons_zero, List.set_cons_succ, i64_w];rfl)
                refine pure_ (i := 7) (N := some 52) (v := ?_) (a' := ?_) #[true,true,true,true,true,true,true,true,false,false,false,true,false,false,false] rfl rfl (any_of HT_.out (by kernel_rfl)) (fun _ _ _ h => h) (Or.inl ⟨by rfl, ?_⟩) ?_ ?_
                rotate_left;focus(intro w';go_simp;with_reducible rfl)
                rotate_left;focus(simp only [Act.put, List.setIfInBounds_toArray, List.set_cons_zero, List.set_cons_succ, i64_w];rfl)
                refine pure_ (i := 8) (N := some 60) (v := ?_) (a' := ?_) #[true,true,true,true,true,true,true,true,true,false,false,true,false,false,false] rfl rfl (any_of HT_.out (by kernel_rfl)) (fun _ _ _ h => h) (Or.inl ⟨by rfl, ?_⟩) ?_ ?_
                rotate_left;focus(intro w';go_simp;with_reducible rfl)
                rotate_left;focus(simp only [Act.put, List.setIfInBounds_toArray, List.set_cons_zero, List.set_cons_succ, i64_w];rfl)
                refine pure_ (i := 9) (N := some 61) (v := ?_) (a' := ?_) #[true,true,true,true,true,true,true,true,true,true,false,true,false,false,false] rfl rfl (any_of HT_.out (by kernel_rfl)) (fun _ _ _ h => h) (Or.inl ⟨by rfl, ?_⟩) ?_ ?_
                rotate_left;focus(intro w';go_simp;with_reducible rfl)
                rotate_left;focus(simp only [Act.put, List.setIfInBounds_toArray, List.set_cons_zero, List.set_cons_succ, i64_w];rfl)
                refine pure_ (i := 10) (N := some 62) (v := ?_) (a' := ?_) #[true,true,true,true,true,true,true,true,true,true,true,true,false,false,false] rfl rfl (any_of HT_.out (by kernel_rfl)) (fun _ _ _ h => h) (Or.inl ⟨by rfl, ?_⟩) ?_ ?_
                rotate_left;focus(intro w';go_simp;with_reducible rfl)
                rotate_left;focus(simp only [Act.put, List.setIfInBounds_toArray, List.set_cons_zero, List.set_cons_succ, i64_w];rfl)
                exact norm_ (by simp only [putAll, Act.put, List.setIfInBounds_toArray, List.set_cons_zero, List.set_cons_succ]) (hCont (v471, gb475) _ ⟨hHeld, (by (with_reducible repeat first | apply Kd.R_alloc | apply Kd.R_drewN | apply Kd.R_drew); exact Kd.R_mono HO472.out (fun _ hk => ⟨hk.1.2, ⟨hk.2, hk.1.1.2⟩⟩)), (by (with_reducible repeat first | apply Kd.R_alloc | apply Kd.R_drewN | apply Kd.R_drew); exact Kd.R_mono HO_10.out (fun _ hk => ⟨hk.2, ⟨hk.1.2, hk.1.1⟩⟩)), (by (with_reducible repeat first | apply Kd.R_alloc | apply Kd.R_drewN | apply Kd.R_drew); exact Kd.R_mono HO_11.out (fun _ hk => ⟨hk.2, ⟨hk.1.2, hk.1.1⟩⟩)), (by (with_reducible repeat first | apply Kd.R_alloc | apply Kd.R_drewN | apply Kd.R_drew); exact Kd.R_mono HO_9.out (fun _ hk => ⟨hk.2, ⟨hk.1.1, hk.1.2⟩⟩)), (by (with_reducible repeat first | apply bn | apply bd | apply ba); exact BK454.out), (by (with_reducible repeat first | apply bn | apply bd | apply ba); exact BK475.out), GW475.out, GE475.out, NB454_475.out, NB475_454.out, (by repeat with_reducible first | exact HB.out | apply below_alloc | apply pw_below_drewN | apply below_drew1 | refine below_set ?_ GE454.out | refine below_set ?_ GE475.out)⟩)
              rintro ⟨v471, gb475⟩ w102 ⟨hS_, h0_, h1_, h2_, h3_, h4_, h5_, h6_, h7_, h8_, h9_, h10_⟩
              have n0_ : Aside0 (Kd.R Kd.string 9 w102 w.heap.size (fun k_ => some k_ ≠ (v464 : Value).ownBlock ∧ some k_ ≠ (u11 : Value).ownBlock ∧ some k_ ≠ (.slice (some ad466) t460.length co98 : Value).ownBlock) v471 t470) := ⟨h0_⟩
              have n1_ : Aside0 (Kd.R Kd.string 9 w102 w.heap.size (fun k_ => some k_ ≠ (v471 : Value).ownBlock ∧ some k_ ≠ (u11 : Value).ownBlock ∧ some k_ ≠ (.slice (some ad466) t460.length co98 : Value).ownBlock) v464 t463) := ⟨h1_⟩
              have n2_ : Aside0 (Kd.R Kd.string 9 w102 w.heap.size (fun k_ => some k_ ≠ (v471 : Value).ownBlock ∧ some k_ ≠ (v464 : Value).ownBlock ∧ some k_ ≠ (.slice (some ad466) t460.length co98 : Value).ownBlock) u11 x11_2) := ⟨h2_⟩
              have n3_ : Aside0 (Kd.R Kd.string 9 w102 w.heap.size (fun k_ => some k_ ≠ (v471 : Value).ownBlock ∧ some k_ ≠ (v464 : Value).ownBlock ∧ some k_ ≠ (u11 : Value).ownBlock) (.slice (some ad466) t460.length co98) t460) := ⟨h3_⟩
              have n4_ : Aside0 (w102.heap[gb454]? = some (.cells #[.slice (some ad459) l0_0.length c0_0] 24 (0, 0))) := ⟨h4_⟩
              have n5_ : Aside0 (w102.heap[gb475]? = some (.cells #[.string (⟨#[]⟩ : ByteArray), .bool false, .slice none 0 0, .string (⟨#[]⟩ : ByteArray)] 37 (0, 0))) := ⟨h5_⟩
              have n6_ : Aside0 (w.heap.size ≤ gb475) := ⟨h6_⟩
              have n7_ : Aside0 (w.heap.size ≤ gb475) := ⟨h7_⟩
              have n8_ : Aside0 (gb454 ≠ gb475) := ⟨h8_⟩
              have n9_ : Aside0 (gb475 ≠ gb454) := ⟨h9_⟩
              have n10_ : Aside0 (Below w.heap.size w w102) := ⟨h10_⟩
              clear HO_9
              clear HO_10
              clear HO_11
              clear BK454
              clear HB
              clear h0_ h1_ h2_ h3_ h4_ h5_ h6_ h7_ h8_ h9_ h10_
              have HO472 := n0_
              have HO_10 := n1_
              have HO_11 := n2_
              have HO_9 := n3_
              have BK454 := n4_
              have BK475 := n5_
              have GW475 := n6_
              have GE475 := n7_
              have NB454_475 := n8_
              have NB475_454 := n9_
              have HB := n10_
              clear n0_ n1_ n2_ n3_ n4_ n5_ n6_ n7_ n8_ n9_ n10_
              have hHeld : w102.cell? ⟨gb454, 0, none⟩ = some (.slice (some ad459) l0_0.length c0_0) ∧ w102.cell? (ad466.add (x12_2).toNat) = some (.string (rdOf ByteArray.empty t460 x12_2)) := hS_
              obtain ⟨Ao105, co105, eo105⟩ := Kd.R_slice HO472.out
              (first | subst eo105 | (injection eo105 with f1_ f2_ f3_; have f4_ := f1_.symm; have f5_ := f3_.symm; clear f1_ f2_ f3_; subst f4_; subst f5_))
              refine norm_ (a' := ?_) ?_ ?_
              rotate_left;focus(simp only [putAll, Act.put, List.setIfInBounds_toArray, List.set_cons_zero, List.set_cons_succ];rfl)
              refine pure_ (i := 12) (N := some 13) (v := ?_) (a' := ?_) #[true,true,true,true,true,true,true,true,true,true,true,true,true,false,false] rfl rfl (any_of HT_.out (by kernel_rfl)) (fun _ _ _ h => h) (Or.inl ⟨by rfl, ?_⟩) ?_ ?_
              rotate_left;focus(intro w';go_simp;with_reducible rfl)
              rotate_left;focus(simp only [Act.put, List.setIfInBounds_toArray, List.set_cons_zero, List.set_cons_succ, i64_w];rfl)
              refine one_ (i := 13) (N := none) #[true,true,true,true,true,true,true,true,true,true,true,true,true,true,false] rfl rfl (one_of HT_.out (by kernel_rfl)) (by decide) (fun K hK => ?_)
              have hs103 : w102.cell? ⟨gb475, 0, none⟩ = some (.string (⟨#[]⟩ : ByteArray)) := (blk_cell BK475.out 0).trans rfl
              have hfs103 := blk_frozen BK475.out 0
              have hns103_0 := NB454_475.out
              have hms103_0 := NB475_454.out
              have hs104 : w102.cell? ⟨gb475, 1, none⟩ = some (.bool false) := (blk_cell BK475.out 1).trans rfl
              have hfs104 := blk_frozen BK475.out 1
              have hns104_0 := NB454_475.out
              have hms104_0 := NB475_454.out
              have hs106 : w102.cell? ⟨gb475, 2, none⟩ = some (.slice none 0 0) := (blk_cell BK475.out 2).trans rfl
              have hfs106 := blk_frozen BK475.out 2
              have hns106_0 := NB454_475.out
              have hms106_0 := NB475_454.out
              have hs107 : w102.cell? ⟨gb475, 3, none⟩ = some (.string (⟨#[]⟩ : ByteArray)) := (blk_cell BK475.out 3).trans rfl
              have hfs107 := blk_frozen BK475.out 3
              have hns107_0 := NB454_475.out
              have hms107_0 := NB475_454.out
              refine skip_ (w1 := ?_) (by rfl) rfl ?_ ?_
              rotate_left;focus(go_simp;rfl)
              refine hK.out _ _ ⟨(far4 (g := gb475) NB454_475.out (hHeld.1)), ((cell_far (p := ⟨gb475, _, none⟩) (by first | exact Kd.own_blk (Kd.R_ne HO_9.out BK475.out (by decide)) | (rw [add_block]; exact Kd.own_blk (Kd.R_ne HO_9.out BK475.out (by decide))) | (show (Addr.add _ _).block ≠ _; rw [add_block]; exact Kd.own_blk (Kd.R_ne HO_9.out BK475.out (by decide))) | (dsimp only; exact Kd.own_blk (Kd.R_ne HO_9.out BK475.out (by decide)))) _).trans (((cell_far (p := ⟨gb475, _, none⟩) (by first | exact Kd.own_blk (Kd.R_ne HO_9.out BK475.out (by decide)) | (rw [add_block]; exact Kd.own_blk (Kd.R_ne HO_9.out BK475.out (by decide))) | (show (Addr.add _ _).block ≠ _; rw [add_block]; exact Kd.own_blk (Kd.R_ne HO_9.out BK475.out (by decide))) | (dsimp only; exact Kd.own_blk (Kd.R_ne HO_9.out BK475.out (by decide)))) _).trans (((cell_far (p := ⟨gb475, _, none⟩) (by first | exact Kd.own_blk (Kd.R_ne HO_9.out BK475.out (by decide)) | (rw [add_block]; exact Kd.own_blk (Kd.R_ne HO_9.out BK475.out (by decide))) | (show (Addr.add _ _).block ≠ _; rw [add_block]; exact Kd.own_blk (Kd.R_ne HO_9.out BK475.out (by decide))) | (dsimp only; exact Kd.own_blk (Kd.R_ne HO_9.out BK475.out (by decide)))) _).trans (((cell_far (p := ⟨gb475, _, none⟩) (by first | exact Kd.own_blk (Kd.R_ne HO_9.out BK475.out (by decide)) | (rw [add_block]; exact Kd.own_blk (Kd.R_ne HO_9.out BK475.out (by decide))) | (show (Addr.add _ _).block ≠ _; rw [add_block]; exact Kd.own_blk (Kd.R_ne HO_9.out BK475.out (by decide))) | (dsimp only; exact Kd.own_blk (Kd.R_ne HO_9.out BK475.out (by decide)))) _).trans (hHeld.2))))))))⟩ (fun hHeld => ?_)
              clear hK K
              refine pure_ (i := 14) (N := some 15) (v := ?_) (a' := ?_) #[true,true,true,true,true,true,true,true,true,true,true,true,true,true,true] rfl rfl (any_of HT_.out (by kernel_rfl)) (fun _ _ _ h => h) (Or.inl ⟨by rfl, ?_⟩) ?_ ?_
              rotate_left;focus(intro w';go_simp;with_reducible rfl)
              rotate_left;focus(simp only [Act.put, List.setIfInBounds_toArray, List.set_cons_zero, List.set_cons_succ, i64_w];rfl)
              refine done_ (done_of HT_.out (by kernel_rfl)) ?_
              try go_wp2
              have n0_ : Aside0 (Kd.R Kd.string 9 ((((w102.setCell ⟨gb475, 0, none⟩ (.string t468)).setCell ⟨gb475, 1, none⟩ (.bool t469)).setCell ⟨gb475, 2, none⟩ (.slice Ao105 t470.length co105)).setCell ⟨gb475, 3, none⟩ (.string t473)) w.heap.size (fun k_ => some k_ ≠ (v464 : Value).ownBlock ∧ some k_ ≠ (u11 : Value).ownBlock ∧ some k_ ≠ (.slice Ao105 t470.length co105 : Value).ownBlock) (.slice (some ad466) t460.length co98) t460) := ⟨by (with_reducible repeat first | apply Kd.R_alloc | apply Kd.R_drewN | apply Kd.R_drew); exact Kd.R_mono (Kd.R_far (p := ⟨gb475, 3, none⟩) (Kd.R_far (p := ⟨gb475, 2, none⟩) (Kd.R_far (p := ⟨gb475, 1, none⟩) (Kd.R_far (p := ⟨gb475, 0, none⟩) (Kd.R_types HO_9.out BK475.out (by decide)) (fun _ hk => hk.2) (.string t468)) (fun _ hk => hk.2) (.bool t469)) (fun _ hk => hk.2) (.slice Ao105 t470.length co105)) (fun _ hk => hk.2) (.string t473)) (fun _ hk => ⟨hk.1.2.1, ⟨hk.1.2.2, hk.1.1⟩⟩)⟩
              have n1_ : Aside0 (Kd.R Kd.string 9 ((((w102.setCell ⟨gb475, 0, none⟩ (.string t468)).setCell ⟨gb475, 1, none⟩ (.bool t469)).setCell ⟨gb475, 2, none⟩ (.slice Ao105 t470.length co105)).setCell ⟨gb475, 3, none⟩ (.string t473)) w.heap.size (fun k_ => some k_ ≠ (.slice (some ad466) t460.length co98 : Value).ownBlock ∧ some k_ ≠ (u11 : Value).ownBlock ∧ some k_ ≠ (.slice Ao105 t470.length co105 : Value).ownBlock) v464 t463) := ⟨by (with_reducible repeat first | apply Kd.R_alloc | apply Kd.R_drewN | apply Kd.R_drew); exact Kd.R_mono (Kd.R_far (p := ⟨gb475, 3, none⟩) (Kd.R_far (p := ⟨gb475, 2, none⟩) (Kd.R_far (p := ⟨gb475, 1, none⟩) (Kd.R_far (p := ⟨gb475, 0, none⟩) (Kd.R_types HO_10.out BK475.out (by decide)) (fun _ hk => hk.2) (.string t468)) (fun _ hk => hk.2) (.bool t469)) (fun _ hk => hk.2) (.slice Ao105 t470.length co105)) (fun _ hk => hk.2) (.string t473)) (fun _ hk => ⟨hk.1.2.2, ⟨hk.1.2.1, hk.1.1⟩⟩)⟩
              have n2_ : Aside0 (Kd.R Kd.string 9 ((((w102.setCell ⟨gb475, 0, none⟩ (.string t468)).setCell ⟨gb475, 1, none⟩ (.bool t469)).setCell ⟨gb475, 2, none⟩ (.slice Ao105 t470.length co105)).setCell ⟨gb475, 3, none⟩ (.string t473)) w.heap.size (fun k_ => some k_ ≠ (.slice (some ad466) t460.length co98 : Value).ownBlock ∧ some k_ ≠ (v464 : Value).ownBlock ∧ some k_ ≠ (.slice Ao105 t470.length co105 : Value).ownBlock) u11 x11_2) := ⟨by (with_reducible repeat first | apply Kd.R_alloc | apply Kd.R_drewN | apply Kd.R_drew); exact Kd.R_mono (Kd.R_far (p := ⟨gb475, 3, none⟩) (Kd.R_far (p := ⟨gb475, 2, none⟩) (Kd.R_far (p := ⟨gb475, 1, none⟩) (Kd.R_far (p := ⟨gb475, 0, none⟩) (Kd.R_types HO_11.out BK475.out (by decide)) (fun _ hk => hk.2) (.string t468)) (fun _ hk => hk.2) (.bool t469)) (fun _ hk => hk.2) (.slice Ao105 t470.length co105)) (fun _ hk => hk.2) (.string t473)) (fun _ hk => ⟨hk.1.2.2, ⟨hk.1.2.1, hk.1.1⟩⟩)⟩
              have n3_ : Aside0 (Kd.R Kd.string 9 ((((w102.setCell ⟨gb475, 0, none⟩ (.string t468)).setCell ⟨gb475, 1, none⟩ (.bool t469)).setCell ⟨gb475, 2, none⟩ (.slice Ao105 t470.length co105)).setCell ⟨gb475, 3, none⟩ (.string t473)) w.heap.size (fun k_ => some k_ ≠ (.slice (some ad466) t460.length co98 : Value).ownBlock ∧ some k_ ≠ (v464 : Value).ownBlock ∧ some k_ ≠ (u11 : Value).ownBlock) (.slice Ao105 t470.length co105) t470) := ⟨by (with_reducible repeat first | apply Kd.R_alloc | apply Kd.R_drewN | apply Kd.R_drew); exact Kd.R_mono (Kd.R_far (p := ⟨gb475, 3, none⟩) (Kd.R_far (p := ⟨gb475, 2, none⟩) (Kd.R_far (p := ⟨gb475, 1, none⟩) (Kd.R_far (p := ⟨gb475, 0, none⟩) (Kd.R_types HO472.out BK475.out (by decide)) (fun _ hk => hk.2) (.string t468)) (fun _ hk => hk.2) (.bool t469)) (fun _ hk => hk.2) (.slice Ao105 t470.length co105)) (fun _ hk => hk.2) (.string t473)) (fun _ hk => ⟨hk.1.2.2, ⟨hk.1.1, hk.1.2.1⟩⟩)⟩
              have n4_ : Aside0 (((((w102.setCell ⟨gb475, 0, none⟩ (.string t468)).setCell ⟨gb475, 1, none⟩ (.bool t469)).setCell ⟨gb475, 2, none⟩ (.slice Ao105 t470.length co105)).setCell ⟨gb475, 3, none⟩ (.string t473)).heap[gb454]? = some (.cells #[.slice (some ad459) l0_0.length c0_0] 24 (0, 0))) := ⟨by (with_reducible repeat first | apply bn | apply bd | apply ba); refine blk_far ?_ NB454_475.out _; refine blk_far ?_ NB454_475.out _; refine blk_far ?_ NB454_475.out _; refine blk_far ?_ NB454_475.out _; (with_reducible repeat first | apply bn | apply bd | apply ba); exact BK454.out⟩
              have n5_ : Aside0 (((((w102.setCell ⟨gb475, 0, none⟩ (.string t468)).setCell ⟨gb475, 1, none⟩ (.bool t469)).setCell ⟨gb475, 2, none⟩ (.slice Ao105 t470.length co105)).setCell ⟨gb475, 3, none⟩ (.string t473)).heap[gb475]? = some (.cells #[.string t468, .bool t469, .slice Ao105 t470.length co105, .string t473] 37 (0, 0))) := ⟨by (with_reducible repeat first | apply bn | apply bd | apply ba); refine blk_put (cs := #[.string t468, .bool t469, .slice Ao105 t470.length co105, .string (⟨#[]⟩ : ByteArray)]) ?_ 3 _ rfl; refine blk_put (cs := #[.string t468, .bool t469, .slice none 0 0, .string (⟨#[]⟩ : ByteArray)]) ?_ 2 _ rfl; refine blk_put (cs := #[.string t468, .bool false, .slice none 0 0, .string (⟨#[]⟩ : ByteArray)]) ?_ 1 _ rfl; refine blk_put (cs := #[.string (⟨#[]⟩ : ByteArray), .bool false, .slice none 0 0, .string (⟨#[]⟩ : ByteArray)]) ?_ 0 _ rfl; (with_reducible repeat first | apply bn | apply bd | apply ba); exact BK475.out⟩
              have n6_ : Aside0 (Below w.heap.size w ((((w102.setCell ⟨gb475, 0, none⟩ (.string t468)).setCell ⟨gb475, 1, none⟩ (.bool t469)).setCell ⟨gb475, 2, none⟩ (.slice Ao105 t470.length co105)).setCell ⟨gb475, 3, none⟩ (.string t473))) := ⟨by repeat with_reducible first | exact HB.out | apply below_alloc | apply pw_below_drewN | apply below_drew1 | refine below_set ?_ GE454.out | refine below_set ?_ GE475.out⟩
              (try clear HO_9)
              (try clear HO_10)
              (try clear HO_11)
              (try clear HO472)
              (try clear BK454)
              (try clear BK475)
              (try clear HB)
              generalize ((((w102.setCell ⟨gb475, 0, none⟩ (.string t468)).setCell ⟨gb475, 1, none⟩ (.bool t469)).setCell ⟨gb475, 2, none⟩ (.slice Ao105 t470.length co105)).setCell ⟨gb475, 3, none⟩ (.string t473)) = w108 at n0_ n1_ n2_ n3_ n4_ n5_ n6_ ⊢
              have HO_9 := n0_
              have HO_10 := n1_
              have HO_11 := n2_
              have HO472 := n3_
              have BK454 := n4_
              have BK475 := n5_
              have HB := n6_
              clear n0_ n1_ n2_ n3_ n4_ n5_ n6_
              have n0_ := Aside0.mk (Kd.R_drew HO_9.out)
              have n1_ := Aside0.mk (Kd.R_drew HO_10.out)
              have n2_ := Aside0.mk (Kd.R_drew HO_11.out)
              have n3_ := Aside0.mk (Kd.R_drew HO472.out)
              have n4_ := Aside0.mk (blk_drew BK454.out)
              have n5_ := Aside0.mk (blk_drew BK475.out)
              have n6_ := Aside0.mk (below_drew1 HB.out)
              clear HO_9
              clear HO_10
              clear HO_11
              clear HO472
              clear BK454
              clear BK475
              clear HB
              have HO_9 := n0_
              have HO_10 := n1_
              have HO_11 := n2_
              have HO472 := n3_
              have BK454 := n4_
              have BK475 := n5_
              have HB := n6_
              clear n0_ n1_ n2_ n3_ n4_ n5_ n6_
              have p476 : 0 ≤ (x12_2 : Int) := of_decide_eq_true (by first | (with_reducible assumption) | assumption)
              have q476 : x12_2 < (t460.length : Int) := of_decide_eq_true (by first | (with_reducible assumption) | assumption)
              obtain ⟨ad476, e476, hx476_0⟩ := Kd.at_string (Kd.R_reads' HO_9.out).2.2 x12_2 p476 q476
              obtain rfl : ad466 = ad476 := (by injection e476)
              replace p476 := eq_true p476
              replace q476 := eq_true q476
              refine start_ (n := 10) (S := fun w' => w'.cell? ⟨gb454, 0, none⟩ = some (.slice (some ad459) l0_0.length c0_0) ∧ w'.cell? (ad466.add (x12_2).toNat) = some (.string (rdOf ByteArray.empty t460 x12_2))) (ds := []) #[false,false,false,false,false,false,false,false,false,false] (by kernel_rfl) rfl rfl ⟨(blk_cell BK454.out 0).trans rfl, hx476_0⟩ (fun hHeld => ?_); refine with_tabW dataflowlaw10_HierDispatch.tab14 dataflowlaw10_HierDispatch.bits14 (fun HT_ HW_ => ?_)
              generalize w108.drew = w109 at HO_9 HO_10 HO_11 HO472 BK454 BK475 HB hx476_0 hHeld ⊢
              refine pure_ (i := 2) (N := some 65) (v := ?_) (a' := ?_) #[false,false,true,false,false,false,false,false,false,false] rfl rfl (any_of HT_.out (by kernel_rfl)) (fun _ _ _ h => h) (Or.inl ⟨by rfl, ?_⟩) ?_ ?_
              rotate_left;focus(intro w';go_simp;with_reducible rfl)
              rotate_left;focus(simp only [Act.put, List.setIfInBounds_toArray, List.set_cons_zero, List.set_cons_succ, i64_w];rfl)
              refine pure_ (i := 3) (N := some 66) (v := ?_) (a' := ?_) #[false,false,true,true,false,false,false,false,false,false] rfl rfl (any_of HT_.out (by kernel_rfl)) (fun _ _ _ h => h) (Or.inl ⟨by rfl, ?_⟩) ?_ ?_
              rotate_left;focus(intro w';go_simp;with_reducible rfl)
              rotate_left;focus(simp only [Act.put, List.setIfInBounds_toArray, List.set_cons_zero, List.set_cons_succ, i64_w];rfl)
              refine pure_ (i := 4) (N := some 67) (v := ?_) (a' := ?_) #[false,false,true,true,true,false,false,false,false,false] rfl rfl (any_of HT_.out (by kernel_rfl)) (fun _ _ _ h => h) (Or.inl ⟨by rfl, ?_⟩) ?_ ?_
              rotate_left;focus(intro w';go_simp;with_reducible rfl)
              rotate_left;focus(simp only [Act.put, List.setIfInBounds_toArray, List.set_cons_zero, List.set_cons_succ, i64_w];rfl)
              refine pure_ (i := 7) (N := some 70) (v := ?_) (a' := ?_) #[false,false,true,true,true,false,false,true,false,false] rfl rfl (any_of HT_.out (by kernel_rfl)) (fun _ _ _ h => h) (Or.inl ⟨by rfl, ?_⟩) ?_ ?_
              rotate_left;focus(intro w';go_simp;with_reducible rfl)
              rotate_left;focus(simp only [Act.put, List.setIfInBounds_toArray, List.set_cons_zero, List.set_cons_succ, i64_w];rfl)
              refine take_ (i := 0) (N := some 63) (v := ?_) (a' := ?_) #[true,false,true,true,true,false,false,true,false,false] rfl rfl (take_ofW HT_.out HW_.out (by kernel_rfl)) (fun _ _ _ h => h) (Or.inl ⟨by rfl, ?_⟩) hHeld ?_ ?_
              rotate_left;focus(rintro w' ⟨s0, s1⟩;go_simp;with_reducible rfl)
              rotate_left;focus(simp only [Act.put, List.setIfInBounds_toArray, List.set_cons_zero, List.set_cons_succ, i64_w];rfl)
              refine take_ (i := 1) (N := some 64) (v := ?_) (a' := ?_) #[true,true,true,true,true,false,false,true,false,false] rfl rfl (take_ofW HT_.out HW_.out (by kernel_rfl)) (fun _ _ _ h => h) (Or.inl ⟨by rfl, ?_⟩) hHeld ?_ ?_
              rotate_left;focus(rintro w' ⟨s0, s1⟩;go_simp;with_reducible rfl)
              rotate_left;focus(simp only [Act.put, List.setIfInBounds_toArray, List.set_cons_zero, List.set_cons_succ, i64_w];rfl)
              refine take_ (i := 5) (N := some 68) (v := ?_) (a' := ?_) #[true,true,true,true,true,true,false,true,false,false] rfl rfl (take_ofW HT_.out HW_.out (by kernel_rfl)) (fun _ _ _ h => h) (Or.inl ⟨by rfl, ?_⟩) hHeld ?_ ?_
              rotate_left;focus(rintro w' ⟨s0, s1⟩;go_simp;with_reducible rfl)
              rotate_left;focus(simp only [Act.put, List.setIfInBounds_toArray, List.set_cons_zero, List.set_cons_succ, i64_w];rfl)
              refine one_ (i := 6) (N := some 69) #[true,true,true,true,true,true,true,true,false,false] rfl rfl (one_of HT_.out (by kernel_rfl)) (by decide) (fun K hK => ?_)
              refine goes_ Tryd.func12 (by kernel_rfl) rfl #[.agg #[.slice (some ad459) l0_0.length c0_0], .string (rdOf ByteArray.empty t460 x12_2)] (by rfl) rfl rfl (by (try simp only [List.map_toArray, List.map_cons, List.map_nil]); first | done | rfl) ?_
              with_reducible refine (dataflowref10_Supers.calls k2 _ _ l0_0 (rdOf ByteArray.empty t460 x12_2) t477 _ ?side1 ?side2 A19.out).mono ?_
              (case side1 => repeat (first | exact (Kd.C_below HR0_0.out HB.out) | (with_reducible refine Kd.C_alloc ?_ _) | (with_reducible refine Kd.C_drewN ?_ _) | (with_reducible refine Kd.C_drew ?_)))
              (case side2 => exact HC0_0.out)
              rintro e w110 ⟨v478, rfl, ho0, hb⟩
              have HS1_ := (hb.cell (World.block_lt_of_cell? _ _ (hHeld.2))).trans (hHeld.2)
              refine ⟨_, rfl, ?_⟩
              have n0_ := Aside0.mk (Kd.R_elder' (by (with_reducible repeat first | apply Kd.R_alloc | apply Kd.R_drewN | apply Kd.R_drew); exact HO_9.out) (Kd.R_base ho0) hb)
              have n1_ := Aside0.mk (Kd.R_elder' (by (with_reducible repeat first | apply Kd.R_alloc | apply Kd.R_drewN | apply Kd.R_drew); exact HO_10.out) (Kd.R_base ho0) hb)
              have n2_ := Aside0.mk (Kd.R_elder' (by (with_reducible repeat first | apply Kd.R_alloc | apply Kd.R_drewN | apply Kd.R_drew); exact HO_11.out) (Kd.R_base ho0) hb)
              have n3_ := Aside0.mk (Kd.R_elder' (by (with_reducible repeat first | apply Kd.R_alloc | apply Kd.R_drewN | apply Kd.R_drew); exact HO472.out) (Kd.R_base ho0) hb)
              have n4_ := Aside0.mk (Kd.R_lower (Kd.R_new' (Kd.R_new' (Kd.R_new' (Kd.R_new' ho0 (Kd.R_lt (by (with_reducible repeat first | apply Kd.R_alloc | apply Kd.R_drewN | apply Kd.R_drew); exact HO_9.out))) (Kd.R_lt (by (with_reducible repeat first | apply Kd.R_alloc | apply Kd.R_drewN | apply Kd.R_drew); exact HO_10.out))) (Kd.R_lt (by (with_reducible repeat first | apply Kd.R_alloc | apply Kd.R_drewN | apply Kd.R_drew); exact HO_11.out))) (Kd.R_lt (by (with_reducible repeat first | apply Kd.R_alloc | apply Kd.R_drewN | apply Kd.R_drew); exact HO472.out))) (below_size (by repeat with_reducible first | exact HB.out | apply below_alloc | apply pw_below_drewN | apply below_drew1 | refine below_set ?_ GE454.out | refine below_set ?_ GE475.out)))
              have n5_ := Aside0.mk (blk_below (g := gb454) (o := .cells #[.slice (some ad459) l0_0.length c0_0] 24 (0, 0)) (by (with_reducible repeat first | apply bn | apply bd | apply ba); exact BK454.out) hb)
              have n6_ := Aside0.mk (blk_below (g := gb475) (o := .cells #[.string t468, .bool t469, .slice Ao105 t470.length co105, .string t473] 37 (0, 0)) (by (with_reducible repeat first | apply bn | apply bd | apply ba); exact BK475.out) hb)
              have n7_ := Aside0.mk (below_step (by repeat with_reducible first | exact HB.out | apply below_alloc | apply pw_below_drewN | apply below_drew1 | refine below_set ?_ GE454.out | refine below_set ?_ GE475.out) hb)
              clear HO_9
              clear HO_10
              clear HO_11
              clear HO472
              clear BK454
              clear BK475
              clear HB
              have HO_9 := n0_
              have HO_10 := n1_
              have HO_11 := n2_
              have HO472 := n3_
              have HO479 := n4_
              have BK454 := n5_
              have BK475 := n6_
              have HB := n7_
              clear n0_ n1_ n2_ n3_ n4_ n5_ n6_ n7_
              (try clear hb)
              (try clear hb2)
              (try clear hk)
              (try clear hi)
              (try clear ho0)
              obtain ⟨Ao111, co111, eo111⟩ := Kd.R_slice HO479.out
              (first | subst eo111 | (injection eo111 with f1_ f2_ f3_; have f4_ := f1_.symm; have f5_ := f3_.symm; clear f1_ f2_ f3_; subst f4_; subst f5_))
              refine hK.out _ _ ⟨(blk_cell BK454.out 0).trans rfl, HS1_⟩ (fun hHeld => ?_)
              clear hK K
              refine norm_ (a' := ?_) ?_ ?_
              rotate_left;focus(show Act.put _ (some 69) _ = _;simp only [Act.put, List.setIfInBounds_toArray, List.set_cons_zero, List.set_cons_succ, i64_w];rfl)
              refine one_ (i := 8) (N := some 71) #[true,true,true,true,true,true,true,true,true,false] rfl rfl (one_of HT_.out (by kernel_rfl)) (by decide) (fun K hK => ?_)
              refine goes_ Tryd.func11 (by kernel_rfl) rfl #[.agg #[.slice (some ad459) l0_0.length c0_0], .slice Ao111 t477.length co111, .string a1] (by rfl) rfl rfl (by (try simp only [List.map_toArray, List.map_cons, List.map_nil]); first | done | rfl) ?_
              with_reducible refine (dataflowlaw10_nearest.calls k2 _ _ l0_0 _ _ t477 a1 t480 _ ?side1 ?side2 ?side3 ?side4 A20.out).mono ?_
              (case side1 => repeat (first | exact (Kd.C_below HR0_0.out HB.out) | (with_reducible refine Kd.C_alloc ?_ _) | (with_reducible refine Kd.C_drewN ?_ _) | (with_reducible refine Kd.C_drew ?_)))
              (case side2 => exact HC0_0.out)
              (case side3 => repeat (first | exact (Kd.R_reads' HO479.out).2.2 | (with_reducible refine Kd.C_alloc ?_ _) | (with_reducible refine Kd.C_drewN ?_ _) | (with_reducible refine Kd.C_drew ?_)))
              (case side4 => exact (Kd.R_reads' HO479.out).2.1)
              rintro e w112 ⟨rfl, hb⟩
              have HS1_ := (hb.cell (World.block_lt_of_cell? _ _ (hHeld.2))).trans (hHeld.2)
              refine ⟨_, rfl, ?_⟩
              have n0_ := Aside0.mk (Kd.R_below (by (with_reducible repeat first | apply Kd.R_alloc | apply Kd.R_drewN | apply Kd.R_drew); exact HO_9.out) hb)
              have n1_ := Aside0.mk (Kd.R_below (by (with_reducible repeat first | apply Kd.R_alloc | apply Kd.R_drewN | apply Kd.R_drew); exact HO_10.out) hb)
              have n2_ := Aside0.mk (Kd.R_below (by (with_reducible repeat first | apply Kd.R_alloc | apply Kd.R_drewN | apply Kd.R_drew); exact HO_11.out) hb)
              have n3_ := Aside0.mk (Kd.R_below (by (with_reducible repeat first | apply Kd.R_alloc | apply Kd.R_drewN | apply Kd.R_drew); exact HO472.out) hb)
              have n4_ := Aside0.mk (Kd.R_below (by (with_reducible repeat first | apply Kd.R_alloc | apply Kd.R_drewN | apply Kd.R_drew); exact HO479.out) hb)
              have n5_ := Aside0.mk (blk_below (g := gb454) (o := .cells #[.slice (some ad459) l0_0.length c0_0] 24 (0, 0)) (by (with_reducible repeat first | apply bn | apply bd | apply ba); exact BK454.out) hb)
              have n6_ := Aside0.mk (blk_below (g := gb475) (o := .cells #[.string t468, .bool t469, .slice Ao105 t470.length co105, .string t473] 37 (0, 0)) (by (with_reducible repeat first | apply bn | apply bd | apply ba); exact BK475.out) hb)
              have n7_ := Aside0.mk (below_step (by repeat with_reducible first | exact HB.out | apply below_alloc | apply pw_below_drewN | apply below_drew1 | refine below_set ?_ GE454.out | refine below_set ?_ GE475.out) hb)
              clear HO_9
              clear HO_10
              clear HO_11
              clear HO472
              clear HO479
              clear BK454
              clear BK475
              clear HB
              have HO_9 := n0_
              have HO_10 := n1_
              have HO_11 := n2_
              have HO472 := n3_
              have HO479 := n4_
              have BK454 := n5_
              have BK475 := n6_
              have HB := n7_
              clear n0_ n1_ n2_ n3_ n4_ n5_ n6_ n7_
              (try clear hb)
              (try clear hb2)
              (try clear hk)
              (try clear hi)
              refine hK.out _ _ ⟨(blk_cell BK454.out 0).trans rfl, HS1_⟩ (fun hHeld => ?_)
              clear hK K
              refine norm_ (a' := ?_) ?_ ?_
              rotate_left;focus(show Act.put _ (some 71) _ = _;simp only [Act.put, List.setIfInBounds_toArray, List.set_cons_zero, List.set_cons_succ, i64_w];rfl)
              refine pure_ (i := 9) (N := some 16) (v := ?_) (a' := ?_) #[true,true,true,true,true,true,true,true,true,true] rfl rfl (any_of HT_.out (by kernel_rfl)) (fun _ _ _ h => h) (Or.inl ⟨by rfl, ?_⟩) ?_ ?_
              rotate_left;focus(intro w';go_simp;with_reducible rfl)
              rotate_left;focus(simp only [Act.put, List.setIfInBounds_toArray, List.set_cons_zero, List.set_cons_succ, i64_w];rfl)
              refine done_ (done_of HT_.out (by kernel_rfl)) ?_
              try go_wp2_with (first | ((with_reducible refine gate_builtin (b := .append) (xs := #[.tmp 96, .tmp 98]) rfl ?_); at_builtin; refine Kd.R_append Kd.string (w0 := w) w.heap.size rfl (.tmp 96) (.tmp 98) 33 9 (.string ⟨#[]⟩) 16 rfl Tryd.underlying33 info9 rfl (by decide) (by omega) u11 x11_2 t467 [.string t467] (fun k_ => some k_ ≠ (.slice (some ad466) t460.length co98 : Value).ownBlock ∧ some k_ ≠ (v464 : Value).ownBlock ∧ some k_ ≠ (.slice Ao105 t470.length co105 : Value).ownBlock ∧ some k_ ≠ (.slice Ao111 t477.length co111 : Value).ownBlock) (fun _ => False) rfl rfl ?aP (fun _ hk => hk.elim) ?aF ?aO ?aB ?aS ?aL ?_; (case aP => exact rfl); (case aB => exact (by repeat with_reducible first | exact HB.out | apply below_alloc | apply pw_below_drewN | apply below_drew1 | refine below_set ?_ GE454.out | refine below_set ?_ GE475.out)); (case aF => exact (fun k_ hk => ⟨Kd.fresh' (Kd.R_lt (by (with_reducible repeat first | apply Kd.R_alloc | apply Kd.R_drewN | apply Kd.R_drew); exact HO_9.out)) k_ hk, Kd.fresh' (Kd.R_lt (by (with_reducible repeat first | apply Kd.R_alloc | apply Kd.R_drewN | apply Kd.R_drew); exact HO_10.out)) k_ hk, Kd.fresh' (Kd.R_lt (by (with_reducible repeat first | apply Kd.R_alloc | apply Kd.R_drewN | apply Kd.R_drew); exact HO472.out)) k_ hk, Kd.fresh' (Kd.R_lt (by (with_reducible repeat first | apply Kd.R_alloc | apply Kd.R_drewN | apply Kd.R_drew); exact HO479.out)) k_ hk⟩)); (case aO => exact (by (with_reducible repeat first | apply Kd.R_alloc | apply Kd.R_drewN | apply Kd.R_drew); exact Kd.R_mono HO_11.out (fun _ hk => ⟨hk.1.1, ⟨hk.1.2.1, ⟨hk.1.2.2, hk.2⟩⟩⟩))); (case aS => exact (below_size (by repeat with_reducible first | exact HB.out | apply below_alloc | apply pw_below_drewN | apply below_drew1 | refine below_set ?_ GE454.out | refine below_set ?_ GE475.out))); (case aL => have := LMc97.out; omega); intro v486 w113 ho hb hg hat; rw [← Ny485.out] at ho; have n0_ := Aside0.mk (Kd.R_after (ok := (fun k_ => some k_ ≠ (v464 : Value).ownBlock ∧ some k_ ≠ (.slice Ao105 t470.length co105 : Value).ownBlock ∧ some k_ ≠ (.slice Ao111 t477.length co111 : Value).ownBlock)) (by (with_reducible repeat first | apply Kd.R_alloc | apply Kd.R_drewN | apply Kd.R_drew); exact Kd.R_mono HO_9.out (fun _ hk => ⟨⟨hk.1.1, ⟨hk.1.2.2, hk.2⟩⟩, hk.1.2.1⟩)) hg hat); have n1_ := Aside0.mk (Kd.R_after (ok := (fun k_ => some k_ ≠ (.slice (some ad466) t460.length co98 : Value).ownBlock ∧ some k_ ≠ (.slice Ao105 t470.length co105 : Value).ownBlock ∧ some k_ ≠ (.slice Ao111 t477.length co111 : Value).ownBlock)) (by (with_reducible repeat first | apply Kd.R_alloc | apply Kd.R_drewN | apply Kd.R_drew); exact Kd.R_mono HO_10.out (fun _ hk => ⟨⟨hk.1.1, ⟨hk.1.2.2, hk.2⟩⟩, hk.1.2.1⟩)) hg hat); have n2_ := Aside0.mk (blk_grown (g := gb454) (o := .cells #[.slice (some ad459) l0_0.length c0_0] 24 (0, 0)) (by (with_reducible repeat first | apply bn | apply bd | apply ba); exact BK454.out) hg (Kd.R_ne HO_11.out BK454.out (by decide))); have n3_ := Aside0.mk (Kd.R_after (ok := (fun k_ => some k_ ≠ (.slice (some ad466) t460.length co98 : Value).ownBlock ∧ some k_ ≠ (v464 : Value).ownBlock ∧ some k_ ≠ (.slice Ao111 t477.length co111 : Value).ownBlock)) (by (with_reducible repeat first | apply Kd.R_alloc | apply Kd.R_drewN | apply Kd.R_drew); exact Kd.R_mono HO472.out (fun _ hk => ⟨⟨hk.1.1, ⟨hk.1.2.1, hk.2⟩⟩, hk.1.2.2⟩)) hg hat); have n4_ := Aside0.mk (blk_grown (g := gb475) (o := .cells #[.string t468, .bool t469, .slice Ao105 t470.length co105, .string t473] 37 (0, 0)) (by (with_reducible repeat first | apply bn | apply bd | apply ba); exact BK475.out) hg (Kd.R_ne HO_11.out BK475.out (by decide))); have n5_ := Aside0.mk (Kd.R_after (ok := (fun k_ => some k_ ≠ (.slice (some ad466) t460.length co98 : Value).ownBlock ∧ some k_ ≠ (v464 : Value).ownBlock ∧ some k_ ≠ (.slice Ao105 t470.length co105 : Value).ownBlock)) (by (with_reducible repeat first | apply Kd.R_alloc | apply Kd.R_drewN | apply Kd.R_drew); exact Kd.R_mono HO479.out (fun _ hk => ⟨⟨hk.1.1.1.2, ⟨hk.1.1.2, hk.2⟩⟩, hk.1.2⟩)) hg hat); have n6_ := Aside0.mk (hb); have n7_ := Aside0.mk (ho); clear HO_9; clear HO_10; clear BK454; clear HO472; clear BK475; clear HO479; clear HB; clear HO_11; have HO_9 := n0_; have HO_10 := n1_; have BK454 := n2_; have HO472 := n3_; have BK475 := n4_; have HO479 := n5_; have HB := n6_; have HO487 := n7_; clear n0_ n1_ n2_ n3_ n4_ n5_ n6_ n7_; clear ho hb hg hat))
              all_goals first | exact absurd c_d (by assumption) | exact absurd c_c (by assumption) | skip
              go_roundg k2
              case measure => have := HK1.out; have := HK2.out; omega
              case rel => exact ⟨(y485), (wrap64 (x12_2 + 1)), (by first | rfl | (simp; done) | (simp [*]; done)), H', ⟨by have := HK1.out; have := HK2.out; omega⟩, ⟨by (with_reducible repeat first | apply Kd.R_alloc | apply Kd.R_drewN | apply Kd.R_drew); exact Kd.R_mono HO_9.out (fun _ hk => ⟨hk.1.1, hk.2⟩)⟩, ⟨by (with_reducible repeat first | apply Kd.R_alloc | apply Kd.R_drewN | apply Kd.R_drew); exact Kd.R_mono HO_10.out (fun _ hk => ⟨hk.1.1, hk.2⟩)⟩, ⟨by (with_reducible repeat first | apply Kd.R_alloc | apply Kd.R_drewN | apply Kd.R_drew); exact Kd.R_mono HO487.out (fun _ hk => ⟨hk.1, hk.2.1⟩)⟩, ⟨by (with_reducible repeat first | apply bn | apply bd | apply ba); exact BK454.out⟩, ⟨by repeat with_reducible first | exact HB.out | apply below_alloc | apply pw_below_drewN | apply below_drew1 | refine below_set ?_ GE454.out | refine below_set ?_ GE475.out⟩⟩
             ·rw [if_neg c97] at H
              exact absurd H (by simp)
           ·rw [if_neg c37] at H
            exact absurd H (by simp)
         ·rw [if_neg c17] at H
          exact absurd H (by simp)
        ·rw [if_neg c16] at H
         have c16b0 : decide (x12_2 < (t460.length : Int)) = false := decide_eq_false c16
         clear c16
         have H' := Aside0.mk H
         clear H
         obtain ⟨Ao129, co129, eo129⟩ := Kd.R_slice HO_9.out
         subst eo129
         go_wp2
         go_loopg [17] k2 (fun kq v17 w' => ∃ (x17_3 : Int), v17 = .int .i64 x17_3 ∧ Aside0 (dataflowlaw10_HierDispatch.l2 kq a1 x7_1 t463 x11_2 x17_3 l0_0 = some r) ∧ Aside0 (kq ≤ k2) ∧ Aside0 (Kd.R Kd.string 9 w' w.heap.size (fun k_ => some k_ ≠ (u11 : Value).ownBlock) v464 t463) ∧ Aside0 (Kd.R Kd.string 9 w' w.heap.size (fun k_ => some k_ ≠ (v464 : Value).ownBlock) u11 x11_2) ∧ Aside0 (w'.heap[gb454]? = some (.cells #[(.slice (some ad459) l0_0.length c0_0)] 24 (0, 0))) ∧ Aside0 (Below w.heap.size w w'))
         case atStart => exact ⟨(0), (by first | rfl | (simp; done) | (simp [*]; done)), H', ⟨Nat.le_refl _⟩, ⟨by (with_reducible repeat first | apply Kd.R_alloc | apply Kd.R_drewN | apply Kd.R_drew); exact Kd.R_mono HO_10.out (fun _ hk => hk.2)⟩, ⟨by (with_reducible repeat first | apply Kd.R_alloc | apply Kd.R_drewN | apply Kd.R_drew); exact Kd.R_mono HO_11.out (fun _ hk => hk.2)⟩, ⟨by (with_reducible repeat first | apply bn | apply bd | apply ba); exact BK454.out⟩, ⟨by repeat with_reducible first | exact HB.out | apply below_alloc | apply pw_below_drewN | apply below_drew1 | refine below_set ?_ GE454.out⟩⟩
         case round =>
          clear H'
          (try clear c1);(try clear p2);(try clear p4);(try clear q4);(try clear hx4);(try clear c10);(try clear c11);(try clear c12);(try clear c16);(try clear c16b0);(try clear c17);(try clear p46);(try clear q46);(try clear hx46);(try clear p47);(try clear q47);(try clear hx47);(try clear hx466_0);(try clear hx476_0);(try clear p466);(try clear p476);(try clear q466);(try clear q476)
          obtain ⟨x17_3, rfl, HA, HK3, HO_10, HO_11, BK454, HB⟩ := hrel
          cases gk with
          | zero => exact absurd HA.out (by simp [dataflowlaw10_HierDispatch.l2])
          | succ k3 =>
           have H := HA.out
           clear HA
           simp only [dataflowlaw10_HierDispatch.l2] at H
           by_cases c130 : x17_3 < (t463.length : Int)
           ·rw [if_pos c130] at H
            have c130b0 : decide (x17_3 < (t463.length : Int)) = true := decide_eq_true c130
            clear c130
            by_cases c131 : 0 ≤ x17_3
            ·rw [if_pos c131] at H
             have c131b0 : decide (0 ≤ x17_3) = true := decide_eq_true c131
             clear c131
             replace H := Option.bind_eq_some_iff.mp H
             obtain ⟨t489, A1320, H⟩ := H
             replace H : (if t489 = true then (if x17_3 > 0 then (if 0 ≤ (wrap64 (x17_3 - 1)) then (if (wrap64 (x17_3 - 1)) < (t463.length : Int) then (if ((Op.bytesLess ((rdOf ByteArray.empty t463 (wrap64 (x17_3 - 1))).toList) ((rdOf ByteArray.empty t463 x17_3).toList)) = true) then (dataflowlaw10_HierDispatch.l2 k3 a1 x7_1 t463 x11_2 (wrap64 (x17_3 + 1)) l0_0) else (none)) else (none)) else (none)) else (dataflowlaw10_HierDispatch.l2 k3 a1 x7_1 t463 x11_2 (wrap64 (x17_3 + 1)) l0_0)) else (none)) = some r := H
             have A132 := Aside0.mk A1320
             clear A1320
             by_cases c133 : t489 = true
             ·subst c133
              have H1 : (if x17_3 > 0 then (if 0 ≤ (wrap64 (x17_3 - 1)) then (if (wrap64 (x17_3 - 1)) < (t463.length : Int) then (if ((Op.bytesLess ((rdOf ByteArray.empty t463 (wrap64 (x17_3 - 1))).toList) ((rdOf ByteArray.empty t463 x17_3).toList)) = true) then (dataflowlaw10_HierDispatch.l2 k3 a1 x7_1 t463 x11_2 (wrap64 (x17_3 + 1)) l0_0) else (none)) else (none)) else (none)) else (dataflowlaw10_HierDispatch.l2 k3 a1 x7_1 t463 x11_2 (wrap64 (x17_3 + 1)) l0_0)) = some r := by rw [if_pos rfl] at H; exact H
              clear H
              have H := H1
              clear H1
              by_cases c134 : x17_3 > 0
              ·rw [if_pos c134] at H
               have c134b0 : decide (0 < x17_3) = true := decide_eq_true c134
               clear c134
               obtain ⟨ji135, hji135⟩ : ∃ j_ : Int, (wrap64 (x17_3 - 1)) = j_ := ⟨_, rfl⟩
               replace H : (if 0 ≤ (ji135) then (if (ji135) < (t463.length : Int) then (if ((Op.bytesLess ((rdOf ByteArray.empty t463 (ji135)).toList) ((rdOf ByteArray.empty t463 x17_3).toList)) = true) then (dataflowlaw10_HierDispatch.l2 k3 a1 x7_1 t463 x11_2 (wrap64 (x17_3 + 1)) l0_0) else (none)) else (none)) else (none)) = some r := by first | (rw [hji135] at H; exact H) | (simp only [hji135] at H ⊢; exact H)
               (try rw [hji135] at A132)
               have hji135w : (IntKind.i64.wrap (x17_3 - 1)) = ji135 := (i64_w _).trans hji135
               by_cases c136 : 0 ≤ (ji135)
               ·rw [if_pos c136] at H
                have c136b0 : decide (0 ≤ (ji135)) = true := decide_eq_true c136
                clear c136
                by_cases c137 : (ji135) < (t463.length : Int)
                ·rw [if_pos c137] at H
                 have c137b0 : decide ((ji135) < (t463.length : Int)) = true := decide_eq_true c137
                 clear c137
                 by_cases c138 : ((Op.bytesLess ((rdOf ByteArray.empty t463 (ji135)).toList) ((rdOf ByteArray.empty t463 x17_3).toList)) = true)
                 ·rw [if_pos c138] at H
                  have c138b0 : (Op.bytesLess ((rdOf ByteArray.empty t463 (ji135)).toList) ((rdOf ByteArray.empty t463 x17_3).toList)) = true := c138
                  clear c138
                  have H' := Aside0.mk H
                  clear H
                  obtain ⟨Ao139, co139, eo139⟩ := Kd.R_slice HO_10.out
                  subst eo139
                  try go_wp2
                  have n0_ := Aside0.mk (Kd.R_drew HO_10.out)
                  have n1_ := Aside0.mk (Kd.R_drew HO_11.out)
                  have n2_ := Aside0.mk (blk_drew BK454.out)
                  have n3_ := Aside0.mk (below_drew1 HB.out)
                  clear HO_10
                  clear HO_11
                  clear BK454
                  clear HB
                  have HO_10 := n0_
                  have HO_11 := n1_
                  have BK454 := n2_
                  have HB := n3_
                  clear n0_ n1_ n2_ n3_
                  have p488 : 0 ≤ (x17_3 : Int) := of_decide_eq_true (by first | (with_reducible assumption) | assumption)
                  have q488 : x17_3 < (t463.length : Int) := of_decide_eq_true (by first | (with_reducible assumption) | assumption)
                  obtain ⟨ad488, e488, hx488_0⟩ := Kd.at_string (Kd.R_reads' HO_10.out).2.2 x17_3 p488 q488
                  cases e488
                  replace p488 := eq_true p488
                  replace q488 := eq_true q488
                  obtain ⟨Ao141, co141, eo141⟩ := Kd.R_slice HO_11.out
                  (first | subst eo141 | (injection eo141 with f1_ f2_ f3_; have f4_ := f1_.symm; have f5_ := f3_.symm; clear f1_ f2_ f3_; subst f4_; subst f5_))
                  have p490 : 0 ≤ ((ji135) : Int) := of_decide_eq_true (by first | (with_reducible assumption) | assumption)
                  have q490 : (ji135) < (t463.length : Int) := of_decide_eq_true (by first | (with_reducible assumption) | assumption)
                  obtain ⟨ad490, e490, hx490_0⟩ := Kd.at_string (Kd.R_reads' HO_10.out).2.2 (ji135) p490 q490
                  obtain rfl : ad488 = ad490 := (by injection e490)
                  replace p490 := eq_true p490
                  replace q490 := eq_true q490
                  have p491 : 0 ≤ (x17_3 : Int) := of_decide_eq_true (by first | (with_reducible assumption) | assumption)
                  have q491 : x17_3 < (t463.length : Int) := of_decide_eq_true (by first | (with_reducible assumption) | assumption)
                  obtain ⟨ad491, e491, hx491_0⟩ := Kd.at_string (Kd.R_reads' HO_10.out).2.2 x17_3 p491 q491
                  obtain rfl : ad488 = ad491 := (by injection e491)
                  replace p491 := eq_true p491
                  replace q491 := eq_true q491
                  refine start_ (n := 23) (S := fun w' => w'.cell? (ad488.add (x17_3).toNat) = some (.string (rdOf ByteArray.empty t463 x17_3)) ∧ w'.cell? (ad488.add ((ji135)).toNat) = some (.string (rdOf ByteArray.empty t463 (ji135))) ∧ w'.cell? (ad488.add (x17_3).toNat) = some (.string (rdOf ByteArray.empty t463 x17_3))) (ds := []) #[false,false,false,false,false,false,false,false,false,false,false,false,false,false,false,false,false,false,false,false,false,false,false] (by kernel_rfl) rfl rfl ⟨hx488_0, hx490_0, hx491_0⟩ (fun hHeld => ?_); refine with_tabW dataflowlaw10_HierDispatch.tab21 dataflowlaw10_HierDispatch.bits21 (fun HT_ HW_ => ?_)
                  generalize wr.drew = w140 at HO_10 HO_11 BK454 HB hx488_0 hx490_0 hx491_0 hHeld ⊢
                  refine pure_ (i := 0) (N := some 106) (v := ?_) (a' := ?_) #[true,false,false,false,false,false,false,false,false,false,false,false,false,false,false,false,false,false,false,false,false,false,false] rfl rfl (any_of HT_.out (by kernel_rfl)) (fun _ _ _ h => h) (Or.inl ⟨by rfl, ?_⟩) ?_ ?_
                  rotate_left;focus(intro w';go_simp;with_reducible rfl)
                  rotate_left;focus(simp only [Act.put, List.setIfInBounds_toArray, List.set_cons_zero, List.set_cons_succ, i64_w];rfl)
                  refine pure_ (i := 1) (N := some 107) (v := ?_) (a' := ?_) #[true,true,false,false,false,false,false,false,false,false,false,false,false,false,false,false,false,false,false,false,false,false,false] rfl rfl (any_of HT_.out (by kernel_rfl)) (fun _ _ _ h => h) (Or.inl ⟨by rfl, ?_⟩) ?_ ?_
                  rotate_left;focus(intro w';go_simp;with_reducible rfl)
                  rotate_left;focus(simp only [Act.put, List.setIfInBounds_toArray, List.set_cons_zero, List.set_cons_succ, i64_w];rfl)
                  refine pure_ (i := 2) (N := some 108) (v := ?_) (a' := ?_) #[true,true,true,false,false,false,false,false,false,false,false,false,false,false,false,false,false,false,false,false,false,false,false] rfl rfl (any_of HT_.out (by kernel_rfl)) (fun _ _ _ h => h) (Or.inl ⟨by rfl, ?_⟩) ?_ ?_
                  rotate_left;focus(intro w';go_simp;with_reducible rfl)
                  rotate_left;focus(simp only [Act.put, List.setIfInBounds_toArray, List.set_cons_zero, List.set_cons_succ, i64_w];rfl)
                  refine pure_ (i := 3) (N := some 109) (v := ?_) (a' := ?_) #[true,true,true,true,false,false,false,false,false,false,false,false,false,false,false,false,false,false,false,false,false,false,false] rfl rfl (any_of HT_.out (by kernel_rfl)) (fun _ _ _ h => h) (Or.inl ⟨by rfl, ?_⟩) ?_ ?_
                  rotate_left;focus(intro w';go_simp;with_reducible rfl)
                  rotate_left;focus(simp only [Act.put, List.setIfInBounds_toArray, List.set_cons_zero, List.set_cons_succ, i64_w];rfl)
                  refine take_ (i := 4) (N := some 110) (v := ?_) (a' := ?_) #[true,true,true,true,true,false,false,false,false,false,false,false,false,false,false,false,false,false,false,false,false,false,false] rfl rfl (take_ofW HT_.out HW_.out (by kernel_rfl)) (fun _ _ _ h => h) (Or.inl ⟨by rfl, ?_⟩) hHeld ?_ ?_
                  rotate_left;focus(rintro w' ⟨s0, s1, s2⟩;go_simp;with_reducible rfl)
                  rotate_left;focus(simp only [Act.put, List.setIfInBounds_toArray, List.set_cons_zero, List.set_cons_succ, i64_w];rfl)
                  refine one_ (i := 5) (N := some 111) #[true,true,true,true,true,true,false,false,false,false,false,false,false,false,false,false,false,false,false,false,false,false,false] rfl rfl (one_of HT_.out (by kernel_rfl)) (by decide) (fun K hK => ?_)
                  refine goes_ Tryd.func13 (by kernel_rfl) rfl #[.slice Ao141 x11_2.length co141, .string (rdOf ByteArray.empty t463 x17_3)] (by rfl) rfl rfl (by (try simp only [List.map_toArray, List.map_cons, List.map_nil]); first | done | rfl) ?_
                  with_reducible refine (dataflowlaw10_has.calls k3 _ _ x11_2 (rdOf ByteArray.empty t463 x17_3) true _ ?side1 ?side2 A132.out).mono ?_
                  (case side1 => repeat (first | exact (Kd.R_reads' HO_11.out).2.2 | (with_reducible refine Kd.C_alloc ?_ _) | (with_reducible refine Kd.C_drewN ?_ _) | (with_reducible refine Kd.C_drew ?_)))
                  (case side2 => exact (Kd.R_reads' HO_11.out).2.1)
                  rintro e w' ⟨rfl, ⟨nd, rfl⟩⟩
                  refine ⟨_, rfl, ?_⟩
                  refine hK.out _ _ ⟨hHeld.1, hHeld.2.1, hHeld.2.2⟩ (fun hHeld => ?_)
                  clear hK K
                  refine norm_ (a' := ?_) ?_ ?_
                  rotate_left;focus(show Act.put _ (some 111) _ = _;simp only [Act.put, List.setIfInBounds_toArray, List.set_cons_zero, List.set_cons_succ, i64_w];rfl)
                  refine pure_ (i := 6) (N := some 112) (v := ?_) (a' := ?_) #[true,true,true,true,true,true,true,false,false,false,false,false,false,false,false,false,false,false,false,false,false,false,false] rfl rfl (any_of HT_.out (by kernel_rfl)) (fun _ _ _ h => h) (Or.inl ⟨by rfl, ?_⟩) ?_ ?_
                  rotate_left;focus(intro w';go_simp;with_reducible rfl)
                  rotate_left;focus(simp only [Act.put, List.setIfInBounds_toArray, List.set_cons_zero, List.set_cons_succ, i64_w];rfl)
                  refine pure_ (i := 7) (N := some 113) (v := ?_) (a' := ?_) #[true,true,true,true,true,true,true,true,false,false,false,false,false,false,false,false,false,false,false,false,false,false,false] rfl rfl (any_of HT_.out (by kernel_rfl)) (fun _ _ _ h => h) (Or.inl ⟨by rfl, ?_⟩) ?_ ?_
                  rotate_left;focus(intro w';go_simp;with_reducible rfl)
                  rotate_left;focus(simp only [Act.put, List.setIfInBounds_toArray, List.set_cons_zero, List.set_cons_succ, i64_w];rfl)
                  refine pure_ (i := 8) (N := some 114) (v := ?_) (a' := ?_) #[true,true,true,true,true,true,true,true,true,false,false,false,false,false,false,false,false,false,false,false,false,false,false] rfl rfl (any_of HT_.out (by kernel_rfl)) (fun _ _ _ h => h) (Or.inl ⟨by rfl, ?_⟩) ?_ ?_
                  rotate_left;focus(intro w';go_simp;with_reducible rfl)
                  rotate_left;focus(simp only [Act.put, List.setIfInBounds_toArray, List.set_cons_zero, List.set_cons_succ, i64_w];rfl)
                  refine pure_ (i := 9) (N := some 115) (v := ?_) (a' := ?_) #[true,true,true,true,true,true,true,true,true,true,false,false,false,false,false,false,false,false,false,false,false,false,false] rfl rfl (any_of HT_.out (by kernel_rfl)) (fun _ _ _ h => h) (Or.inl ⟨by rfl, ?_⟩) ?_ ?_
                  rotate_left;focus(intro w';go_simp;with_reducible rfl)
                  rotate_left;focus(simp only [Act.put, List.setIfInBounds_toArray, List.set_cons_zero, List.set_cons_succ, i64_w];rfl)
                  refine pure_ (i := 10) (N := some 116) (v := ?_) (a' := ?_) #[true,true,true,true,true,true,true,true,true,true,true,false,false,false,false,false,false,false,false,false,false,false,false] rfl rfl (any_of HT_.out (by kernel_rfl)) (fun _ _ _ h => h) (Or.inl ⟨by rfl, ?_⟩) ?_ ?_
                  rotate_left;focus(intro w';go_simp;with_reducible rfl)
                  rotate_left;focus(simp only [Act.put, List.setIfInBounds_toArray, List.set_cons_zero, List.set_cons_succ, i64_w];rfl)
                  refine pure_ (i := 11) (N := some 117) (v := ?_) (a' := ?_) #[true,true,true,true,true,true,true,true,true,true,true,true,false,false,false,false,false,false,false,false,false,false,false] rfl rfl (any_of HT_.out (by kernel_rfl)) (fun _ _ _ h => h) (Or.inl ⟨by rfl, ?_⟩) ?_ ?_
                  rotate_left;focus(intro w';go_simp;with_reducible rfl)
                  rotate_left;focus(simp only [Act.put, List.setIfInBounds_toArray, List.set_cons_zero, List.set_cons_succ, i64_w];rfl)
                  refine pure_ (i := 12) (N := some 118) (v := ?_) (a' := ?_) #[true,true,true,true,true,true,true,true,true,true,true,true,true,false,false,false,false,false,false,false,false,false,false] rfl rfl (any_of HT_.out (by kernel_rfl)) (fun _ _ _ h => h) (Or.inl ⟨by rfl, ?_⟩) ?_ ?_
                  rotate_left;focus(intro w';go_simp;with_reducible rfl)
                  rotate_left;focus(simp only [Act.put, List.setIfInBounds_toArray, List.set_cons_zero, List.set_cons_succ, i64_w];rfl)
                  refine pure_ (i := 13) (N := some 119) (v := ?_) (a' := ?_) #[true,true,true,true,true,true,true,true,true,true,true,true,true,true,false,false,false,false,false,false,false,false,false] rfl rfl (any_of HT_.out (by kernel_rfl)) (fun _ _ _ h => h) (Or.inl ⟨by rfl, ?_⟩) ?_ ?_
                  rotate_left;focus(intro w';go_simp;with_reducible rfl)
                  rotate_left;focus(simp only [Act.put, List.setIfInBounds_toArray, List.set_cons_zero, List.set_cons_succ, i64_w];rfl)
                  refine pure_ (i := 14) (N := some 120) (v := ?_) (a' := ?_) #[true,true,true,true,true,true,true,true,true,true,true,true,true,true,true,false,false,false,false,false,false,false,false] rfl rfl (any_of HT_.out (by kernel_rfl)) (fun _ _ _ h => h) (Or.inl ⟨by rfl, ?_⟩) ?_ ?_
                  rotate_left;focus(intro w';go_simp;with_reducible rfl)
                  rotate_left;focus(simp only [Act.put, List.setIfInBounds_toArray, List.set_cons_zero, List.set_cons_succ, i64_w];rfl)
                  refine pure_ (i := 16) (N := some 122) (v := ?_) (a' := ?_) #[true,true,true,true,true,true,true,true,true,true,true,true,true,true,true,false,true,false,false,false,false,false,false] rfl rfl (any_of HT_.out (by kernel_rfl)) (fun _ _ _ h => h) (Or.inl ⟨by rfl, ?_⟩) ?_ ?_
                  rotate_left;focus(intro w';go_simp;with_reducible rfl)
                  rotate_left;focus(simp only [Act.put, List.setIfInBounds_toArray, List.set_cons_zero, List.set_cons_succ, i64_w];rfl)
                  refine pure_ (i := 17) (N := some 123) (v := ?_) (a' := ?_) #[true,true,true,true,true,true,true,true,true,true,true,true,true,true,true,false,true,true,false,false,false,false,false] rfl rfl (any_of HT_.out (by kernel_rfl)) (fun _ _ _ h => h) (Or.inl ⟨by rfl, ?_⟩) ?_ ?_
                  rotate_left;focus(intro w';go_simp;with_reducible rfl)
                  rotate_left;focus(simp only [Act.put, List.setIfInBounds_toArray, List.set_cons_zero, List.set_cons_succ, i64_w];rfl)
                  refine pure_ (i := 18) (N := some 124) (v := ?_) (a' := ?_) #[true,true,true,true,true,true,true,true,true,true,true,true,true,true,true,false,true,true,true,false,false,false,false] rfl rfl (any_of HT_.out (by kernel_rfl)) (fun _ _ _ h => h) (Or.inl ⟨by rfl, ?_⟩) ?_ ?_
                  rotate_left;focus(intro w';go_simp;with_reducible rfl)
                  rotate_left;focus(simp only [Act.put, List.setIfInBounds_toArray, List.set_cons_zero, List.set_cons_succ, i64_w];rfl)
                  refine take_ (i := 15) (N := some 121) (v := ?_) (a' := ?_) #[true,true,true,true,true,true,true,true,true,true,true,true,true,true,true,true,true,true,true,false,false,false,false] rfl rfl (take_ofW HT_.out HW_.out (by kernel_rfl)) (fun _ _ _ h => h) (Or.inl ⟨by rfl, ?_⟩) hHeld ?_ ?_
                  rotate_left;focus(rintro w' ⟨s0, s1, s2⟩;go_simp;with_reducible rfl)
                  rotate_left;focus(simp only [Act.put, List.setIfInBounds_toArray, List.set_cons_zero, List.set_cons_succ, i64_w];rfl)
                  refine take_ (i := 19) (N := some 125) (v := ?_) (a' := ?_) #[true,true,true,true,true,true,true,true,true,true,true,true,true,true,true,true,true,true,true,true,false,false,false] rfl rfl (take_ofW HT_.out HW_.out (by kernel_rfl)) (fun _ _ _ h => h) (Or.inl ⟨by rfl, ?_⟩) hHeld ?_ ?_
                  rotate_left;focus(rintro w' ⟨s0, s1, s2⟩;go_simp;with_reducible rfl)
                  rotate_left;focus(simp only [Act.put, List.setIfInBounds_toArray, List.set_cons_zero, List.set_cons_succ, i64_w];rfl)
                  refine pure_ (i := 20) (N := some 126) (v := ?_) (a' := ?_) #[true,true,true,true,true,true,true,true,true,true,true,true,true,true,true,true,true,true,true,true,true,false,false] rfl rfl (any_of HT_.out (by kernel_rfl)) (fun _ _ _ h => h) (Or.inl ⟨by rfl, ?_⟩) ?_ ?_
                  rotate_left;focus(intro w';go_simp;with_reducible rfl)
                  rotate_left;focus(simp only [Act.put, List.setIfInBounds_toArray, List.set_cons_zero, List.set_cons_succ, i64_w];rfl)
                  refine pure_ (i := 21) (N := some 127) (v := ?_) (a' := ?_) #[true,true,true,true,true,true,true,true,true,true,true,true,true,true,true,true,true,true,true,true,true,true,false] rfl rfl (any_of HT_.out (by kernel_rfl)) (fun _ _ _ h => h) (Or.inl ⟨by rfl, ?_⟩) ?_ ?_
                  rotate_left;focus(intro w';go_simp;with_reducible rfl)
                  rotate_left;focus(simp only [Act.put, List.setIfInBounds_toArray, List.set_cons_zero, List.set_cons_succ, i64_w];rfl)
                  refine pure_ (i := 22) (N := some 128) (v := ?_) (a' := ?_) #[true,true,true,true,true,true,true,true,true,true,true,true,true,true,true,true,true,true,true,true,true,true,true] rfl rfl (any_of HT_.out (by kernel_rfl)) (fun _ _ _ h => h) (Or.inl ⟨by rfl, ?_⟩) ?_ ?_
                  rotate_left;focus(intro w';go_simp;with_reducible rfl)
                  rotate_left;focus(simp only [Act.put, List.setIfInBounds_toArray, List.set_cons_zero, List.set_cons_succ, i64_w];rfl)
                  refine done_ (done_of HT_.out (by kernel_rfl)) ?_
                  try go_wp2
                  go_roundg k3
                  case measure => have := HK1.out; have := HK2.out; have := HK3.out; omega
                  case rel => exact ⟨(wrap64 (x17_3 + 1)), (by first | rfl | (simp; done) | (simp [*]; done)), H', ⟨by have := HK1.out; have := HK2.out; have := HK3.out; omega⟩, ⟨by (with_reducible repeat first | apply Kd.R_alloc | apply Kd.R_drewN | apply Kd.R_drew); exact HO_10.out⟩, ⟨by (with_reducible repeat first | apply Kd.R_alloc | apply Kd.R_drewN | apply Kd.R_drew); exact HO_11.out⟩, ⟨by (with_reducible repeat first | apply bn | apply bd | apply ba); exact BK454.out⟩, ⟨by repeat with_reducible first | exact HB.out | apply below_alloc | apply pw_below_drewN | apply below_drew1 | refine below_set ?_ GE454.out⟩⟩
                 ·rw [if_neg c138] at H
                  exact absurd H (by simp)
                ·rw [if_neg c137] at H
                 exact absurd H (by simp)
               ·rw [if_neg c136] at H
                exact absurd H (by simp)
              ·rw [if_neg c134] at H
               have c134b0 : decide (0 < x17_3) = false := decide_eq_false c134
               clear c134
               have H' := Aside0.mk H
               clear H
               obtain ⟨Ao145, co145, eo145⟩ := Kd.R_slice HO_10.out
               subst eo145
               try go_wp2
               have n0_ := Aside0.mk (Kd.R_drew HO_10.out)
               have n1_ := Aside0.mk (Kd.R_drew HO_11.out)
               have n2_ := Aside0.mk (blk_drew BK454.out)
               have n3_ := Aside0.mk (below_drew1 HB.out)
               clear HO_10
               clear HO_11
               clear BK454
               clear HB
               have HO_10 := n0_
               have HO_11 := n1_
               have BK454 := n2_
               have HB := n3_
               clear n0_ n1_ n2_ n3_
               have p488 : 0 ≤ (x17_3 : Int) := of_decide_eq_true (by first | (with_reducible assumption) | assumption)
               have q488 : x17_3 < (t463.length : Int) := of_decide_eq_true (by first | (with_reducible assumption) | assumption)
               obtain ⟨ad488, e488, hx488_0⟩ := Kd.at_string (Kd.R_reads' HO_10.out).2.2 x17_3 p488 q488
               cases e488
               replace p488 := eq_true p488
               replace q488 := eq_true q488
               obtain ⟨Ao147, co147, eo147⟩ := Kd.R_slice HO_11.out
               (first | subst eo147 | (injection eo147 with f1_ f2_ f3_; have f4_ := f1_.symm; have f5_ := f3_.symm; clear f1_ f2_ f3_; subst f4_; subst f5_))
               refine start_ (n := 23) (S := fun w' => w'.cell? (ad488.add (x17_3).toNat) = some (.string (rdOf ByteArray.empty t463 x17_3))) (ds := []) #[false,false,false,false,false,false,false,false,false,false,false,false,false,false,false,false,false,false,false,false,false,false,false] (by kernel_rfl) rfl rfl (hx488_0) (fun hHeld => ?_); refine with_tabW dataflowlaw10_HierDispatch.tab21 dataflowlaw10_HierDispatch.bits21 (fun HT_ HW_ => ?_)
               generalize wr.drew = w146 at HO_10 HO_11 BK454 HB hx488_0 hHeld ⊢
               refine pure_ (i := 0) (N := some 106) (v := ?_) (a' := ?_) #[true,false,false,false,false,false,false,false,false,false,false,false,false,false,false,false,false,false,false,false,false,false,false] rfl rfl (any_of HT_.out (by kernel_rfl)) (fun _ _ _ h => h) (Or.inl ⟨by rfl, ?_⟩) ?_ ?_
               rotate_left;focus(intro w';go_simp;with_reducible rfl)
               rotate_left;focus(simp only [Act.put, List.setIfInBounds_toArray, List.set_cons_zero, List.set_cons_succ, i64_w];rfl)
               refine pure_ (i := 1) (N := some 107) (v := ?_) (a' := ?_) #[true,true,false,false,false,false,false,false,false,false,false,false,false,false,false,false,false,false,false,false,false,false,false] rfl rfl (any_of HT_.out (by kernel_rfl)) (fun _ _ _ h => h) (Or.inl ⟨by rfl, ?_⟩) ?_ ?_
               rotate_left;focus(intro w';go_simp;with_reducible rfl)
               rotate_left;focus(simp only [Act.put, List.setIfInBounds_toArray, List.set_cons_zero, List.set_cons_succ, i64_w];rfl)
               refine pure_ (i := 2) (N := some 108) (v := ?_) (a' := ?_) #[true,true,true,false,false,false,false,false,false,false,false,false,false,false,false,false,false,false,false,false,false,false,false] rfl rfl (any_of HT_.out (by kernel_rfl)) (fun _ _ _ h => h) (Or.inl ⟨by rfl, ?_⟩) ?_ ?_
               rotate_left;focus(intro w';go_simp;with_reducible rfl)
               rotate_left;focus(simp only [Act.put, List.setIfInBounds_toArray, List.set_cons_zero, List.set_cons_succ, i64_w];rfl)
               refine pure_ (i := 3) (N := some 109) (v := ?_) (a' := ?_) #[true,true,true,true,false,false,false,false,false,false,false,false,false,false,false,false,false,false,false,false,false,false,false] rfl rfl (any_of HT_.out (by kernel_rfl)) (fun _ _ _ h => h) (Or.inl ⟨by rfl, ?_⟩) ?_ ?_
               rotate_left;focus(intro w';go_simp;with_reducible rfl)
               rotate_left;focus(simp only [Act.put, List.setIfInBounds_toArray, List.set_cons_zero, List.set_cons_succ, i64_w];rfl)
               refine take_ (i := 4) (N := some 110) (v := ?_) (a' := ?_) #[true,true,true,true,true,false,false,false,false,false,false,false,false,false,false,false,false,false,false,false,false,false,false] rfl rfl (take_ofW HT_.out HW_.out (by kernel_rfl)) (fun _ _ _ h => h) (Or.inl ⟨by rfl, ?_⟩) hHeld ?_ ?_
               rotate_left;focus(intro w' s0;go_simp;with_reducible rfl)
               rotate_left;focus(simp only [Act.put, List.setIfInBounds_toArray, List.set_cons_zero, List.set_cons_succ, i64_w];rfl)
               refine one_ (i := 5) (N := some 111) #[true,true,true,true,true,true,false,false,false,false,false,false,false,false,false,false,false,false,false,false,false,false,false] rfl rfl (one_of HT_.out (by kernel_rfl)) (by decide) (fun K hK => ?_)
               refine goes_ Tryd.func13 (by kernel_rfl) rfl #[.slice Ao147 x11_2.length co147, .string (rdOf ByteArray.empty t463 x17_3)] (by rfl) rfl rfl (by (try simp only [List.map_toArray, List.map_cons, List.map_nil]); first | done | rfl) ?_
               with_reducible refine (dataflowlaw10_has.calls k3 _ _ x11_2 (rdOf ByteArray.empty t463 x17_3) true _ ?side1 ?side2 A132.out).mono ?_
               (case side1 => repeat (first | exact (Kd.R_reads' HO_11.out).2.2 | (with_reducible refine Kd.C_alloc ?_ _) | (with_reducible refine Kd.C_drewN ?_ _) | (with_reducible refine Kd.C_drew ?_)))
               (case side2 => exact (Kd.R_reads' HO_11.out).2.1)
               rintro e w' ⟨rfl, ⟨nd, rfl⟩⟩
               refine ⟨_, rfl, ?_⟩
               refine hK.out _ _ (hHeld) (fun hHeld => ?_)
               clear hK K
               refine norm_ (a' := ?_) ?_ ?_
               rotate_left;focus(show Act.put _ (some 111) _ = _;simp only [Act.put, List.setIfInBounds_toArray, List.set_cons_zero, List.set_cons_succ, i64_w];rfl)
               refine pure_ (i := 6) (N := some 112) (v := ?_) (a' := ?_) #[true,true,true,true,true,true,true,false,false,false,false,false,false,false,false,false,false,false,false,false,false,false,false] rfl rfl (any_of HT_.out (by kernel_rfl)) (fun _ _ _ h => h) (Or.inl ⟨by rfl, ?_⟩) ?_ ?_
               rotate_left;focus(intro w';go_simp;with_reducible rfl)
               rotate_left;focus(simp only [Act.put, List.setIfInBounds_toArray, List.set_cons_zero, List.set_cons_succ, i64_w];rfl)
               refine pure_ (i := 7) (N := some 113) (v := ?_) (a' := ?_) #[true,true,true,true,true,true,true,true,false,false,false,false,false,false,false,false,false,false,false,false,false,false,false] rfl rfl (any_of HT_.out (by kernel_rfl)) (fun _ _ _ h => h) (Or.inl ⟨by rfl, ?_⟩) ?_ ?_
               rotate_left;focus(intro w';go_simp;with_reducible rfl)
               rotate_left;focus(simp only [Act.put, List.setIfInBounds_toArray, List.set_cons_zero, List.set_cons_succ, i64_w];rfl)
               refine pure_ (i := 8) (N := some 114) (v := ?_) (a' := ?_) #[true,true,true,true,true,true,true,true,true,false,false,false,false,false,false,false,false,false,false,false,false,false,false] rfl rfl (any_of HT_.out (by kernel_rfl)) (fun _ _ _ h => h) (Or.inl ⟨by rfl, ?_⟩) ?_ ?_
               rotate_left;focus(intro w';go_simp;with_reducible rfl)
               rotate_left;focus(simp only [Act.put, List.setIfInBounds_toArray, List.set_cons_zero, List.set_cons_succ, i64_w];rfl)
               refine pure_ (i := 9) (N := some 115) (v := ?_) (a' := ?_) #[true,true,true,true,true,true,true,true,true,true,false,false,false,false,false,false,false,false,false,false,false,false,false] rfl rfl (any_of HT_.out (by kernel_rfl)) (fun _ _ _ h => h) (Or.inl ⟨by rfl, ?_⟩) ?_ ?_
               rotate_left;focus(intro w';go_simp;with_reducible rfl)
               rotate_left;focus(simp only [Act.put, List.setIfInBounds_toArray, List.set_cons_zero, List.set_cons_succ, i64_w];rfl)
               refine pure_ (i := 10) (N := some 116) (v := ?_) (a' := ?_) #[true,true,true,true,true,true,true,true,true,true,true,false,false,false,false,false,false,false,false,false,false,false,false] rfl rfl (any_of HT_.out (by kernel_rfl)) (fun _ _ _ h => h) (Or.inl ⟨by rfl, ?_⟩) ?_ ?_
               rotate_left;focus(intro w';go_simp;with_reducible rfl)
               rotate_left;focus(simp only [Act.put, List.setIfInBounds_toArray, List.set_cons_zero, List.set_cons_succ, i64_w];rfl)
               refine pure_ (i := 11) (N := some 117) (v := undef) (a' := ?_) #[true,true,true,true,true,true,true,true,true,true,true,true,false,false,false,false,false,false,false,false,false,false,false] rfl rfl (any_of HT_.out (by kernel_rfl)) (fun _ _ _ h => h) (Or.inr ⟨by rfl, rfl⟩) ?_ ?_
               rotate_left;focus(simp only [Act.put, List.setIfInBounds_toArray, List.set_cons_zero, List.set_cons_succ, i64_w];rfl)
               refine pure_ (i := 12) (N := some 118) (v := undef) (a' := ?_) #[true,true,true,true,true,true,true,true,true,true,true,true,true,false,false,false,false,false,false,false,false,false,false] rfl rfl (any_of HT_.out (by kernel_rfl)) (fun _ _ _ h => h) (Or.inr ⟨by rfl, rfl⟩) ?_ ?_
               rotate_left;focus(simp only [Act.put, List.setIfInBounds_toArray, List.set_cons_zero, List.set_cons_succ, i64_w];rfl)
               refine pure_ (i := 13) (N := some 119) (v := undef) (a' := ?_) #[true,true,true,true,true,true,true,true,true,true,true,true,true,true,false,false,false,false,false,false,false,false,false] rfl rfl (any_of HT_.out (by kernel_rfl)) (fun _ _ _ h => h) (Or.inr ⟨by rfl, rfl⟩) ?_ ?_
               rotate_left;focus(simp only [Act.put, List.setIfInBounds_toArray, List.set_cons_zero, List.set_cons_succ, i64_w];rfl)
               refine pure_ (i := 14) (N := some 120) (v := undef) (a' := ?_) #[true,true,true,true,true,true,true,true,true,true,true,true,true,true,true,false,false,false,false,false,false,false,false] rfl rfl (any_of HT_.out (by kernel_rfl)) (fun _ _ _ h => h) (Or.inr ⟨by rfl, rfl⟩) ?_ ?_
               rotate_left;focus(simp only [Act.put, List.setIfInBounds_toArray, List.set_cons_zero, List.set_cons_succ, i64_w];rfl)
               refine pure_ (i := 15) (N := some 121) (v := undef) (a' := ?_) #[true,true,true,true,true,true,true,true,true,true,true,true,true,true,true,true,false,false,false,false,false,false,false] rfl rfl (any_of HT_.out (by kernel_rfl)) (fun _ _ _ h => h) (Or.inr ⟨by rfl, rfl⟩) ?_ ?_
               rotate_left;focus(simp only [Act.put, List.setIfInBounds_toArray, List.set_cons_zero, List.set_cons_succ, i64_w];rfl)
               refine pure_ (i := 16) (N := some 122) (v := undef) (a' := ?_) #[true,true,true,true,true,true,true,true,true,true,true,true,true,true,true,true,true,false,false,false,false,false,false] rfl rfl (any_of HT_.out (by kernel_rfl)) (fun _ _ _ h => h) (Or.inr ⟨by rfl, rfl⟩) ?_ ?_
               rotate_left;focus(simp only [Act.put, List.setIfInBounds_toArray, List.set_cons_zero, List.set_cons_succ, i64_w];rfl)
               refine pure_ (i := 17) (N := some 123) (v := undef) (a' := ?_) #[true,true,true,true,true,true,true,true,true,true,true,true,true,true,true,true,true,true,false,false,false,false,false] rfl rfl (any_of HT_.out (by kernel_rfl)) (fun _ _ _ h => h) (Or.inr ⟨by rfl, rfl⟩) ?_ ?_
               rotate_left;focus(simp only [Act.put, List.setIfInBounds_toArray, List.set_cons_zero, List.set_cons_succ, i64_w];rfl)
               refine pure_ (i := 18) (N := some 124) (v := undef) (a' := ?_) #[true,true,true,true,true,true,true,true,true,true,true,true,true,true,true,true,true,true,true,false,false,false,false] rfl rfl (any_of HT_.out (by kernel_rfl)) (fun _ _ _ h => h) (Or.inr ⟨by rfl, rfl⟩) ?_ ?_
               rotate_left;focus(simp only [Act.put, List.setIfInBounds_toArray, List.set_cons_zero, List.set_cons_succ, i64_w];rfl)
               refine pure_ (i := 19) (N := some 125) (v := undef) (a' := ?_) #[true,true,true,true,true,true,true,true,true,true,true,true,true,true,true,true,true,true,true,true,false,false,false] rfl rfl (any_of HT_.out (by kernel_rfl)) (fun _ _ _ h => h) (Or.inr ⟨by rfl, rfl⟩) ?_ ?_
               rotate_left;focus(simp only [Act.put, List.setIfInBounds_toArray, List.set_cons_zero, List.set_cons_succ, i64_w];rfl)
               refine pure_ (i := 20) (N := some 126) (v := undef) (a' := ?_) #[true,true,true,true,true,true,true,true,true,true,true,true,true,true,true,true,true,true,true,true,true,false,false] rfl rfl (any_of HT_.out (by kernel_rfl)) (fun _ _ _ h => h) (Or.inr ⟨by rfl, rfl⟩) ?_ ?_
               rotate_left;focus(simp only [Act.put, List.setIfInBounds_toArray, List.set_cons_zero, List.set_cons_succ, i64_w];rfl)
               refine pure_ (i := 21) (N := some 127) (v := ?_) (a' := ?_) #[true,true,true,true,true,true,true,true,true,true,true,true,true,true,true,true,true,true,true,true,true,true,false] rfl rfl (any_of HT_.out (by kernel_rfl)) (fun _ _ _ h => h) (Or.inl ⟨by rfl, ?_⟩) ?_ ?_
               rotate_left;focus(intro w';go_simp;with_reducible rfl)
               rotate_left;focus(simp only [Act.put, List.setIfInBounds_toArray, List.set_cons_zero, List.set_cons_succ, i64_w];rfl)
               refine pure_ (i := 22) (N := some 128) (v := ?_) (a' := ?_) #[true,true,true,true,true,true,true,true,true,true,true,true,true,true,true,true,true,true,true,true,true,true,true] rfl rfl (any_of HT_.out (by kernel_rfl)) (fun _ _ _ h => h) (Or.inl ⟨by rfl, ?_⟩) ?_ ?_
               rotate_left;focus(intro w';go_simp;with_reducible rfl)
               rotate_left;focus(simp only [Act.put, List.setIfInBounds_toArray, List.set_cons_zero, List.set_cons_succ, i64_w];rfl)
               refine done_ (done_of HT_.out (by kernel_rfl)) ?_
               try go_wp2
               go_roundg k3
               case measure => have := HK1.out; have := HK2.out; have := HK3.out; omega
               case rel => exact ⟨(wrap64 (x17_3 + 1)), (by first | rfl | (simp; done) | (simp [*]; done)), H', ⟨by have := HK1.out; have := HK2.out; have := HK3.out; omega⟩, ⟨by (with_reducible repeat first | apply Kd.R_alloc | apply Kd.R_drewN | apply Kd.R_drew); exact HO_10.out⟩, ⟨by (with_reducible repeat first | apply Kd.R_alloc | apply Kd.R_drewN | apply Kd.R_drew); exact HO_11.out⟩, ⟨by (with_reducible repeat first | apply bn | apply bd | apply ba); exact BK454.out⟩, ⟨by repeat with_reducible first | exact HB.out | apply below_alloc | apply pw_below_drewN | apply below_drew1 | refine below_set ?_ GE454.out⟩⟩
             ·rw [if_neg c133] at H
              exact absurd H (by simp)
            ·rw [if_neg c131] at H
             exact absurd H (by simp)
           ·rw [if_neg c130] at H
            have c130b0 : decide (x17_3 < (t463.length : Int)) = false := decide_eq_false c130
            clear c130
            have H' := Aside0.mk H
            clear H
            obtain ⟨Ao151, co151, eo151⟩ := Kd.R_slice HO_10.out
            subst eo151
            go_wp2
            go_roundg k3
            case measure => have := HK1.out; have := HK2.out; have := HK3.out; omega
            case rel => exact ⟨(wrap64 (x7_1 + 1)), (by first | rfl | (simp; done) | (simp [*]; done)), H', ⟨by have := HK1.out; have := HK2.out; have := HK3.out; omega⟩, ⟨by (with_reducible repeat first | apply bn | apply bd | apply ba); exact BK454.out⟩, ⟨by repeat with_reducible first | exact HB.out | apply below_alloc | apply pw_below_drewN | apply below_drew1 | refine below_set ?_ GE454.out⟩⟩
     ·rw [if_neg c9] at H
      exact absurd H (by simp)
    ·rw [if_neg c8] at H
     have c8b0 : decide (x7_1 < (l0_0.length : Int)) = false := decide_eq_false c8
     clear c8
     replace H := Option.bind_eq_some_iff.mp H
     obtain ⟨t458, A1520, H⟩ := H
     replace H : (some t458) = some r := H
     have A152 := Aside0.mk A1520
     clear A1520
     obtain rfl := Option.some.inj H
     have hcz153_0 : wr.cell? ⟨gb454, 0, none⟩ = some (.slice A0_0 l0_0.length c0_0) := (blk_cell BK454.out 0).trans rfl
     have hfz153_0 := blk_frozen BK454.out 0
     go_wp2_with (first | ((with_reducible refine gate_callee (f := 7) rfl ?_); refine goesL_ (some 129) rfl rfl Tryd.func7 (by kernel_rfl) rfl #[] rfl (by (try simp only [List.map_toArray, List.map_cons, List.map_nil]); first | done | rfl) ?_; (with_reducible refine (dataflowlaw10_awake.calls k1  t458 _ A152.out).mono ?_); rintro e w154 ⟨rfl, hb⟩; refine ⟨_, rfl, ?_⟩; have n0_ := Aside0.mk (blk_below (g := gb454) (o := .cells #[.slice A0_0 l0_0.length c0_0] 24 (0, 0)) (by (with_reducible repeat first | apply bn | apply bd | apply ba); exact BK454.out) hb); have n1_ := Aside0.mk (below_step (by repeat with_reducible first | exact HB.out | apply below_alloc | apply pw_below_drewN | apply below_drew1 | refine below_set ?_ GE454.out) hb); clear BK454; clear HB; have BK454 := n0_; have HB := n1_; clear n0_ n1_; (try clear hb); (try clear hb2); (try clear hk); (try clear hi)))
     go_ret
     exact ⟨by first | rfl | (simp [errW_none, errW_some] <;> rfl) | (simp [*, errW_none, errW_some] <;> rfl), by repeat with_reducible first | exact HB.out | apply below_alloc | apply pw_below_drewN | apply below_drew1 | refine below_set ?_ GE454.out⟩
 ·rw [if_neg c4] at H
  have c4b0 : (t456 == 0) = false := beq_eq_false_iff_ne.mpr c4
  have c4b1 : (t456 != 0) = true := bne_iff_ne.mpr c4
  replace H := Option.bind_eq_some_iff.mp H
  obtain ⟨t457, A1550, H⟩ := H
  replace H : (some t457) = some r := H
  have A155 := Aside0.mk A1550
  clear A1550
  obtain rfl := Option.some.inj H
  go_enter Tryd.func3, Tryd.ntmps3
  go_wp2_with (first | ((with_reducible refine gate_dst (N := 2) rfl ?_); refine box_event ?hg (N := 2) ?hd (cs := #[.slice A0_0 l0_0.length c0_0]) (t := 24) ?hr ?_; (case hd => rfl); (case hg => rfl); (case hr => first | (go_simp; done) | (go_simp; rfl)); intro gb454 hg w156 hbox hb; have n0_ := Aside0.mk (below_step (by repeat with_reducible first | exact HB.out | apply below_alloc | apply pw_below_drewN | apply below_drew1) hb); have n1_ := Aside0.mk (hbox); have n2_ := Aside0.mk ((by rw [hg]; exact (below_size (by repeat with_reducible first | exact HB.out | apply below_alloc | apply pw_below_drewN | apply below_drew1)) : w.heap.size ≤ gb454)); have n3_ := Aside0.mk ((by rw [hg]; exact (below_size (by repeat with_reducible first | exact HB.out | apply below_alloc | apply pw_below_drewN | apply below_drew1)) : w.heap.size ≤ gb454)); clear HB; have HB := n0_; have BK454 := n1_; have GW454 := n2_; have GE454 := n3_; clear n0_ n1_ n2_ n3_; clear hb hbox hg; have hcz157_0 : w156.cell? ⟨gb454, 0, none⟩ = some (.slice A0_0 l0_0.length c0_0) := (blk_cell BK454.out 0).trans rfl; have hfz157_0 := blk_frozen BK454.out 0) | ((with_reducible refine gate_callee (f := 6) rfl ?_); refine goesL_ (some 20) rfl rfl Tryd.func6 (by kernel_rfl) rfl #[.agg #[.slice A0_0 l0_0.length c0_0]] rfl (by (try simp only [List.map_toArray, List.map_cons, List.map_nil]); first | done | rfl) ?_; (with_reducible refine (hier_Check.calls k _ _ l0_0 t455 t456 _ ?side1 ?side2 A3.out ?sideT).mono ?_); (case sideT => first | exact HTB_.out | exact HTB_.out.below (by repeat with_reducible first | exact HB.out | apply below_alloc | apply pw_below_drewN | apply below_drew1 | refine below_set ?_ GE454.out | refine below_set ?_ GE475.out)); (case side1 => repeat (first | exact (Kd.C_below HR0_0.out HB.out) | (with_reducible refine Kd.C_alloc ?_ _) | (with_reducible refine Kd.C_drewN ?_ _) | (with_reducible refine Kd.C_drew ?_))); (case side2 => exact HC0_0.out); rintro e w158 ⟨rfl, hb⟩; refine ⟨_, rfl, ?_⟩; have n0_ := Aside0.mk (blk_below (g := gb454) (o := .cells #[.slice A0_0 l0_0.length c0_0] 24 (0, 0)) (by (with_reducible repeat first | apply bn | apply bd | apply ba); exact BK454.out) hb); have n1_ := Aside0.mk (below_step (by repeat with_reducible first | exact HB.out | apply below_alloc | apply pw_below_drewN | apply below_drew1 | refine below_set ?_ GE454.out) hb); clear BK454; clear HB; have BK454 := n0_; have HB := n1_; clear n0_ n1_; (try clear hb); (try clear hb2); (try clear hk); (try clear hi)) | ((with_reducible refine gate_callee (f := 7) rfl ?_); refine goesL_ (some 25) rfl rfl Tryd.func7 (by kernel_rfl) rfl #[] rfl (by (try simp only [List.map_toArray, List.map_cons, List.map_nil]); first | done | rfl) ?_; (with_reducible refine (dataflowlaw10_awake.calls k  t457 _ A155.out).mono ?_); rintro e w159 ⟨rfl, hb⟩; refine ⟨_, rfl, ?_⟩; have n0_ := Aside0.mk (blk_below (g := gb454) (o := .cells #[.slice A0_0 l0_0.length c0_0] 24 (0, 0)) (by (with_reducible repeat first | apply bn | apply bd | apply ba); exact BK454.out) hb); have n1_ := Aside0.mk (below_step (by repeat with_reducible first | exact HB.out | apply below_alloc | apply pw_below_drewN | apply below_drew1 | refine below_set ?_ GE454.out) hb); clear BK454; clear HB; have BK454 := n0_; have HB := n1_; clear n0_ n1_; (try clear hb); (try clear hb2); (try clear hk); (try clear hi)))
  go_ret
  exact ⟨by first | rfl | (simp [errW_none, errW_some] <;> rfl) | (simp [*, errW_none, errW_some] <;> rfl), by repeat with_reducible first | exact HB.out | apply below_alloc | apply pw_below_drewN | apply below_drew1 | refine below_set ?_ GE454.out⟩

end Go.Proofs.YtkbclcecmcdlfaaDoor.PD
