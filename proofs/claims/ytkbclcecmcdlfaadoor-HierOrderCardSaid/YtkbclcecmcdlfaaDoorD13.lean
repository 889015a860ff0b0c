/- Printed by a program of this session out of the translation: plain functions with the answers of the Go functions, and the proofs that they have them. -/
import Derived.Test.YtkbclcecmcdlfaaDoorD6
import Derived.Test.YtkbclcecmcdlfaaDoorD11
import Derived.Test.YtkbclcecmcdlfaaDoorD12
namespace Go.Proofs.YtkbclcecmcdlfaaDoor.PD
open Go.RowKit Go.Proofs.YtkbclcecmcdlfaaDoorW.PrintWords Go.Proofs.YtkbclcecmcdlfaaDoorW.PrintLast Go.Proofs.YtkbclcecmcdlfaaDoorW.PrintMore
attribute [local go_sem] max2_int min2_int max_two min_two max_three min_three max_four min_four   -- for this text's walks alone
set_option linter.unusedVariables false
set_option linter.unusedSimpArgs false

/-! ### dataflowlaw10_HierOrder: function 4 -/
mutual
def dataflowlaw10_HierOrder.j0 : Nat → ByteArray → ByteArray → Bool → List (S32) → Option (Bool)
 | 0, _, _, _, _ => none
 | k + 1, x1, x2, x53, x493000 => if x53 = true then (some false) else ((hier_IsSub.f k x493000 x1 x1).bind fun t505 => ((hier_Find.f k x493000 x1).bind fun t506 => (if (t505 != (decide (t506 ≥ 0))) = true then (dataflowlaw10_HierOrder.j1 k x1 true x493000) else ((hier_IsSub.f k x493000 x1 x2).bind fun t507 => ((hier_Subs.f k x493000 x2).bind fun t508 => ((dataflowlaw10_has.f k t508 x1).bind fun t511 => (dataflowlaw10_HierOrder.j1 k x1 (t507 != t511) x493000)))))))
def dataflowlaw10_HierOrder.j1 : Nat → ByteArray → Bool → List (S32) → Option (Bool)
 | 0, _, _, _ => none
 | k + 1, x1, x74, x493000 => if x74 = true then (some false) else ((hier_Supers.f k x493000 x1).bind fun t512 => (if (t512.length : Int) = 0 then ((dataflowlaw10_awake.f k).bind fun t515 => (some t515)) else (if 0 ≤ (wrap64 ((t512.length : Int) - 1)) then (if (wrap64 ((t512.length : Int) - 1)) < (t512.length : Int) then ((dataflowref10_Find.f k x493000 (rdOf ByteArray.empty t512 (wrap64 ((t512.length : Int) - 1)))).bind fun t517 => (if 0 ≤ t517 then (if t517 < (x493000.length : Int) then (if ((rd_T32 x493000 t517).f1).toList = ([] : List UInt8) then ((dataflowlaw10_awake.f k).bind fun t519 => (some t519)) else (some false)) else (none)) else (none))) else (none)) else (none))))
end
def dataflowlaw10_HierOrder.f (k : Nat) (l0_0 : List (S32)) (a1 : ByteArray) (a2 : ByteArray) (a3 : ByteArray) : Option (Bool) := (hier_Check.f k l0_0).bind fun bt493 => (if bt493.2 = 0 then ((hier_IsSub.f k l0_0 a1 a2).bind fun t496 => (if t496 = true then ((hier_IsSub.f k l0_0 a2 a3).bind fun t497 => (if t497 = true then ((hier_IsSub.f k l0_0 a1 a3).bind fun t498 => (if t498 = true then (if a1.toList = a2.toList then (dataflowlaw10_HierOrder.j0 k a1 a2 false l0_0) else ((hier_IsSub.f k l0_0 a1 a2).bind fun t499 => (if t499 = true then ((hier_IsSub.f k l0_0 a2 a1).bind fun t500 => (dataflowlaw10_HierOrder.j0 k a1 a2 t500 l0_0)) else (dataflowlaw10_HierOrder.j0 k a1 a2 false l0_0)))) else (dataflowlaw10_HierOrder.j0 k a1 a2 true l0_0))) else (if a1.toList = a2.toList then (dataflowlaw10_HierOrder.j0 k a1 a2 false l0_0) else ((hier_IsSub.f k l0_0 a1 a2).bind fun t501 => (if t501 = true then ((hier_IsSub.f k l0_0 a2 a1).bind fun t502 => (dataflowlaw10_HierOrder.j0 k a1 a2 t502 l0_0)) else (dataflowlaw10_HierOrder.j0 k a1 a2 false l0_0)))))) else (if a1.toList = a2.toList then (dataflowlaw10_HierOrder.j0 k a1 a2 false l0_0) else ((hier_IsSub.f k l0_0 a1 a2).bind fun t503 => (if t503 = true then ((hier_IsSub.f k l0_0 a2 a1).bind fun t504 => (dataflowlaw10_HierOrder.j0 k a1 a2 t504 l0_0)) else (dataflowlaw10_HierOrder.j0 k a1 a2 false l0_0)))))) else ((dataflowlaw10_awake.f k).bind fun t495 => (some t495)))
theorem dataflowlaw10_HierOrder.mono_l : ∀ k, (∀ y0 y1 y2 y3, LeO (dataflowlaw10_HierOrder.j0 k y0 y1 y2 y3) (dataflowlaw10_HierOrder.j0 (k + 1) y0 y1 y2 y3)) ∧ (∀ y0 y1 y2, LeO (dataflowlaw10_HierOrder.j1 k y0 y1 y2) (dataflowlaw10_HierOrder.j1 (k + 1) y0 y1 y2))
 | 0 => ⟨fun _ _ _ _ r h => by simp [dataflowlaw10_HierOrder.j0] at h, fun _ _ _ r h => by simp [dataflowlaw10_HierOrder.j1] at h⟩
 | k + 1 => by
  obtain ⟨ih0, ih1⟩ := dataflowlaw10_HierOrder.mono_l k
  refine ⟨?_, ?_⟩
  ·intro y0 y1 y2 y3
   unfold dataflowlaw10_HierOrder.j0
   repeat' first
   | (with_reducible exact ih0 _ _ _ _)
   | (with_reducible exact ih1 _ _ _)
   | (with_reducible exact dataflowlaw10_awake.mono _)
   | (with_reducible exact dataflowlaw10_has.mono _ _ _)
   | (with_reducible exact dataflowref10_Find.mono _ _ _)
   | (with_reducible exact hier_Check.mono _ _)
   | (with_reducible exact hier_Find.mono _ _ _)
   | (with_reducible exact hier_IsSub.mono _ _ _ _)
   | (with_reducible exact hier_Subs.mono _ _ _)
   | (with_reducible exact hier_Supers.mono _ _ _)
   | (with_reducible exact LeO.refl _)
   | (with_reducible exact LeO.none _)
   | (with_reducible refine LeO.ite ?_ ?_)
   | (with_reducible refine LeO.bind ?_ (fun _ => ?_))
   | exact ih0 _ _ _ _
   | exact ih1 _ _ _
   | exact dataflowlaw10_awake.mono _
   | exact dataflowlaw10_has.mono _ _ _
   | exact dataflowref10_Find.mono _ _ _
   | exact hier_Check.mono _ _
   | exact hier_Find.mono _ _ _
   | exact hier_IsSub.mono _ _ _ _
   | exact hier_Subs.mono _ _ _
   | exact hier_Supers.mono _ _ _
   | exact LeO.none _
   | refine LeO.ite ?_ ?_
   | refine LeO.bind ?_ (fun _ => ?_)
  ·intro y0 y1 y2
   unfold dataflowlaw10_HierOrder.j1
   repeat' first
   | (with_reducible exact ih0 _ _ _ _)
   | (with_reducible exact ih1 _ _ _)
   | (with_reducible exact dataflowlaw10_awake.mono _)
   | (with_reducible exact dataflowlaw10_has.mono _ _ _)
   | (with_reducible exact dataflowref10_Find.mono _ _ _)
   | (with_reducible exact hier_Check.mono _ _)
   | (with_reducible exact hier_Find.mono _ _ _)
   | (with_reducible exact hier_IsSub.mono _ _ _ _)
   | (with_reducible exact hier_Subs.mono _ _ _)
   | (with_reducible exact hier_Supers.mono _ _ _)
   | (with_reducible exact LeO.refl _)
   | (with_reducible exact LeO.none _)
   | (with_reducible refine LeO.ite ?_ ?_)
   | (with_reducible refine LeO.bind ?_ (fun _ => ?_))
   | exact ih0 _ _ _ _
   | exact ih1 _ _ _
   | exact dataflowlaw10_awake.mono _
   | exact dataflowlaw10_has.mono _ _ _
   | exact dataflowref10_Find.mono _ _ _
   | exact hier_Check.mono _ _
   | exact hier_Find.mono _ _ _
   | exact hier_IsSub.mono _ _ _ _
   | exact hier_Subs.mono _ _ _
   | exact hier_Supers.mono _ _ _
   | exact LeO.none _
   | refine LeO.ite ?_ ?_
   | refine LeO.bind ?_ (fun _ => ?_)
theorem dataflowlaw10_HierOrder.mono : ∀ a0 a1 a2 a3 k, LeO (dataflowlaw10_HierOrder.f k a0 a1 a2 a3) (dataflowlaw10_HierOrder.f (k + 1) a0 a1 a2 a3) := by
 intro a0 a1 a2 a3 k
 obtain ⟨ih0, ih1⟩ := dataflowlaw10_HierOrder.mono_l k
 unfold dataflowlaw10_HierOrder.f
 repeat' first
   | (with_reducible exact ih0 _ _ _ _)
   | (with_reducible exact ih1 _ _ _)
   | (with_reducible exact dataflowlaw10_awake.mono _)
   | (with_reducible exact dataflowlaw10_has.mono _ _ _)
   | (with_reducible exact dataflowref10_Find.mono _ _ _)
   | (with_reducible exact hier_Check.mono _ _)
   | (with_reducible exact hier_Find.mono _ _ _)
   | (with_reducible exact hier_IsSub.mono _ _ _ _)
   | (with_reducible exact hier_Subs.mono _ _ _)
   | (with_reducible exact hier_Supers.mono _ _ _)
   | (with_reducible exact LeO.refl _)
   | (with_reducible exact LeO.none _)
   | (with_reducible refine LeO.ite ?_ ?_)
   | (with_reducible refine LeO.bind ?_ (fun _ => ?_))
   | exact ih0 _ _ _ _
   | exact ih1 _ _ _
   | exact dataflowlaw10_awake.mono _
   | exact dataflowlaw10_has.mono _ _ _
   | exact dataflowref10_Find.mono _ _ _
   | exact hier_Check.mono _ _
   | exact hier_Find.mono _ _ _
   | exact hier_IsSub.mono _ _ _ _
   | exact hier_Subs.mono _ _ _
   | exact hier_Supers.mono _ _ _
   | exact LeO.none _
   | refine LeO.ite ?_ ?_
   | refine LeO.bind ?_ (fun _ => ?_)
def dataflowlaw10_HierOrder.T6 : Bool × List (List Nat × List Nat) := (true, [([], []), ([], []), ([], []), ([0, 1, 2], [0, 1, 2]), ([], []), ([], []), ([4, 5, 3], [4, 5]), ([6], [6]), ([3, 7], [3, 7]), ([8, 6], [8]), ([9], [9]), ([9], [9]), ([9], [9]), ([10, 11, 12, 9, 9], [9, 10, 11, 12]), ([9], [9]), ([9], [9]), ([14, 15, 13, 9], [9, 14, 15]), ([9], [9]), ([16, 17, 16, 9], [9, 16, 17]), ([13, 18, 9], [9, 13, 18]), ([9, 19], [9, 19])])
def dataflowlaw10_HierOrder.B6 : List Nat := [0, 0, 0, 7, 0, 0, 63, 127, 255, 511, 1023, 1023, 1023, 8191, 1023, 1023, 65535, 1023, 262143, 524287, 1048575]
theorem dataflowlaw10_HierOrder.tab6 : rtab .any (opsOf Tryd.f4 6) = dataflowlaw10_HierOrder.T6 := by kernel_rfl
theorem dataflowlaw10_HierOrder.bits6 : waitsOk dataflowlaw10_HierOrder.T6.2 dataflowlaw10_HierOrder.B6 = true := by kernel_rfl
def dataflowlaw10_HierOrder.T9 : Bool × List (List Nat × List Nat) := (true, [([], []), ([0], [0]), ([1], [1]), ([2], [2]), ([3], [3]), ([4, 3], [3, 4]), ([3], [3]), ([3], [3]), ([3], [3]), ([8, 3], [3, 8]), ([9, 3], [3, 9]), ([7, 10, 3], [3, 7, 10]), ([11, 3], [3, 11]), ([6, 12, 3, 3], [3, 6, 12]), ([5, 13, 3], [3, 5, 13]), ([14, 3], [3, 14]), ([15, 3], [3, 15]), ([16, 3], [3, 16]), ([3, 17], [3, 17]), ([18, 13], [18]), ([19, 19], [19]), ([19, 20], [19, 20]), ([21, 20, 0, 1, 2, 3, 4, 5, 6, 7, 8, 9, 10, 11, 12, 13, 14, 15, 16, 17, 18, 19, 20, 21], [21])])
def dataflowlaw10_HierOrder.B9 : List Nat := [0, 1, 3, 7, 15, 31, 15, 15, 15, 271, 783, 1935, 3983, 8143, 16383, 32767, 65535, 131071, 262143, 524287, 1048575, 2097151, 4194303]
theorem dataflowlaw10_HierOrder.tab9 : rtab .any (opsOf Tryd.f4 9) = dataflowlaw10_HierOrder.T9 := by kernel_rfl
theorem dataflowlaw10_HierOrder.bits9 : waitsOk dataflowlaw10_HierOrder.T9.2 dataflowlaw10_HierOrder.B9 = true := by kernel_rfl
set_option maxHeartbeats 8000000 in
set_option maxRecDepth 100000 in
theorem dataflowlaw10_HierOrder.calls (k : Nat) (A0_0 : Option Addr) (c0_0 : Nat) (l0_0 : List (S32)) (a1 : ByteArray) (a2 : ByteArray) (a3 : ByteArray) (r : Bool) (w : World) (hr0_0 : Kd.C k32 w A0_0 l0_0.length l0_0) (hc0_0 : l0_0.length ≤ c0_0) (h : dataflowlaw10_HierOrder.f k l0_0 a1 a2 a3 = some r) (hT : TabW w) :
  Calls Tryd.prog 4 #[.agg #[.slice A0_0 l0_0.length c0_0], .string a1, .string a2, .string a3] w fun e w' => e = .returned (.bool r) ∧ Below w.heap.size w w' := by
 have HTB_ := Aside0.mk hT
 clear hT
 have hu24 := Tryd.underlying24
 have HR0_0 := Aside0.mk hr0_0
 have HC0_0 := Aside0.mk hc0_0
 clear hr0_0 hc0_0
 have HB := Aside0.mk (Below.refl w.heap.size w)
 have H : ((hier_Check.f k l0_0).bind fun bt493 => (if bt493.2 = 0 then ((hier_IsSub.f k l0_0 a1 a2).bind fun t496 => (if t496 = true then ((hier_IsSub.f k l0_0 a2 a3).bind fun t497 => (if t497 = true then ((hier_IsSub.f k l0_0 a1 a3).bind fun t498 => (if t498 = true then (if a1.toList = a2.toList then (dataflowlaw10_HierOrder.j0 k a1 a2 false l0_0) else ((hier_IsSub.f k l0_0 a1 a2).bind fun t499 => (if t499 = true then ((hier_IsSub.f k l0_0 a2 a1).bind fun t500 => (dataflowlaw10_HierOrder.j0 k a1 a2 t500 l0_0)) else (dataflowlaw10_HierOrder.j0 k a1 a2 false l0_0)))) else (dataflowlaw10_HierOrder.j0 k a1 a2 true l0_0))) else (if a1.toList = a2.toList then (dataflowlaw10_HierOrder.j0 k a1 a2 false l0_0) else ((hier_IsSub.f k l0_0 a1 a2).bind fun t501 => (if t501 = true then ((hier_IsSub.f k l0_0 a2 a1).bind fun t502 => (dataflowlaw10_HierOrder.j0 k a1 a2 t502 l0_0)) else (dataflowlaw10_HierOrder.j0 k a1 a2 false l0_0)))))) else (if a1.toList = a2.toList then (dataflowlaw10_HierOrder.j0 k a1 a2 false l0_0) else ((hier_IsSub.f k l0_0 a1 a2).bind fun t503 => (if t503 = true then ((hier_IsSub.f k l0_0 a2 a1).bind fun t504 => (dataflowlaw10_HierOrder.j0 k a1 a2 t504 l0_0)) else (dataflowlaw10_HierOrder.j0 k a1 a2 false l0_0)))))) else ((dataflowlaw10_awake.f k).bind fun t495 => (some t495)))) = some r := h
 clear h
 replace H := Option.bind_eq_some_iff.mp H
 obtain ⟨⟨t493, t494⟩, A50, H⟩ := H
 replace H : (if t494 = 0 then ((hier_IsSub.f k l0_0 a1 a2).bind fun t496 => (if t496 = true then ((hier_IsSub.f k l0_0 a2 a3).bind fun t497 => (if t497 = true then ((hier_IsSub.f k l0_0 a1 a3).bind fun t498 => (if t498 = true then (if a1.toList = a2.toList then (dataflowlaw10_HierOrder.j0 k a1 a2 false l0_0) else ((hier_IsSub.f k l0_0 a1 a2).bind fun t499 => (if t499 = true then ((hier_IsSub.f k l0_0 a2 a1).bind fun t500 => (dataflowlaw10_HierOrder.j0 k a1 a2 t500 l0_0)) else (dataflowlaw10_HierOrder.j0 k a1 a2 false l0_0)))) else (dataflowlaw10_HierOrder.j0 k a1 a2 true l0_0))) else (if a1.toList = a2.toList then (dataflowlaw10_HierOrder.j0 k a1 a2 false l0_0) else ((hier_IsSub.f k l0_0 a1 a2).bind fun t501 => (if t501 = true then ((hier_IsSub.f k l0_0 a2 a1).bind fun t502 => (dataflowlaw10_HierOrder.j0 k a1 a2 t502 l0_0)) else (dataflowlaw10_HierOrder.j0 k a1 a2 false l0_0)))))) else (if a1.toList = a2.toList then (dataflowlaw10_HierOrder.j0 k a1 a2 false l0_0) else ((hier_IsSub.f k l0_0 a1 a2).bind fun t503 => (if t503 = true then ((hier_IsSub.f k l0_0 a2 a1).bind fun t504 => (dataflowlaw10_HierOrder.j0 k a1 a2 t504 l0_0)) else (dataflowlaw10_HierOrder.j0 k a1 a2 false l0_0)))))) else ((dataflowlaw10_awake.f k).bind fun t495 => (some t495))) = some r := H
 have A5 := Aside0.mk A50
 clear A50
 by_cases c6 : t494 = 0
 ·rw [if_pos c6] at H
  have c6b0 : (t494 == 0) = true := beq_iff_eq.mpr c6
  have c6b1 : (t494 != 0) = false := bne_eq_false_iff_eq.mpr c6
  clear c6
  have HC7 := Aside0.mk H
  clear H
  go_enter Tryd.func4, Tryd.ntmps4
  go_upto_region 4 with (first | ((with_reducible refine gate_dst (N := 4) rfl ?_); (try (refine gate_guard (by rfl) ?_; dsimp only)); refine box_event ?hg (N := 4) ?hd (cs := #[.slice A0_0 l0_0.length c0_0]) (t := 24) ?hr ?_; (case hd => rfl); (case hg => rfl); (case hr => first | (go_simp; done) | (go_simp; rfl)); intro gb492 hg w8 hbox hb; have n0_ := Aside0.mk (below_step (by repeat with_reducible first | exact HB.out | apply below_alloc | apply pw_below_drewN | apply below_drew1) hb); have n1_ := Aside0.mk (hbox); have n2_ := Aside0.mk ((by rw [hg]; exact (below_size (by repeat with_reducible first | exact HB.out | apply below_alloc | apply pw_below_drewN | apply below_drew1)) : w.heap.size ≤ gb492)); have n3_ := Aside0.mk ((by rw [hg]; exact (below_size (by repeat with_reducible first | exact HB.out | apply below_alloc | apply pw_below_drewN | apply below_drew1)) : w.heap.size ≤ gb492)); clear HB; have HB := n0_; have BK492 := n1_; have GW492 := n2_; have GE492 := n3_; clear n0_ n1_ n2_ n3_; clear hb hbox hg; have hcz9_0 : w8.cell? ⟨gb492, 0, none⟩ = some (.slice A0_0 l0_0.length c0_0) := (blk_cell BK492.out 0).trans rfl; have hfz9_0 := blk_frozen BK492.out 0) | ((with_reducible refine gate_callee (f := 6) rfl ?_); refine goesL_ (some 14) rfl rfl Tryd.func6 (by kernel_rfl) rfl #[.agg #[.slice A0_0 l0_0.length c0_0]] rfl (by (try simp only [List.map_toArray, List.map_cons, List.map_nil]); first | done | rfl) ?_; (with_reducible refine (hier_Check.calls k _ _ l0_0 t493 t494 _ ?side1 ?side2 A5.out ?sideT).mono ?_); (case sideT => first | exact HTB_.out | exact HTB_.out.below (by repeat with_reducible first | exact HB.out | apply below_alloc | apply pw_below_drewN | apply below_drew1 | refine below_set ?_ GE492.out)); (case side1 => repeat (first | exact (Kd.C_below HR0_0.out HB.out) | (with_reducible refine Kd.C_alloc ?_ _) | (with_reducible refine Kd.C_drewN ?_ _) | (with_reducible refine Kd.C_drew ?_))); (case side2 => exact HC0_0.out); rintro e w10 ⟨rfl, hb⟩; refine ⟨_, rfl, ?_⟩; have n0_ := Aside0.mk (blk_below (g := gb492) (o := .cells #[.slice A0_0 l0_0.length c0_0] 24 (0, 0)) (by (with_reducible repeat first | apply bn | apply bd | apply ba); exact BK492.out) hb); have n1_ := Aside0.mk (below_step (by repeat with_reducible first | exact HB.out | apply below_alloc | apply pw_below_drewN | apply below_drew1 | refine below_set ?_ GE492.out) hb); clear BK492; clear HB; have BK492 := n0_; have HB := n1_; clear n0_ n1_; (try clear hb); (try clear hb2); (try clear hk); (try clear hi)))
  (try simp only [Act.put, List.setIfInBounds_toArray, List.set_cons_zero, List.set_cons_succ])
  go_cut [53] (fun v53 wc => ∃ (kq : Nat) (x53_6 : Bool), v53 = .bool x53_6 ∧ Aside0 (dataflowlaw10_HierOrder.j0 kq a1 a2 x53_6 l0_0 = some r) ∧ Aside0 (kq ≤ k) ∧ Aside0 (wc.heap[gb492]? = some (.cells #[(.slice A0_0 l0_0.length c0_0)] 24 (0, 0))) ∧ Aside0 (Below w.heap.size w wc))
  case first =>
   have H := HC7.out
   clear HC7
   replace H := Option.bind_eq_some_iff.mp H
   obtain ⟨t496, A110, H⟩ := H
   replace H : (if t496 = true then ((hier_IsSub.f k l0_0 a2 a3).bind fun t497 => (if t497 = true then ((hier_IsSub.f k l0_0 a1 a3).bind fun t498 => (if t498 = true then (if a1.toList = a2.toList then (dataflowlaw10_HierOrder.j0 k a1 a2 false l0_0) else ((hier_IsSub.f k l0_0 a1 a2).bind fun t499 => (if t499 = true then ((hier_IsSub.f k l0_0 a2 a1).bind fun t500 => (dataflowlaw10_HierOrder.j0 k a1 a2 t500 l0_0)) else (dataflowlaw10_HierOrder.j0 k a1 a2 false l0_0)))) else (dataflowlaw10_HierOrder.j0 k a1 a2 true l0_0))) else (if a1.toList = a2.toList then (dataflowlaw10_HierOrder.j0 k a1 a2 false l0_0) else ((hier_IsSub.f k l0_0 a1 a2).bind fun t501 => (if t501 = true then ((hier_IsSub.f k l0_0 a2 a1).bind fun t502 => (dataflowlaw10_HierOrder.j0 k a1 a2 t502 l0_0)) else (dataflowlaw10_HierOrder.j0 k a1 a2 false l0_0)))))) else (if a1.toList = a2.toList then (dataflowlaw10_HierOrder.j0 k a1 a2 false l0_0) else ((hier_IsSub.f k l0_0 a1 a2).bind fun t503 => (if t503 = true then ((hier_IsSub.f k l0_0 a2 a1).bind fun t504 => (dataflowlaw10_HierOrder.j0 k a1 a2 t504 l0_0)) else (dataflowlaw10_HierOrder.j0 k a1 a2 false l0_0))))) = some r := H
   have A11 := Aside0.mk A110
   clear A110
   by_cases c12 : t496 = true
   ·subst c12
    have H1 : ((hier_IsSub.f k l0_0 a2 a3).bind fun t497 => (if t497 = true then ((hier_IsSub.f k l0_0 a1 a3).bind fun t498 => (if t498 = true then (if a1.toList = a2.toList then (dataflowlaw10_HierOrder.j0 k a1 a2 false l0_0) else ((hier_IsSub.f k l0_0 a1 a2).bind fun t499 => (if t499 = true then ((hier_IsSub.f k l0_0 a2 a1).bind fun t500 => (dataflowlaw10_HierOrder.j0 k a1 a2 t500 l0_0)) else (dataflowlaw10_HierOrder.j0 k a1 a2 false l0_0)))) else (dataflowlaw10_HierOrder.j0 k a1 a2 true l0_0))) else (if a1.toList = a2.toList then (dataflowlaw10_HierOrder.j0 k a1 a2 false l0_0) else ((hier_IsSub.f k l0_0 a1 a2).bind fun t501 => (if t501 = true then ((hier_IsSub.f k l0_0 a2 a1).bind fun t502 => (dataflowlaw10_HierOrder.j0 k a1 a2 t502 l0_0)) else (dataflowlaw10_HierOrder.j0 k a1 a2 false l0_0)))))) = some r := by rw [if_pos rfl] at H; exact H
    clear H
    have H := H1
    clear H1
    replace H := Option.bind_eq_some_iff.mp H
    obtain ⟨t497, A130, H⟩ := H
    replace H : (if t497 = true then ((hier_IsSub.f k l0_0 a1 a3).bind fun t498 => (if t498 = true then (if a1.toList = a2.toList then (dataflowlaw10_HierOrder.j0 k a1 a2 false l0_0) else ((hier_IsSub.f k l0_0 a1 a2).bind fun t499 => (if t499 = true then ((hier_IsSub.f k l0_0 a2 a1).bind fun t500 => (dataflowlaw10_HierOrder.j0 k a1 a2 t500 l0_0)) else (dataflowlaw10_HierOrder.j0 k a1 a2 false l0_0)))) else (dataflowlaw10_HierOrder.j0 k a1 a2 true l0_0))) else (if a1.toList = a2.toList then (dataflowlaw10_HierOrder.j0 k a1 a2 false l0_0) else ((hier_IsSub.f k l0_0 a1 a2).bind fun t501 => (if t501 = true then ((hier_IsSub.f k l0_0 a2 a1).bind fun t502 => (dataflowlaw10_HierOrder.j0 k a1 a2 t502 l0_0)) else (dataflowlaw10_HierOrder.j0 k a1 a2 false l0_0))))) = some r := H
    have A13 := Aside0.mk A130
    clear A130
    by_cases c14 : t497 = true
    ·subst c14
     have H1 : ((hier_IsSub.f k l0_0 a1 a3).bind fun t498 => (if t498 = true then (if a1.toList = a2.toList then (dataflowlaw10_HierOrder.j0 k a1 a2 false l0_0) else ((hier_IsSub.f k l0_0 a1 a2).bind fun t499 => (if t499 = true then ((hier_IsSub.f k l0_0 a2 a1).bind fun t500 => (dataflowlaw10_HierOrder.j0 k a1 a2 t500 l0_0)) else (dataflowlaw10_HierOrder.j0 k a1 a2 false l0_0)))) else (dataflowlaw10_HierOrder.j0 k a1 a2 true l0_0))) = some r := by rw [if_pos rfl] at H; exact H
     clear H
     have H := H1
     clear H1
     replace H := Option.bind_eq_some_iff.mp H
     obtain ⟨t498, A150, H⟩ := H
     replace H : (if t498 = true then (if a1.toList = a2.toList then (dataflowlaw10_HierOrder.j0 k a1 a2 false l0_0) else ((hier_IsSub.f k l0_0 a1 a2).bind fun t499 => (if t499 = true then ((hier_IsSub.f k l0_0 a2 a1).bind fun t500 => (dataflowlaw10_HierOrder.j0 k a1 a2 t500 l0_0)) else (dataflowlaw10_HierOrder.j0 k a1 a2 false l0_0)))) else (dataflowlaw10_HierOrder.j0 k a1 a2 true l0_0)) = some r := H
     have A15 := Aside0.mk A150
     clear A150
     by_cases c16 : t498 = true
     ·subst c16
      have H1 : (if a1.toList = a2.toList then (dataflowlaw10_HierOrder.j0 k a1 a2 false l0_0) else ((hier_IsSub.f k l0_0 a1 a2).bind fun t499 => (if t499 = true then ((hier_IsSub.f k l0_0 a2 a1).bind fun t500 => (dataflowlaw10_HierOrder.j0 k a1 a2 t500 l0_0)) else (dataflowlaw10_HierOrder.j0 k a1 a2 false l0_0)))) = some r := by rw [if_pos rfl] at H; exact H
      clear H
      have H := H1
      clear H1
      by_cases c17 : a1.toList = a2.toList
      ·rw [if_pos c17] at H
       have c17b0 : (a1.toList == a2.toList) = true := beq_iff_eq.mpr c17
       have c17b1 : (a1.toList != a2.toList) = false := bne_eq_false_iff_eq.mpr c17
       clear c17
       (first | rw [c17b0] | (simp only [i64_w, i32_w]; rw [c17b0]) | skip)
       have H' := Aside0.mk H
       clear H
       have hcz18_0 : w10.cell? ⟨gb492, 0, none⟩ = some (.slice A0_0 l0_0.length c0_0) := (blk_cell BK492.out 0).trans rfl
       have hfz18_0 := blk_frozen BK492.out 0
       go_wp2_with (first | ((with_reducible refine gate_callee (f := 14) rfl ?_); refine goesL_ (some 23) rfl rfl Tryd.func14 (by kernel_rfl) rfl #[.agg #[.slice A0_0 l0_0.length c0_0], .string a1, .string a2] rfl (by (try simp only [List.map_toArray, List.map_cons, List.map_nil]); first | done | rfl) ?_; (with_reducible refine (hier_IsSub.calls k _ _ l0_0 a1 a2 true _ ?side1 ?side2 A11.out).mono ?_); (case side1 => repeat (first | exact (Kd.C_below HR0_0.out HB.out) | (with_reducible refine Kd.C_alloc ?_ _) | (with_reducible refine Kd.C_drewN ?_ _) | (with_reducible refine Kd.C_drew ?_))); (case side2 => exact HC0_0.out); rintro e w19 ⟨rfl, hb⟩; refine ⟨_, rfl, ?_⟩; have n0_ := Aside0.mk (blk_below (g := gb492) (o := .cells #[.slice A0_0 l0_0.length c0_0] 24 (0, 0)) (by (with_reducible repeat first | apply bn | apply bd | apply ba); exact BK492.out) hb); have n1_ := Aside0.mk (below_step (by repeat with_reducible first | exact HB.out | apply below_alloc | apply pw_below_drewN | apply below_drew1 | refine below_set ?_ GE492.out) hb); clear BK492; clear HB; have BK492 := n0_; have HB := n1_; clear n0_ n1_; (try clear hb); (try clear hb2); (try clear hk); (try clear hi); have hcz20_0 : w19.cell? ⟨gb492, 0, none⟩ = some (.slice A0_0 l0_0.length c0_0) := (blk_cell BK492.out 0).trans rfl; have hfz20_0 := blk_frozen BK492.out 0) | (go_at_call 14; (with_reducible refine (hier_IsSub.calls k _ _ l0_0 a2 a3 true _ ?side1 ?side2 A13.out).mono ?_); (case side1 => repeat (first | exact (Kd.C_below HR0_0.out HB.out) | (with_reducible refine Kd.C_alloc ?_ _) | (with_reducible refine Kd.C_drewN ?_ _) | (with_reducible refine Kd.C_drew ?_))); (case side2 => exact HC0_0.out); rintro e w21 ⟨rfl, hb⟩; have n0_ := Aside0.mk (blk_below (g := gb492) (o := .cells #[.slice A0_0 l0_0.length c0_0] 24 (0, 0)) (by (with_reducible repeat first | apply bn | apply bd | apply ba); exact BK492.out) hb); have n1_ := Aside0.mk (below_step (by repeat with_reducible first | exact HB.out | apply below_alloc | apply pw_below_drewN | apply below_drew1 | refine below_set ?_ GE492.out) hb); clear BK492; clear HB; have BK492 := n0_; have HB := n1_; clear n0_ n1_; (try clear hb); (try clear hb2); (try clear hk); (try clear hi); have hcz22_0 : w21.cell? ⟨gb492, 0, none⟩ = some (.slice A0_0 l0_0.length c0_0) := (blk_cell BK492.out 0).trans rfl; have hfz22_0 := blk_frozen BK492.out 0) | (go_at_call 14; (with_reducible refine (hier_IsSub.calls k _ _ l0_0 a1 a3 true _ ?side1 ?side2 A15.out).mono ?_); (case side1 => repeat (first | exact (Kd.C_below HR0_0.out HB.out) | (with_reducible refine Kd.C_alloc ?_ _) | (with_reducible refine Kd.C_drewN ?_ _) | (with_reducible refine Kd.C_drew ?_))); (case side2 => exact HC0_0.out); rintro e w23 ⟨rfl, hb⟩; have n0_ := Aside0.mk (blk_below (g := gb492) (o := .cells #[.slice A0_0 l0_0.length c0_0] 24 (0, 0)) (by (with_reducible repeat first | apply bn | apply bd | apply ba); exact BK492.out) hb); have n1_ := Aside0.mk (below_step (by repeat with_reducible first | exact HB.out | apply below_alloc | apply pw_below_drewN | apply below_drew1 | refine below_set ?_ GE492.out) hb); clear BK492; clear HB; have BK492 := n0_; have HB := n1_; clear n0_ n1_; (try clear hb); (try clear hb2); (try clear hk); (try clear hi)))
       go_meet
       case rel => exact ⟨_, (false), (by first | rfl | (simp; done) | (simp [*]; done)), H', ⟨by first | omega | exact Nat.le_refl _⟩, ⟨by (with_reducible repeat first | apply bn | apply bd | apply ba); exact BK492.out⟩, ⟨by repeat with_reducible first | exact HB.out | apply below_alloc | apply pw_below_drewN | apply below_drew1 | refine below_set ?_ GE492.out⟩⟩
      ·rw [if_neg c17] at H
       have c17b0 : (a1.toList == a2.toList) = false := beq_eq_false_iff_ne.mpr c17
       have c17b1 : (a1.toList != a2.toList) = true := bne_iff_ne.mpr c17
       (first | rw [c17b0] | (simp only [i64_w, i32_w]; rw [c17b0]) | skip)
       replace H := Option.bind_eq_some_iff.mp H
       obtain ⟨t499, A240, H⟩ := H
       replace H : (if t499 = true then ((hier_IsSub.f k l0_0 a2 a1).bind fun t500 => (dataflowlaw10_HierOrder.j0 k a1 a2 t500 l0_0)) else (dataflowlaw10_HierOrder.j0 k a1 a2 false l0_0)) = some r := H
       have A24 := Aside0.mk A240
       clear A240
       by_cases c25 : t499 = true
       ·subst c25
        have H1 : ((hier_IsSub.f k l0_0 a2 a1).bind fun t500 => (dataflowlaw10_HierOrder.j0 k a1 a2 t500 l0_0)) = some r := by rw [if_pos rfl] at H; exact H
        clear H
        have H := H1
        clear H1
        replace H := Option.bind_eq_some_iff.mp H
        obtain ⟨t500, A260, H⟩ := H
        replace H : (dataflowlaw10_HierOrder.j0 k a1 a2 t500 l0_0) = some r := H
        have A26 := Aside0.mk A260
        clear A260
        have H' := Aside0.mk H
        clear H
        have hcz27_0 : w10.cell? ⟨gb492, 0, none⟩ = some (.slice A0_0 l0_0.length c0_0) := (blk_cell BK492.out 0).trans rfl
        have hfz27_0 := blk_frozen BK492.out 0
        go_wp2_with (first | ((with_reducible refine gate_callee (f := 14) rfl ?_); refine goesL_ (some 23) rfl rfl Tryd.func14 (by kernel_rfl) rfl #[.agg #[.slice A0_0 l0_0.length c0_0], .string a1, .string a2] rfl (by (try simp only [List.map_toArray, List.map_cons, List.map_nil]); first | done | rfl) ?_; (with_reducible refine (hier_IsSub.calls k _ _ l0_0 a1 a2 true _ ?side1 ?side2 A11.out).mono ?_); (case side1 => repeat (first | exact (Kd.C_below HR0_0.out HB.out) | (with_reducible refine Kd.C_alloc ?_ _) | (with_reducible refine Kd.C_drewN ?_ _) | (with_reducible refine Kd.C_drew ?_))); (case side2 => exact HC0_0.out); rintro e w28 ⟨rfl, hb⟩; refine ⟨_, rfl, ?_⟩; have n0_ := Aside0.mk (blk_below (g := gb492) (o := .cells #[.slice A0_0 l0_0.length c0_0] 24 (0, 0)) (by (with_reducible repeat first | apply bn | apply bd | apply ba); exact BK492.out) hb); have n1_ := Aside0.mk (below_step (by repeat with_reducible first | exact HB.out | apply below_alloc | apply pw_below_drewN | apply below_drew1 | refine below_set ?_ GE492.out) hb); clear BK492; clear HB; have BK492 := n0_; have HB := n1_; clear n0_ n1_; (try clear hb); (try clear hb2); (try clear hk); (try clear hi); have hcz29_0 : w28.cell? ⟨gb492, 0, none⟩ = some (.slice A0_0 l0_0.length c0_0) := (blk_cell BK492.out 0).trans rfl; have hfz29_0 := blk_frozen BK492.out 0) | (go_at_call 14; (with_reducible refine (hier_IsSub.calls k _ _ l0_0 a2 a3 true _ ?side1 ?side2 A13.out).mono ?_); (case side1 => repeat (first | exact (Kd.C_below HR0_0.out HB.out) | (with_reducible refine Kd.C_alloc ?_ _) | (with_reducible refine Kd.C_drewN ?_ _) | (with_reducible refine Kd.C_drew ?_))); (case side2 => exact HC0_0.out); rintro e w30 ⟨rfl, hb⟩; have n0_ := Aside0.mk (blk_below (g := gb492) (o := .cells #[.slice A0_0 l0_0.length c0_0] 24 (0, 0)) (by (with_reducible repeat first | apply bn | apply bd | apply ba); exact BK492.out) hb); have n1_ := Aside0.mk (below_step (by repeat with_reducible first | exact HB.out | apply below_alloc | apply pw_below_drewN | apply below_drew1 | refine below_set ?_ GE492.out) hb); clear BK492; clear HB; have BK492 := n0_; have HB := n1_; clear n0_ n1_; (try clear hb); (try clear hb2); (try clear hk); (try clear hi); have hcz31_0 : w30.cell? ⟨gb492, 0, none⟩ = some (.slice A0_0 l0_0.length c0_0) := (blk_cell BK492.out 0).trans rfl; have hfz31_0 := blk_frozen BK492.out 0) | (go_at_call 14; (with_reducible refine (hier_IsSub.calls k _ _ l0_0 a1 a3 true _ ?side1 ?side2 A15.out).mono ?_); (case side1 => repeat (first | exact (Kd.C_below HR0_0.out HB.out) | (with_reducible refine Kd.C_alloc ?_ _) | (with_reducible refine Kd.C_drewN ?_ _) | (with_reducible refine Kd.C_drew ?_))); (case side2 => exact HC0_0.out); rintro e w32 ⟨rfl, hb⟩; have n0_ := Aside0.mk (blk_below (g := gb492) (o := .cells #[.slice A0_0 l0_0.length c0_0] 24 (0, 0)) (by (with_reducible repeat first | apply bn | apply bd | apply ba); exact BK492.out) hb); have n1_ := Aside0.mk (below_step (by repeat with_reducible first | exact HB.out | apply below_alloc | apply pw_below_drewN | apply below_drew1 | refine below_set ?_ GE492.out) hb); clear BK492; clear HB; have BK492 := n0_; have HB := n1_; clear n0_ n1_; (try clear hb); (try clear hb2); (try clear hk); (try clear hi); have hcz33_0 : w32.cell? ⟨gb492, 0, none⟩ = some (.slice A0_0 l0_0.length c0_0) := (blk_cell BK492.out 0).trans rfl; have hfz33_0 := blk_frozen BK492.out 0) | (go_at_call 14; (with_reducible refine (hier_IsSub.calls k _ _ l0_0 a1 a2 true _ ?side1 ?side2 A24.out).mono ?_); (case side1 => repeat (first | exact (Kd.C_below HR0_0.out HB.out) | (with_reducible refine Kd.C_alloc ?_ _) | (with_reducible refine Kd.C_drewN ?_ _) | (with_reducible refine Kd.C_drew ?_))); (case side2 => exact HC0_0.out); rintro e w34 ⟨rfl, hb⟩; have n0_ := Aside0.mk (blk_below (g := gb492) (o := .cells #[.slice A0_0 l0_0.length c0_0] 24 (0, 0)) (by (with_reducible repeat first | apply bn | apply bd | apply ba); exact BK492.out) hb); have n1_ := Aside0.mk (below_step (by repeat with_reducible first | exact HB.out | apply below_alloc | apply pw_below_drewN | apply below_drew1 | refine below_set ?_ GE492.out) hb); clear BK492; clear HB; have BK492 := n0_; have HB := n1_; clear n0_ n1_; (try clear hb); (try clear hb2); (try clear hk); (try clear hi); have hcz35_0 : w34.cell? ⟨gb492, 0, none⟩ = some (.slice A0_0 l0_0.length c0_0) := (blk_cell BK492.out 0).trans rfl; have hfz35_0 := blk_frozen BK492.out 0) | (go_at_call 14; (with_reducible refine (hier_IsSub.calls k _ _ l0_0 a2 a1 t500 _ ?side1 ?side2 A26.out).mono ?_); (case side1 => repeat (first | exact (Kd.C_below HR0_0.out HB.out) | (with_reducible refine Kd.C_alloc ?_ _) | (with_reducible refine Kd.C_drewN ?_ _) | (with_reducible refine Kd.C_drew ?_))); (case side2 => exact HC0_0.out); rintro e w36 ⟨rfl, hb⟩; have n0_ := Aside0.mk (blk_below (g := gb492) (o := .cells #[.slice A0_0 l0_0.length c0_0] 24 (0, 0)) (by (with_reducible repeat first | apply bn | apply bd | apply ba); exact BK492.out) hb); have n1_ := Aside0.mk (below_step (by repeat with_reducible first | exact HB.out | apply below_alloc | apply pw_below_drewN | apply below_drew1 | refine below_set ?_ GE492.out) hb); clear BK492; clear HB; have BK492 := n0_; have HB := n1_; clear n0_ n1_; (try clear hb); (try clear hb2); (try clear hk); (try clear hi)))
        go_meet
        case rel => exact ⟨_, (t500), (by first | rfl | (simp; done) | (simp [*]; done)), H', ⟨by first | omega | exact Nat.le_refl _⟩, ⟨by (with_reducible repeat first | apply bn | apply bd | apply ba); exact BK492.out⟩, ⟨by repeat with_reducible first | exact HB.out | apply below_alloc | apply pw_below_drewN | apply below_drew1 | refine below_set ?_ GE492.out⟩⟩
       ·replace c25 := Bool.eq_false_iff.mpr c25
        subst c25
        have H1 : (dataflowlaw10_HierOrder.j0 k a1 a2 false l0_0) = some r := by rw [if_neg (show ¬ (false = true) by decide)] at H; exact H
        clear H
        have H := H1
        clear H1
        have H' := Aside0.mk H
        clear H
        have hcz37_0 : w10.cell? ⟨gb492, 0, none⟩ = some (.slice A0_0 l0_0.length c0_0) := (blk_cell BK492.out 0).trans rfl
        have hfz37_0 := blk_frozen BK492.out 0
        go_wp2_with (first | ((with_reducible refine gate_callee (f := 14) rfl ?_); refine goesL_ (some 23) rfl rfl Tryd.func14 (by kernel_rfl) rfl #[.agg #[.slice A0_0 l0_0.length c0_0], .string a1, .string a2] rfl (by (try simp only [List.map_toArray, List.map_cons, List.map_nil]); first | done | rfl) ?_; (with_reducible refine (hier_IsSub.calls k _ _ l0_0 a1 a2 true _ ?side1 ?side2 A11.out).mono ?_); (case side1 => repeat (first | exact (Kd.C_below HR0_0.out HB.out) | (with_reducible refine Kd.C_alloc ?_ _) | (with_reducible refine Kd.C_drewN ?_ _) | (with_reducible refine Kd.C_drew ?_))); (case side2 => exact HC0_0.out); rintro e w38 ⟨rfl, hb⟩; refine ⟨_, rfl, ?_⟩; have n0_ := Aside0.mk (blk_below (g := gb492) (o := .cells #[.slice A0_0 l0_0.length c0_0] 24 (0, 0)) (by (with_reducible repeat first | apply bn | apply bd | apply ba); exact BK492.out) hb); have n1_ := Aside0.mk (below_step (by repeat with_reducible first | exact HB.out | apply below_alloc | apply pw_below_drewN | apply below_drew1 | refine below_set ?_ GE492.out) hb); clear BK492; clear HB; have BK492 := n0_; have HB := n1_; clear n0_ n1_; (try clear hb); (try clear hb2); (try clear hk); (try clear hi); have hcz39_0 : w38.cell? ⟨gb492, 0, none⟩ = some (.slice A0_0 l0_0.length c0_0) := (blk_cell BK492.out 0).trans rfl; have hfz39_0 := blk_frozen BK492.out 0) | (go_at_call 14; (with_reducible refine (hier_IsSub.calls k _ _ l0_0 a2 a3 true _ ?side1 ?side2 A13.out).mono ?_); (case side1 => repeat (first | exact (Kd.C_below HR0_0.out HB.out) | (with_reducible refine Kd.C_alloc ?_ _) | (with_reducible refine Kd.C_drewN ?_ _) | (with_reducible refine Kd.C_drew ?_))); (case side2 => exact HC0_0.out); rintro e w40 ⟨rfl, hb⟩; have n0_ := Aside0.mk (blk_below (g := gb492) (o := .cells #[.slice A0_0 l0_0.length c0_0] 24 (0, 0)) (by (with_reducible repeat first | apply bn | apply bd | apply ba); exact BK492.out) hb); have n1_ := Aside0.mk (below_step (by repeat with_reducible first | exact HB.out | apply below_alloc | apply pw_below_drewN | apply below_drew1 | refine below_set ?_ GE492.out) hb); clear BK492; clear HB; have BK492 := n0_; have HB := n1_; clear n0_ n1_; (try clear hb); (try clear hb2); (try clear hk); (try clear hi); have hcz41_0 : w40.cell? ⟨gb492, 0, none⟩ = some (.slice A0_0 l0_0.length c0_0) := (blk_cell BK492.out 0).trans rfl; have hfz41_0 := blk_frozen BK492.out 0) | (go_at_call 14; (with_reducible refine (hier_IsSub.calls k _ _ l0_0 a1 a3 true _ ?side1 ?side2 A15.out).mono ?_); (case side1 => repeat (first | exact (Kd.C_below HR0_0.out HB.out) | (with_reducible refine Kd.C_alloc ?_ _) | (with_reducible refine Kd.C_drewN ?_ _) | (with_reducible refine Kd.C_drew ?_))); (case side2 => exact HC0_0.out); rintro e w42 ⟨rfl, hb⟩; have n0_ := Aside0.mk (blk_below (g := gb492) (o := .cells #[.slice A0_0 l0_0.length c0_0] 24 (0, 0)) (by (with_reducible repeat first | apply bn | apply bd | apply ba); exact BK492.out) hb); have n1_ := Aside0.mk (below_step (by repeat with_reducible first | exact HB.out | apply below_alloc | apply pw_below_drewN | apply below_drew1 | refine below_set ?_ GE492.out) hb); clear BK492; clear HB; have BK492 := n0_; have HB := n1_; clear n0_ n1_; (try clear hb); (try clear hb2); (try clear hk); (try clear hi); have hcz43_0 : w42.cell? ⟨gb492, 0, none⟩ = some (.slice A0_0 l0_0.length c0_0) := (blk_cell BK492.out 0).trans rfl; have hfz43_0 := blk_frozen BK492.out 0) | (go_at_call 14; (with_reducible refine (hier_IsSub.calls k _ _ l0_0 a1 a2 false _ ?side1 ?side2 A24.out).mono ?_); (case side1 => repeat (first | exact (Kd.C_below HR0_0.out HB.out) | (with_reducible refine Kd.C_alloc ?_ _) | (with_reducible refine Kd.C_drewN ?_ _) | (with_reducible refine Kd.C_drew ?_))); (case side2 => exact HC0_0.out); rintro e w44 ⟨rfl, hb⟩; have n0_ := Aside0.mk (blk_below (g := gb492) (o := .cells #[.slice A0_0 l0_0.length c0_0] 24 (0, 0)) (by (with_reducible repeat first | apply bn | apply bd | apply ba); exact BK492.out) hb); have n1_ := Aside0.mk (below_step (by repeat with_reducible first | exact HB.out | apply below_alloc | apply pw_below_drewN | apply below_drew1 | refine below_set ?_ GE492.out) hb); clear BK492; clear HB; have BK492 := n0_; have HB := n1_; clear n0_ n1_; (try clear hb); (try clear hb2); (try clear hk); (try clear hi)))
        go_meet
        case rel => exact ⟨_, (false), (by first | rfl | (simp; done) | (simp [*]; done)), H', ⟨by first | omega | exact Nat.le_refl _⟩, ⟨by (with_reducible repeat first | apply bn | apply bd | apply ba); exact BK492.out⟩, ⟨by repeat with_reducible first | exact HB.out | apply below_alloc | apply pw_below_drewN | apply below_drew1 | refine below_set ?_ GE492.out⟩⟩
     ·replace c16 := Bool.eq_false_iff.mpr c16
      subst c16
      have H1 : (dataflowlaw10_HierOrder.j0 k a1 a2 true l0_0) = some r := by rw [if_neg (show ¬ (false = true) by decide)] at H; exact H
      clear H
      have H := H1
      clear H1
      have H' := Aside0.mk H
      clear H
      have hcz45_0 : w10.cell? ⟨gb492, 0, none⟩ = some (.slice A0_0 l0_0.length c0_0) := (blk_cell BK492.out 0).trans rfl
      have hfz45_0 := blk_frozen BK492.out 0
      go_wp2_with (first | ((with_reducible refine gate_callee (f := 14) rfl ?_); refine goesL_ (some 23) rfl rfl Tryd.func14 (by kernel_rfl) rfl #[.agg #[.slice A0_0 l0_0.length c0_0], .string a1, .string a2] rfl (by (try simp only [List.map_toArray, List.map_cons, List.map_nil]); first | done | rfl) ?_; (with_reducible refine (hier_IsSub.calls k _ _ l0_0 a1 a2 true _ ?side1 ?side2 A11.out).mono ?_); (case side1 => repeat (first | exact (Kd.C_below HR0_0.out HB.out) | (with_reducible refine Kd.C_alloc ?_ _) | (with_reducible refine Kd.C_drewN ?_ _) | (with_reducible refine Kd.C_drew ?_))); (case side2 => exact HC0_0.out); rintro e w46 ⟨rfl, hb⟩; refine ⟨_, rfl, ?_⟩; have n0_ := Aside0.mk (blk_below (g := gb492) (o := .cells #[.slice A0_0 l0_0.length c0_0] 24 (0, 0)) (by (with_reducible repeat first | apply bn | apply bd | apply ba); exact BK492.out) hb); have n1_ := Aside0.mk (below_step (by repeat with_reducible first | exact HB.out | apply below_alloc | apply pw_below_drewN | apply below_drew1 | refine below_set ?_ GE492.out) hb); clear BK492; clear HB; have BK492 := n0_; have HB := n1_; clear n0_ n1_; (try clear hb); (try clear hb2); (try clear hk); (try clear hi); have hcz47_0 : w46.cell? ⟨gb492, 0, none⟩ = some (.slice A0_0 l0_0.length c0_0) := (blk_cell BK492.out 0).trans rfl; have hfz47_0 := blk_frozen BK492.out 0) | (go_at_call 14; (with_reducible refine (hier_IsSub.calls k _ _ l0_0 a2 a3 true _ ?side1 ?side2 A13.out).mono ?_); (case side1 => repeat (first | exact (Kd.C_below HR0_0.out HB.out) | (with_reducible refine Kd.C_alloc ?_ _) | (with_reducible refine Kd.C_drewN ?_ _) | (with_reducible refine Kd.C_drew ?_))); (case side2 => exact HC0_0.out); rintro e w48 ⟨rfl, hb⟩; have n0_ := Aside0.mk (blk_below (g := gb492) (o := .cells #[.slice A0_0 l0_0.length c0_0] 24 (0, 0)) (by (with_reducible repeat first | apply bn | apply bd | apply ba); exact BK492.out) hb); have n1_ := Aside0.mk (below_step (by repeat with_reducible first | exact HB.out | apply below_alloc | apply pw_below_drewN | apply below_drew1 | refine below_set ?_ GE492.out) hb); clear BK492; clear HB; have BK492 := n0_; have HB := n1_; clear n0_ n1_; (try clear hb); (try clear hb2); (try clear hk); (try clear hi); have hcz49_0 : w48.cell? ⟨gb492, 0, none⟩ = some (.slice A0_0 l0_0.length c0_0) := (blk_cell BK492.out 0).trans rfl; have hfz49_0 := blk_frozen BK492.out 0) | (go_at_call 14; (with_reducible refine (hier_IsSub.calls k _ _ l0_0 a1 a3 false _ ?side1 ?side2 A15.out).mono ?_); (case side1 => repeat (first | exact (Kd.C_below HR0_0.out HB.out) | (with_reducible refine Kd.C_alloc ?_ _) | (with_reducible refine Kd.C_drewN ?_ _) | (with_reducible refine Kd.C_drew ?_))); (case side2 => exact HC0_0.out); rintro e w50 ⟨rfl, hb⟩; have n0_ := Aside0.mk (blk_below (g := gb492) (o := .cells #[.slice A0_0 l0_0.length c0_0] 24 (0, 0)) (by (with_reducible repeat first | apply bn | apply bd | apply ba); exact BK492.out) hb); have n1_ := Aside0.mk (below_step (by repeat with_reducible first | exact HB.out | apply below_alloc | apply pw_below_drewN | apply below_drew1 | refine below_set ?_ GE492.out) hb); clear BK492; clear HB; have BK492 := n0_; have HB := n1_; clear n0_ n1_; (try clear hb); (try clear hb2); (try clear hk); (try clear hi)))
      go_meet
      case rel => exact ⟨_, (true), (by first | rfl | (simp; done) | (simp [*]; done)), H', ⟨by first | omega | exact Nat.le_refl _⟩, ⟨by (with_reducible repeat first | apply bn | apply bd | apply ba); exact BK492.out⟩, ⟨by repeat with_reducible first | exact HB.out | apply below_alloc | apply pw_below_drewN | apply below_drew1 | refine below_set ?_ GE492.out⟩⟩
    ·replace c14 := Bool.eq_false_iff.mpr c14
     subst c14
     have H1 : (if a1.toList = a2.toList then (dataflowlaw10_HierOrder.j0 k a1 a2 false l0_0) else ((hier_IsSub.f k l0_0 a1 a2).bind fun t501 => (if t501 = true then ((hier_IsSub.f k l0_0 a2 a1).bind fun t502 => (dataflowlaw10_HierOrder.j0 k a1 a2 t502 l0_0)) else (dataflowlaw10_HierOrder.j0 k a1 a2 false l0_0)))) = some r := by rw [if_neg (show ¬ (false = true) by decide)] at H; exact H
     clear H
     have H := H1
     clear H1
     by_cases c51 : a1.toList = a2.toList
     ·rw [if_pos c51] at H
      have c51b0 : (a1.toList == a2.toList) = true := beq_iff_eq.mpr c51
      have c51b1 : (a1.toList != a2.toList) = false := bne_eq_false_iff_eq.mpr c51
      clear c51
      have H' := Aside0.mk H
      clear H
      have hcz52_0 : w10.cell? ⟨gb492, 0, none⟩ = some (.slice A0_0 l0_0.length c0_0) := (blk_cell BK492.out 0).trans rfl
      have hfz52_0 := blk_frozen BK492.out 0
      go_wp2_with (first | ((with_reducible refine gate_callee (f := 14) rfl ?_); refine goesL_ (some 23) rfl rfl Tryd.func14 (by kernel_rfl) rfl #[.agg #[.slice A0_0 l0_0.length c0_0], .string a1, .string a2] rfl (by (try simp only [List.map_toArray, List.map_cons, List.map_nil]); first | done | rfl) ?_; (with_reducible refine (hier_IsSub.calls k _ _ l0_0 a1 a2 true _ ?side1 ?side2 A11.out).mono ?_); (case side1 => repeat (first | exact (Kd.C_below HR0_0.out HB.out) | (with_reducible refine Kd.C_alloc ?_ _) | (with_reducible refine Kd.C_drewN ?_ _) | (with_reducible refine Kd.C_drew ?_))); (case side2 => exact HC0_0.out); rintro e w53 ⟨rfl, hb⟩; refine ⟨_, rfl, ?_⟩; have n0_ := Aside0.mk (blk_below (g := gb492) (o := .cells #[.slice A0_0 l0_0.length c0_0] 24 (0, 0)) (by (with_reducible repeat first | apply bn | apply bd | apply ba); exact BK492.out) hb); have n1_ := Aside0.mk (below_step (by repeat with_reducible first | exact HB.out | apply below_alloc | apply pw_below_drewN | apply below_drew1 | refine below_set ?_ GE492.out) hb); clear BK492; clear HB; have BK492 := n0_; have HB := n1_; clear n0_ n1_; (try clear hb); (try clear hb2); (try clear hk); (try clear hi); have hcz54_0 : w53.cell? ⟨gb492, 0, none⟩ = some (.slice A0_0 l0_0.length c0_0) := (blk_cell BK492.out 0).trans rfl; have hfz54_0 := blk_frozen BK492.out 0) | (go_at_call 14; (with_reducible refine (hier_IsSub.calls k _ _ l0_0 a2 a3 false _ ?side1 ?side2 A13.out).mono ?_); (case side1 => repeat (first | exact (Kd.C_below HR0_0.out HB.out) | (with_reducible refine Kd.C_alloc ?_ _) | (with_reducible refine Kd.C_drewN ?_ _) | (with_reducible refine Kd.C_drew ?_))); (case side2 => exact HC0_0.out); rintro e w55 ⟨rfl, hb⟩; have n0_ := Aside0.mk (blk_below (g := gb492) (o := .cells #[.slice A0_0 l0_0.length c0_0] 24 (0, 0)) (by (with_reducible repeat first | apply bn | apply bd | apply ba); exact BK492.out) hb); have n1_ := Aside0.mk (below_step (by repeat with_reducible first | exact HB.out | apply below_alloc | apply pw_below_drewN | apply below_drew1 | refine below_set ?_ GE492.out) hb); clear BK492; clear HB; have BK492 := n0_; have HB := n1_; clear n0_ n1_; (try clear hb); (try clear hb2); (try clear hk); (try clear hi)))
      go_meet
      case rel => exact ⟨_, (false), (by first | rfl | (simp; done) | (simp [*]; done)), H', ⟨by first | omega | exact Nat.le_refl _⟩, ⟨by (with_reducible repeat first | apply bn | apply bd | apply ba); exact BK492.out⟩, ⟨by repeat with_reducible first | exact HB.out | apply below_alloc | apply pw_below_drewN | apply below_drew1 | refine below_set ?_ GE492.out⟩⟩
     ·rw [if_neg c51] at H
      have c51b0 : (a1.toList == a2.toList) = false := beq_eq_false_iff_ne.mpr c51
      have c51b1 : (a1.toList != a2.toList) = true := bne_iff_ne.mpr c51
      replace H := Option.bind_eq_some_iff.mp H
      obtain ⟨t501, A560, H⟩ := H
      replace H : (if t501 = true then ((hier_IsSub.f k l0_0 a2 a1).bind fun t502 => (dataflowlaw10_HierOrder.j0 k a1 a2 t502 l0_0)) else (dataflowlaw10_HierOrder.j0 k a1 a2 false l0_0)) = some r := H
      have A56 := Aside0.mk A560
      clear A560
      by_cases c57 : t501 = true
      ·subst c57
       have H1 : ((hier_IsSub.f k l0_0 a2 a1).bind fun t502 => (dataflowlaw10_HierOrder.j0 k a1 a2 t502 l0_0)) = some r := by rw [if_pos rfl] at H; exact H
       clear H
       have H := H1
       clear H1
       replace H := Option.bind_eq_some_iff.mp H
       obtain ⟨t502, A580, H⟩ := H
       replace H : (dataflowlaw10_HierOrder.j0 k a1 a2 t502 l0_0) = some r := H
       have A58 := Aside0.mk A580
       clear A580
       have H' := Aside0.mk H
       clear H
       have hcz59_0 : w10.cell? ⟨gb492, 0, none⟩ = some (.slice A0_0 l0_0.length c0_0) := (blk_cell BK492.out 0).trans rfl
       have hfz59_0 := blk_frozen BK492.out 0
       go_wp2_with (first | ((with_reducible refine gate_callee (f := 14) rfl ?_); refine goesL_ (some 23) rfl rfl Tryd.func14 (by kernel_rfl) rfl #[.agg #[.slice A0_0 l0_0.length c0_0], .string a1, .string a2] rfl (by (try simp only [List.map_toArray, List.map_cons, List.map_nil]); first | done | rfl) ?_; (with_reducible refine (hier_IsSub.calls k _ _ l0_0 a1 a2 true _ ?side1 ?side2 A11.out).mono ?_); (case side1 => repeat (first | exact (Kd.C_below HR0_0.out HB.out) | (with_reducible refine Kd.C_alloc ?_ _) | (with_reducible refine Kd.C_drewN ?_ _) | (with_reducible refine Kd.C_drew ?_))); (case side2 => exact HC0_0.out); rintro e w60 ⟨rfl, hb⟩; refine ⟨_, rfl, ?_⟩; have n0_ := Aside0.mk (blk_below (g := gb492) (o := .cells #[.slice A0_0 l0_0.length c0_0] 24 (0, 0)) (by (with_reducible repeat first | apply bn | apply bd | apply ba); exact BK492.out) hb); have n1_ := Aside0.mk (below_step (by repeat with_reducible first | exact HB.out | apply below_alloc | apply pw_below_drewN | apply below_drew1 | refine below_set ?_ GE492.out) hb); clear BK492; clear HB; have BK492 := n0_; have HB := n1_; clear n0_ n1_; (try clear hb); (try clear hb2); (try clear hk); (try clear hi); have hcz61_0 : w60.cell? ⟨gb492, 0, none⟩ = some (.slice A0_0 l0_0.length c0_0) := (blk_cell BK492.out 0).trans rfl; have hfz61_0 := blk_frozen BK492.out 0) | (go_at_call 14; (with_reducible refine (hier_IsSub.calls k _ _ l0_0 a2 a3 false _ ?side1 ?side2 A13.out).mono ?_); (case side1 => repeat (first | exact (Kd.C_below HR0_0.out HB.out) | (with_reducible refine Kd.C_alloc ?_ _) | (with_reducible refine Kd.C_drewN ?_ _) | (with_reducible refine Kd.C_drew ?_))); (case side2 => exact HC0_0.out); rintro e w62 ⟨rfl, hb⟩; have n0_ := Aside0.mk (blk_below (g := gb492) (o := .cells #[.slice A0_0 l0_0.length c0_0] 24 (0, 0)) (by (with_reducible repeat first | apply bn | apply bd | apply ba); exact BK492.out) hb); have n1_ := Aside0.mk (below_step (by repeat with_reducible first | exact HB.out | apply below_alloc | apply pw_below_drewN | apply below_drew1 | refine below_set ?_ GE492.out) hb); clear BK492; clear HB; have BK492 := n0_; have HB := n1_; clear n0_ n1_; (try clear hb); (try clear hb2); (try clear hk); (try clear hi); have hcz63_0 : w62.cell? ⟨gb492, 0, none⟩ = some (.slice A0_0 l0_0.length c0_0) := (blk_cell BK492.out 0).trans rfl; have hfz63_0 := blk_frozen BK492.out 0) | (go_at_call 14; (with_reducible refine (hier_IsSub.calls k _ _ l0_0 a1 a2 true _ ?side1 ?side2 A56.out).mono ?_); (case side1 => repeat (first | exact (Kd.C_below HR0_0.out HB.out) | (with_reducible refine Kd.C_alloc ?_ _) | (with_reducible refine Kd.C_drewN ?_ _) | (with_reducible refine Kd.C_drew ?_))); (case side2 => exact HC0_0.out); rintro e w64 ⟨rfl, hb⟩; have n0_ := Aside0.mk (blk_below (g := gb492) (o := .cells #[.slice A0_0 l0_0.length c0_0] 24 (0, 0)) (by (with_reducible repeat first | apply bn | apply bd | apply ba); exact BK492.out) hb); have n1_ := Aside0.mk (below_step (by repeat with_reducible first | exact HB.out | apply below_alloc | apply pw_below_drewN | apply below_drew1 | refine below_set ?_ GE492.out) hb); clear BK492; clear HB; have BK492 := n0_; have HB := n1_; clear n0_ n1_; (try clear hb); (try clear hb2); (try clear hk); (try clear hi); have hcz65_0 : w64.cell? ⟨gb492, 0, none⟩ = some (.slice A0_0 l0_0.length c0_0) := (blk_cell BK492.out 0).trans rfl; have hfz65_0 := blk_frozen BK492.out 0) | (go_at_call 14; (with_reducible refine (hier_IsSub.calls k _ _ l0_0 a2 a1 t502 _ ?side1 ?side2 A58.out).mono ?_); (case side1 => repeat (first | exact (Kd.C_below HR0_0.out HB.out) | (with_reducible refine Kd.C_alloc ?_ _) | (with_reducible refine Kd.C_drewN ?_ _) | (with_reducible refine Kd.C_drew ?_))); (case side2 => exact HC0_0.out); rintro e w66 ⟨rfl, hb⟩; have n0_ := Aside0.mk (blk_below (g := gb492) (o := .cells #[.slice A0_0 l0_0.length c0_0] 24 (0, 0)) (by (with_reducible repeat first | apply bn | apply bd | apply ba); exact BK492.out) hb); have n1_ := Aside0.mk (below_step (by repeat with_reducible first | exact HB.out | apply below_alloc | apply pw_below_drewN | apply below_drew1 | refine below_set ?_ GE492.out) hb); clear BK492; clear HB; have BK492 := n0_; have HB := n1_; clear n0_ n1_; (try clear hb); (try clear hb2); (try clear hk); (try clear hi)))
       go_meet
       case rel => exact ⟨_, (t502), (by first | rfl | (simp; done) | (simp [*]; done)), H', ⟨by first | omega | exact Nat.le_refl _⟩, ⟨by (with_reducible repeat first | apply bn | apply bd | apply ba); exact BK492.out⟩, ⟨by repeat with_reducible first | exact HB.out | apply below_alloc | apply pw_below_drewN | apply below_drew1 | refine below_set ?_ GE492.out⟩⟩
      ·replace c57 := Bool.eq_false_iff.mpr c57
       subst c57
       have H1 : (dataflowlaw10_HierOrder.j0 k a1 a2 false l0_0) = some r := by rw [if_neg (show ¬ (false = true) by decide)] at H; exact H
       clear H
       have H := H1
       clear H1
       have H' := Aside0.mk H
       clear H
       have hcz67_0 : w10.cell? ⟨gb492, 0, none⟩ = some (.slice A0_0 l0_0.length c0_0) := (blk_cell BK492.out 0).trans rfl
       have hfz67_0 := blk_frozen BK492.out 0
       go_wp2_with (first | ((with_reducible refine gate_callee (f := 14) rfl ?_); refine goesL_ (some 23) rfl rfl Tryd.func14 (by kernel_rfl) rfl #[.agg #[.slice A0_0 l0_0.length c0_0], .string a1, .string a2] rfl (by (try simp only [List.map_toArray, List.map_cons, List.map_nil]); first | done | rfl) ?_; (with_reducible refine (hier_IsSub.calls k _ _ l0_0 a1 a2 true _ ?side1 ?side2 A11.out).mono ?_); (case side1 => repeat (first | exact (Kd.C_below HR0_0.out HB.out) | (with_reducible refine Kd.C_alloc ?_ _) | (with_reducible refine Kd.C_drewN ?_ _) | (with_reducible refine Kd.C_drew ?_))); (case side2 => exact HC0_0.out); rintro e w68 ⟨rfl, hb⟩; refine ⟨_, rfl, ?_⟩; have n0_ := Aside0.mk (blk_below (g := gb492) (o := .cells #[.slice A0_0 l0_0.length c0_0] 24 (0, 0)) (by (with_reducible repeat first | apply bn | apply bd | apply ba); exact BK492.out) hb); have n1_ := Aside0.mk (below_step (by repeat with_reducible first | exact HB.out | apply below_alloc | apply pw_below_drewN | apply below_drew1 | refine below_set ?_ GE492.out) hb); clear BK492; clear HB; have BK492 := n0_; have HB := n1_; clear n0_ n1_; (try clear hb); (try clear hb2); (try clear hk); (try clear hi); have hcz69_0 : w68.cell? ⟨gb492, 0, none⟩ = some (.slice A0_0 l0_0.length c0_0) := (blk_cell BK492.out 0).trans rfl; have hfz69_0 := blk_frozen BK492.out 0) | (go_at_call 14; (with_reducible refine (hier_IsSub.calls k _ _ l0_0 a2 a3 false _ ?side1 ?side2 A13.out).mono ?_); (case side1 => repeat (first | exact (Kd.C_below HR0_0.out HB.out) | (with_reducible refine Kd.C_alloc ?_ _) | (with_reducible refine Kd.C_drewN ?_ _) | (with_reducible refine Kd.C_drew ?_))); (case side2 => exact HC0_0.out); rintro e w70 ⟨rfl, hb⟩; have n0_ := Aside0.mk (blk_below (g := gb492) (o := .cells #[.slice A0_0 l0_0.length c0_0] 24 (0, 0)) (by (with_reducible repeat first | apply bn | apply bd | apply ba); exact BK492.out) hb); have n1_ := Aside0.mk (below_step (by repeat with_reducible first | exact HB.out | apply below_alloc | apply pw_below_drewN | apply below_drew1 | refine below_set ?_ GE492.out) hb); clear BK492; clear HB; have BK492 := n0_; have HB := n1_; clear n0_ n1_; (try clear hb); (try clear hb2); (try clear hk); (try clear hi); have hcz71_0 : w70.cell? ⟨gb492, 0, none⟩ = some (.slice A0_0 l0_0.length c0_0) := (blk_cell BK492.out 0).trans rfl; have hfz71_0 := blk_frozen BK492.out 0) | (go_at_call 14; (with_reducible refine (hier_IsSub.calls k _ _ l0_0 a1 a2 false _ ?side1 ?side2 A56.out).mono ?_); (case side1 => repeat (first | exact (Kd.C_below HR0_0.out HB.out) | (with_reducible refine Kd.C_alloc ?_ _) | (with_reducible refine Kd.C_drewN ?_ _) | (with_reducible refine Kd.C_drew ?_))); (case side2 => exact HC0_0.out); rintro e w72 ⟨rfl, hb⟩; have n0_ := Aside0.mk (blk_below (g := gb492) (o := .cells #[.slice A0_0 l0_0.length c0_0] 24 (0, 0)) (by (with_reducible repeat first | apply bn | apply bd | apply ba); exact BK492.out) hb); have n1_ := Aside0.mk (below_step (by repeat with_reducible first | exact HB.out | apply below_alloc | apply pw_below_drewN | apply below_drew1 | refine below_set ?_ GE492.out) hb); clear BK492; clear HB; have BK492 := n0_; have HB := n1_; clear n0_ n1_; (try clear hb); (try clear hb2); (try clear hk); (try clear hi)))
       go_meet
       case rel => exact ⟨_, (false), (by first | rfl | (simp; done) | (simp [*]; done)), H', ⟨by first | omega | exact Nat.le_refl _⟩, ⟨by (with_reducible repeat first | apply bn | apply bd | apply ba); exact BK492.out⟩, ⟨by repeat with_reducible first | exact HB.out | apply below_alloc | apply pw_below_drewN | apply below_drew1 | refine below_set ?_ GE492.out⟩⟩
   ·replace c12 := Bool.eq_false_iff.mpr c12
    subst c12
    have H1 : (if a1.toList = a2.toList then (dataflowlaw10_HierOrder.j0 k a1 a2 false l0_0) else ((hier_IsSub.f k l0_0 a1 a2).bind fun t503 => (if t503 = true then ((hier_IsSub.f k l0_0 a2 a1).bind fun t504 => (dataflowlaw10_HierOrder.j0 k a1 a2 t504 l0_0)) else (dataflowlaw10_HierOrder.j0 k a1 a2 false l0_0)))) = some r := by rw [if_neg (show ¬ (false = true) by decide)] at H; exact H
    clear H
    have H := H1
    clear H1
    by_cases c73 : a1.toList = a2.toList
    ·rw [if_pos c73] at H
     have c73b0 : (a1.toList == a2.toList) = true := beq_iff_eq.mpr c73
     have c73b1 : (a1.toList != a2.toList) = false := bne_eq_false_iff_eq.mpr c73
     clear c73
     have H' := Aside0.mk H
     clear H
     have hcz74_0 : w10.cell? ⟨gb492, 0, none⟩ = some (.slice A0_0 l0_0.length c0_0) := (blk_cell BK492.out 0).trans rfl
     have hfz74_0 := blk_frozen BK492.out 0
     go_wp2_with (first | ((with_reducible refine gate_callee (f := 14) rfl ?_); refine goesL_ (some 23) rfl rfl Tryd.func14 (by kernel_rfl) rfl #[.agg #[.slice A0_0 l0_0.length c0_0], .string a1, .string a2] rfl (by (try simp only [List.map_toArray, List.map_cons, List.map_nil]); first | done | rfl) ?_; (with_reducible refine (hier_IsSub.calls k _ _ l0_0 a1 a2 false _ ?side1 ?side2 A11.out).mono ?_); (case side1 => repeat (first | exact (Kd.C_below HR0_0.out HB.out) | (with_reducible refine Kd.C_alloc ?_ _) | (with_reducible refine Kd.C_drewN ?_ _) | (with_reducible refine Kd.C_drew ?_))); (case side2 => exact HC0_0.out); rintro e w75 ⟨rfl, hb⟩; refine ⟨_, rfl, ?_⟩; have n0_ := Aside0.mk (blk_below (g := gb492) (o := .cells #[.slice A0_0 l0_0.length c0_0] 24 (0, 0)) (by (with_reducible repeat first | apply bn | apply bd | apply ba); exact BK492.out) hb); have n1_ := Aside0.mk (below_step (by repeat with_reducible first | exact HB.out | apply below_alloc | apply pw_below_drewN | apply below_drew1 | refine below_set ?_ GE492.out) hb); clear BK492; clear HB; have BK492 := n0_; have HB := n1_; clear n0_ n1_; (try clear hb); (try clear hb2); (try clear hk); (try clear hi)))
     go_meet
     case rel => exact ⟨_, (false), (by first | rfl | (simp; done) | (simp [*]; done)), H', ⟨by first | omega | exact Nat.le_refl _⟩, ⟨by (with_reducible repeat first | apply bn | apply bd | apply ba); exact BK492.out⟩, ⟨by repeat with_reducible first | exact HB.out | apply below_alloc | apply pw_below_drewN | apply below_drew1 | refine below_set ?_ GE492.out⟩⟩
    ·rw [if_neg c73] at H
     have c73b0 : (a1.toList == a2.toList) = false := beq_eq_false_iff_ne.mpr c73
     have c73b1 : (a1.toList != a2.toList) = true := bne_iff_ne.mpr c73
     replace H := Option.bind_eq_some_iff.mp H
     obtain ⟨t503, A760, H⟩ := H
     replace H : (if t503 = true then ((hier_IsSub.f k l0_0 a2 a1).bind fun t504 => (dataflowlaw10_HierOrder.j0 k a1 a2 t504 l0_0)) else (dataflowlaw10_HierOrder.j0 k a1 a2 false l0_0)) = some r := H
     have A76 := Aside0.mk A760
     clear A760
     by_cases c77 : t503 = true
     ·subst c77
      have H1 : ((hier_IsSub.f k l0_0 a2 a1).bind fun t504 => (dataflowlaw10_HierOrder.j0 k a1 a2 t504 l0_0)) = some r := by rw [if_pos rfl] at H; exact H
      clear H
      have H := H1
      clear H1
      replace H := Option.bind_eq_some_iff.mp H
      obtain ⟨t504, A780, H⟩ := H
      replace H : (dataflowlaw10_HierOrder.j0 k a1 a2 t504 l0_0) = some r := H
      have A78 := Aside0.mk A780
      clear A780
      have H' := Aside0.mk H
      clear H
      have hcz79_0 : w10.cell? ⟨gb492, 0, none⟩ = some (.slice A0_0 l0_0.length c0_0) := (blk_cell BK492.out 0).trans rfl
      have hfz79_0 := blk_frozen BK492.out 0
      go_wp2_with (first | ((with_reducible refine gate_callee (f := 14) rfl ?_); refine goesL_ (some 23) rfl rfl Tryd.func14 (by kernel_rfl) rfl #[.agg #[.slice A0_0 l0_0.length c0_0], .string a1, .string a2] rfl (by (try simp only [List.map_toArray, List.map_cons, List.map_nil]); first | done | rfl) ?_; (with_reducible refine (hier_IsSub.calls k _ _ l0_0 a1 a2 false _ ?side1 ?side2 A11.out).mono ?_); (case side1 => repeat (first | exact (Kd.C_below HR0_0.out HB.out) | (with_reducible refine Kd.C_alloc ?_ _) | (with_reducible refine Kd.C_drewN ?_ _) | (with_reducible refine Kd.C_drew ?_))); (case side2 => exact HC0_0.out); rintro e w80 ⟨rfl, hb⟩; refine ⟨_, rfl, ?_⟩; have n0_ := Aside0.mk (blk_below (g := gb492) (o := .cells #[.slice A0_0 l0_0.length c0_0] 24 (0, 0)) (by (with_reducible repeat first | apply bn | apply bd | apply ba); exact BK492.out) hb); have n1_ := Aside0.mk (below_step (by repeat with_reducible first | exact HB.out | apply below_alloc | apply pw_below_drewN | apply below_drew1 | refine below_set ?_ GE492.out) hb); clear BK492; clear HB; have BK492 := n0_; have HB := n1_; clear n0_ n1_; (try clear hb); (try clear hb2); (try clear hk); (try clear hi); have hcz81_0 : w80.cell? ⟨gb492, 0, none⟩ = some (.slice A0_0 l0_0.length c0_0) := (blk_cell BK492.out 0).trans rfl; have hfz81_0 := blk_frozen BK492.out 0) | (go_at_call 14; (with_reducible refine (hier_IsSub.calls k _ _ l0_0 a1 a2 true _ ?side1 ?side2 A76.out).mono ?_); (case side1 => repeat (first | exact (Kd.C_below HR0_0.out HB.out) | (with_reducible refine Kd.C_alloc ?_ _) | (with_reducible refine Kd.C_drewN ?_ _) | (with_reducible refine Kd.C_drew ?_))); (case side2 => exact HC0_0.out); rintro e w82 ⟨rfl, hb⟩; have n0_ := Aside0.mk (blk_below (g := gb492) (o := .cells #[.slice A0_0 l0_0.length c0_0] 24 (0, 0)) (by (with_reducible repeat first | apply bn | apply bd | apply ba); exact BK492.out) hb); have n1_ := Aside0.mk (below_step (by repeat with_reducible first | exact HB.out | apply below_alloc | apply pw_below_drewN | apply below_drew1 | refine below_set ?_ GE492.out) hb); clear BK492; clear HB; have BK492 := n0_; have HB := n1_; clear n0_ n1_; (try clear hb); (try clear hb2); (try clear hk); (try clear hi); have hcz83_0 : w82.cell? ⟨gb492, 0, none⟩ = some (.slice A0_0 l0_0.length c0_0) := (blk_cell BK492.out 0).trans rfl; have hfz83_0 := blk_frozen BK492.out 0) | (go_at_call 14; (with_reducible refine (hier_IsSub.calls k _ _ l0_0 a2 a1 t504 _ ?side1 ?side2 A78.out).mono ?_); (case side1 => repeat (first | exact (Kd.C_below HR0_0.out HB.out) | (with_reducible refine Kd.C_alloc ?_ _) | (with_reducible refine Kd.C_drewN ?_ _) | (with_reducible refine Kd.C_drew ?_))); (case side2 => exact HC0_0.out); rintro e w84 ⟨rfl, hb⟩; have n0_ := Aside0.mk (blk_below (g := gb492) (o := .cells #[.slice A0_0 l0_0.length c0_0] 24 (0, 0)) (by (with_reducible repeat first | apply bn | apply bd | apply ba); exact BK492.out) hb); have n1_ := Aside0.mk (below_step (by repeat with_reducible first | exact HB.out | apply below_alloc | apply pw_below_drewN | apply below_drew1 | refine below_set ?_ GE492.out) hb); clear BK492; clear HB; have BK492 := n0_; have HB := n1_; clear n0_ n1_; (try clear hb); (try clear hb2); (try clear hk); (try clear hi)))
      go_meet
      case rel => exact ⟨_, (t504), (by first | rfl | (simp; done) | (simp [*]; done)), H', ⟨by first | omega | exact Nat.le_refl _⟩, ⟨by (with_reducible repeat first | apply bn | apply bd | apply ba); exact BK492.out⟩, ⟨by repeat with_reducible first | exact HB.out | apply below_alloc | apply pw_below_drewN | apply below_drew1 | refine below_set ?_ GE492.out⟩⟩
     ·replace c77 := Bool.eq_false_iff.mpr c77
      subst c77
      have H1 : (dataflowlaw10_HierOrder.j0 k a1 a2 false l0_0) = some r := by rw [if_neg (show ¬ (false = true) by decide)] at H; exact H
      clear H
      have H := H1
      clear H1
      have H' := Aside0.mk H
      clear H
      have hcz85_0 : w10.cell? ⟨gb492, 0, none⟩ = some (.slice A0_0 l0_0.length c0_0) := (blk_cell BK492.out 0).trans rfl
      have hfz85_0 := blk_frozen BK492.out 0
      go_wp2_with (first | ((with_reducible refine gate_callee (f := 14) rfl ?_); refine goesL_ (some 23) rfl rfl Tryd.func14 (by kernel_rfl) rfl #[.agg #[.slice A0_0 l0_0.length c0_0], .string a1, .string a2] rfl (by (try simp only [List.map_toArray, List.map_cons, List.map_nil]); first | done | rfl) ?_; (with_reducible refine (hier_IsSub.calls k _ _ l0_0 a1 a2 false _ ?side1 ?side2 A11.out).mono ?_); (case side1 => repeat (first | exact (Kd.C_below HR0_0.out HB.out) | (with_reducible refine Kd.C_alloc ?_ _) | (with_reducible refine Kd.C_drewN ?_ _) | (with_reducible refine Kd.C_drew ?_))); (case side2 => exact HC0_0.out); rintro e w86 ⟨rfl, hb⟩; refine ⟨_, rfl, ?_⟩; have n0_ := Aside0.mk (blk_below (g := gb492) (o := .cells #[.slice A0_0 l0_0.length c0_0] 24 (0, 0)) (by (with_reducible repeat first | apply bn | apply bd | apply ba); exact BK492.out) hb); have n1_ := Aside0.mk (below_step (by repeat with_reducible first | exact HB.out | apply below_alloc | apply pw_below_drewN | apply below_drew1 | refine below_set ?_ GE492.out) hb); clear BK492; clear HB; have BK492 := n0_; have HB := n1_; clear n0_ n1_; (try clear hb); (try clear hb2); (try clear hk); (try clear hi); have hcz87_0 : w86.cell? ⟨gb492, 0, none⟩ = some (.slice A0_0 l0_0.length c0_0) := (blk_cell BK492.out 0).trans rfl; have hfz87_0 := blk_frozen BK492.out 0) | (go_at_call 14; (with_reducible refine (hier_IsSub.calls k _ _ l0_0 a1 a2 false _ ?side1 ?side2 A76.out).mono ?_); (case side1 => repeat (first | exact (Kd.C_below HR0_0.out HB.out) | (with_reducible refine Kd.C_alloc ?_ _) | (with_reducible refine Kd.C_drewN ?_ _) | (with_reducible refine Kd.C_drew ?_))); (case side2 => exact HC0_0.out); rintro e w88 ⟨rfl, hb⟩; have n0_ := Aside0.mk (blk_below (g := gb492) (o := .cells #[.slice A0_0 l0_0.length c0_0] 24 (0, 0)) (by (with_reducible repeat first | apply bn | apply bd | apply ba); exact BK492.out) hb); have n1_ := Aside0.mk (below_step (by repeat with_reducible first | exact HB.out | apply below_alloc | apply pw_below_drewN | apply below_drew1 | refine below_set ?_ GE492.out) hb); clear BK492; clear HB; have BK492 := n0_; have HB := n1_; clear n0_ n1_; (try clear hb); (try clear hb2); (try clear hk); (try clear hi)))
      go_meet
      case rel => exact ⟨_, (false), (by first | rfl | (simp; done) | (simp [*]; done)), H', ⟨by first | omega | exact Nat.le_refl _⟩, ⟨by (with_reducible repeat first | apply bn | apply bd | apply ba); exact BK492.out⟩, ⟨by repeat with_reducible first | exact HB.out | apply below_alloc | apply pw_below_drewN | apply below_drew1 | refine below_set ?_ GE492.out⟩⟩
  case rest =>
   clear HC7
   try clear c1
   try clear c2
   try clear p2
   try clear c4
   try clear c5
   try clear c6
   try clear c6b0
   try clear c6b1
   try clear c7
   try clear c12
   try clear c14
   try clear c16
   try clear c17
   try clear c17b0
   try clear c17b1
   try clear c25
   try clear c51
   try clear c51b0
   try clear c51b1
   try clear c57
   try clear c73
   try clear c73b0
   try clear c73b1
   try clear c77
   try clear hcz18_0
   try clear hcz20_0
   try clear hcz22_0
   try clear hcz27_0
   try clear hcz29_0
   try clear hcz31_0
   try clear hcz33_0
   try clear hcz35_0
   try clear hcz37_0
   try clear hcz39_0
   try clear hcz41_0
   try clear hcz43_0
   try clear hcz45_0
   try clear hcz47_0
   try clear hcz49_0
   try clear hcz52_0
   try clear hcz54_0
   try clear hcz59_0
   try clear hcz61_0
   try clear hcz63_0
   try clear hcz65_0
   try clear hcz67_0
   try clear hcz69_0
   try clear hcz71_0
   try clear hcz74_0
   try clear hcz79_0
   try clear hcz81_0
   try clear hcz83_0
   try clear hcz85_0
   try clear hcz87_0
   try clear hcz9_0
   try clear hfz18_0
   try clear hfz20_0
   try clear hfz22_0
   try clear hfz27_0
   try clear hfz29_0
   try clear hfz31_0
   try clear hfz33_0
   try clear hfz35_0
   try clear hfz37_0
   try clear hfz39_0
   try clear hfz41_0
   try clear hfz43_0
   try clear hfz45_0
   try clear hfz47_0
   try clear hfz49_0
   try clear hfz52_0
   try clear hfz54_0
   try clear hfz59_0
   try clear hfz61_0
   try clear hfz63_0
   try clear hfz65_0
   try clear hfz67_0
   try clear hfz69_0
   try clear hfz71_0
   try clear hfz74_0
   try clear hfz79_0
   try clear hfz81_0
   try clear hfz83_0
   try clear hfz85_0
   try clear hfz87_0
   try clear hfz9_0
   obtain ⟨kq, x53_6, rfl, HA, HJ6, BK492, HB⟩ := hcut
   cases kq with
   | zero => exact absurd HA.out (by simp [dataflowlaw10_HierOrder.j0])
   | succ kj6 =>
    have H := HA.out
    clear HA
    simp only [dataflowlaw10_HierOrder.j0] at H
    by_cases c89 : x53_6 = true
    ·subst c89
     have H1 : (some false) = some r := by rw [if_pos rfl] at H; exact H
     clear H
     have H := H1
     clear H1
     obtain rfl := Option.some.inj H
     go_wp2
     go_ret
     exact ⟨by first | rfl | (simp [errW_none, errW_some] <;> rfl) | (simp [*, errW_none, errW_some] <;> rfl), by repeat with_reducible first | exact HB.out | apply below_alloc | apply pw_below_drewN | apply below_drew1 | refine below_set ?_ GE492.out⟩
    ·replace c89 := Bool.eq_false_iff.mpr c89
     subst c89
     have H1 : ((hier_IsSub.f kj6 l0_0 a1 a1).bind fun t505 => ((hier_Find.f kj6 l0_0 a1).bind fun t506 => (if (t505 != (decide (t506 ≥ 0))) = true then (dataflowlaw10_HierOrder.j1 kj6 a1 true l0_0) else ((hier_IsSub.f kj6 l0_0 a1 a2).bind fun t507 => ((hier_Subs.f kj6 l0_0 a2).bind fun t508 => ((dataflowlaw10_has.f kj6 t508 a1).bind fun t511 => (dataflowlaw10_HierOrder.j1 kj6 a1 (t507 != t511) l0_0))))))) = some r := by rw [if_neg (show ¬ (false = true) by decide)] at H; exact H
     clear H
     have H := H1
     clear H1
     have HC90 := Aside0.mk H
     clear H
     go_upto_region 6 with (fail)
     go_cut [74] (fun v74 wc => ∃ (kq : Nat) (x74_89 : Bool), v74 = .bool x74_89 ∧ Aside0 (dataflowlaw10_HierOrder.j1 kq a1 x74_89 l0_0 = some r) ∧ Aside0 (kq ≤ kj6) ∧ Aside0 (wc.heap[gb492]? = some (.cells #[(.slice A0_0 l0_0.length c0_0)] 24 (0, 0))) ∧ Aside0 (Below w.heap.size w wc))
     case first =>
      have H := HC90.out
      clear HC90
      replace H := Option.bind_eq_some_iff.mp H
      obtain ⟨t505, A910, H⟩ := H
      replace H : ((hier_Find.f kj6 l0_0 a1).bind fun t506 => (if (t505 != (decide (t506 ≥ 0))) = true then (dataflowlaw10_HierOrder.j1 kj6 a1 true l0_0) else ((hier_IsSub.f kj6 l0_0 a1 a2).bind fun t507 => ((hier_Subs.f kj6 l0_0 a2).bind fun t508 => ((dataflowlaw10_has.f kj6 t508 a1).bind fun t511 => (dataflowlaw10_HierOrder.j1 kj6 a1 (t507 != t511) l0_0)))))) = some r := H
      have A91 := Aside0.mk A910
      clear A910
      replace H := Option.bind_eq_some_iff.mp H
      obtain ⟨t506, A920, H⟩ := H
      replace H : (if (t505 != (decide (t506 ≥ 0))) = true then (dataflowlaw10_HierOrder.j1 kj6 a1 true l0_0) else ((hier_IsSub.f kj6 l0_0 a1 a2).bind fun t507 => ((hier_Subs.f kj6 l0_0 a2).bind fun t508 => ((dataflowlaw10_has.f kj6 t508 a1).bind fun t511 => (dataflowlaw10_HierOrder.j1 kj6 a1 (t507 != t511) l0_0))))) = some r := H
      have A92 := Aside0.mk A920
      clear A920
      by_cases c93 : (t505 != (decide (t506 ≥ 0))) = true
      ·rw [if_pos c93] at H
       have c93b0 : (t505 != (decide (t506 ≥ 0))) = true := c93
       (try (have c93b1 : decide (t505 = (decide (t506 ≥ 0))) = false := by simpa using c93))
       (try (have c93b2 : (t505 == (decide (t506 ≥ 0))) = false := by simpa using c93))
       (try (have c93b3 : ¬ (t505 = (decide (t506 ≥ 0))) := by simpa using c93))
       clear c93
       (first | rw [c93b0] | (simp only [i64_w, i32_w]; rw [c93b0]) | skip)
       have H' := Aside0.mk H
       clear H
       try go_wp2
       have n0_ := Aside0.mk (blk_drew BK492.out)
       have n1_ := Aside0.mk (below_drew1 HB.out)
       clear BK492
       clear HB
       have BK492 := n0_
       have HB := n1_
       clear n0_ n1_
       refine start_ (n := 21) (S := fun w' => w'.cell? ⟨gb492, 0, none⟩ = some (.slice A0_0 l0_0.length c0_0)) (ds := []) #[false, false, false, false, false, false, false, false, false, false, false, false, false, false, false, false, false, false, false, false, false] (by kernel_rfl) rfl rfl ((blk_cell BK492.out 0).trans rfl) (fun hHeld => ?_); refine with_tabW dataflowlaw10_HierOrder.tab6 dataflowlaw10_HierOrder.bits6 (fun HT_ HW_ => ?_)
       generalize wc.drew = w94 at BK492 HB hHeld ⊢
       refine pure_ (i := 1) (N := some 55) (v := ?_) (a' := ?_) #[false, true, false, false, false, false, false, false, false, false, false, false, false, false, false, false, false, false, false, false, false] rfl rfl (any_of HT_.out (by kernel_rfl)) (fun _ _ _ h => h) (Or.inl ⟨by rfl, ?_⟩) ?_ ?_
       rotate_left
       ·intro w'
        go_simp
        with_reducible rfl
       rotate_left
       ·simp only [Act.put, List.setIfInBounds_toArray, List.set_cons_zero, List.set_cons_succ, i64_w]
        rfl
       refine pure_ (i := 2) (N := some 56) (v := ?_) (a' := ?_) #[false, true, true, false, false, false, false, false, false, false, false, false, false, false, false, false, false, false, false, false, false] rfl rfl (any_of HT_.out (by kernel_rfl)) (fun _ _ _ h => h) (Or.inl ⟨by rfl, ?_⟩) ?_ ?_
       rotate_left
       ·intro w'
        go_simp
        with_reducible rfl
       rotate_left
       ·simp only [Act.put, List.setIfInBounds_toArray, List.set_cons_zero, List.set_cons_succ, i64_w]
        rfl
       refine pure_ (i := 5) (N := some 59) (v := ?_) (a' := ?_) #[false, true, true, false, false, true, false, false, false, false, false, false, false, false, false, false, false, false, false, false, false] rfl rfl (any_of HT_.out (by kernel_rfl)) (fun _ _ _ h => h) (Or.inl ⟨by rfl, ?_⟩) ?_ ?_
       rotate_left
       ·intro w'
        go_simp
        with_reducible rfl
       rotate_left
       ·simp only [Act.put, List.setIfInBounds_toArray, List.set_cons_zero, List.set_cons_succ, i64_w]
        rfl
       refine take_ (i := 0) (N := some 54) (v := ?_) (a' := ?_) #[true, true, true, false, false, true, false, false, false, false, false, false, false, false, false, false, false, false, false, false, false] rfl rfl (take_ofW HT_.out HW_.out (by kernel_rfl)) (fun _ _ _ h => h) (Or.inl ⟨by rfl, ?_⟩) hHeld ?_ ?_
       rotate_left
       ·intro w' s0
        go_simp
        with_reducible rfl
       rotate_left
       ·simp only [Act.put, List.setIfInBounds_toArray, List.set_cons_zero, List.set_cons_succ, i64_w]
        rfl
       refine take_ (i := 4) (N := some 58) (v := ?_) (a' := ?_) #[true, true, true, false, true, true, false, false, false, false, false, false, false, false, false, false, false, false, false, false, false] rfl rfl (take_ofW HT_.out HW_.out (by kernel_rfl)) (fun _ _ _ h => h) (Or.inl ⟨by rfl, ?_⟩) hHeld ?_ ?_
       rotate_left
       ·intro w' s0
        go_simp
        with_reducible rfl
       rotate_left
       ·simp only [Act.put, List.setIfInBounds_toArray, List.set_cons_zero, List.set_cons_succ, i64_w]
        rfl
       refine one_ (i := 3) (N := some 57) #[true, true, true, true, true, true, false, false, false, false, false, false, false, false, false, false, false, false, false, false, false] rfl rfl (one_of HT_.out (by kernel_rfl)) (by decide) (fun K hK => ?_)
       refine goes_ Tryd.func14 (by kernel_rfl) rfl #[.agg #[.slice A0_0 l0_0.length c0_0], .string a1, .string a1] (by rfl) rfl rfl (by (try simp only [List.map_toArray, List.map_cons, List.map_nil]); first | done | rfl) ?_
       with_reducible refine (hier_IsSub.calls kj6 _ _ l0_0 a1 a1 t505 _ ?side1 ?side2 A91.out).mono ?_
       (case side1 => repeat (first | exact (Kd.C_below HR0_0.out HB.out) | (with_reducible refine Kd.C_alloc ?_ _) | (with_reducible refine Kd.C_drewN ?_ _) | (with_reducible refine Kd.C_drew ?_)))
       (case side2 => exact HC0_0.out)
       rintro e w95 ⟨rfl, hb⟩
       refine ⟨_, rfl, ?_⟩
       have n0_ := Aside0.mk (blk_below (g := gb492) (o := .cells #[.slice A0_0 l0_0.length c0_0] 24 (0, 0)) (by (with_reducible repeat first | apply bn | apply bd | apply ba); exact BK492.out) hb)
       have n1_ := Aside0.mk (below_step (by repeat with_reducible first | exact HB.out | apply below_alloc | apply pw_below_drewN | apply below_drew1 | refine below_set ?_ GE492.out) hb)
       clear BK492
       clear HB
       have BK492 := n0_
       have HB := n1_
       clear n0_ n1_
       (try clear hb)
       (try clear hb2)
       (try clear hk)
       (try clear hi)
       refine hK.out _ _ ((blk_cell BK492.out 0).trans rfl) (fun hHeld => ?_)
       clear hK K
       refine norm_ (a' := ?_) ?_ ?_
       rotate_left
       ·show Act.put _ (some 57) _ = _
        simp only [Act.put, List.setIfInBounds_toArray, List.set_cons_zero, List.set_cons_succ, i64_w]
        rfl
       refine one_ (i := 6) (N := some 60) #[true, true, true, true, true, true, true, false, false, false, false, false, false, false, false, false, false, false, false, false, false] rfl rfl (one_of HT_.out (by kernel_rfl)) (by decide) (fun K hK => ?_)
       refine goes_ Tryd.func15 (by kernel_rfl) rfl #[.agg #[.slice A0_0 l0_0.length c0_0], .string a1] (by rfl) rfl rfl (by (try simp only [List.map_toArray, List.map_cons, List.map_nil]); first | done | rfl) ?_
       with_reducible refine (hier_Find.calls kj6 _ _ l0_0 a1 t506 _ ?side1 ?side2 A92.out).mono ?_
       (case side1 => repeat (first | exact (Kd.C_below HR0_0.out HB.out) | (with_reducible refine Kd.C_alloc ?_ _) | (with_reducible refine Kd.C_drewN ?_ _) | (with_reducible refine Kd.C_drew ?_)))
       (case side2 => exact HC0_0.out)
       rintro e w96 ⟨rfl, hb⟩
       refine ⟨_, rfl, ?_⟩
       have n0_ := Aside0.mk (blk_below (g := gb492) (o := .cells #[.slice A0_0 l0_0.length c0_0] 24 (0, 0)) (by (with_reducible repeat first | apply bn | apply bd | apply ba); exact BK492.out) hb)
       have n1_ := Aside0.mk (below_step (by repeat with_reducible first | exact HB.out | apply below_alloc | apply pw_below_drewN | apply below_drew1 | refine below_set ?_ GE492.out) hb)
       clear BK492
       clear HB
       have BK492 := n0_
       have HB := n1_
       clear n0_ n1_
       (try clear hb)
       (try clear hb2)
       (try clear hk)
       (try clear hi)
       refine hK.out _ _ ((blk_cell BK492.out 0).trans rfl) (fun hHeld => ?_)
       clear hK K
       refine norm_ (a' := ?_) ?_ ?_
       rotate_left
       ·show Act.put _ (some 60) _ = _
        simp only [Act.put, List.setIfInBounds_toArray, List.set_cons_zero, List.set_cons_succ, i64_w]
        rfl
       refine pure_ (i := 7) (N := some 61) (v := ?_) (a' := ?_) #[true, true, true, true, true, true, true, true, false, false, false, false, false, false, false, false, false, false, false, false, false] rfl rfl (any_of HT_.out (by kernel_rfl)) (fun _ _ _ h => h) (Or.inl ⟨by rfl, ?_⟩) ?_ ?_
       rotate_left
       ·intro w'
        go_simp
        with_reducible rfl
       rotate_left
       ·simp only [Act.put, List.setIfInBounds_toArray, List.set_cons_zero, List.set_cons_succ, i64_w]
        rfl
       refine pure_ (i := 8) (N := some 62) (v := ?_) (a' := ?_) #[true, true, true, true, true, true, true, true, true, false, false, false, false, false, false, false, false, false, false, false, false] rfl rfl (any_of HT_.out (by kernel_rfl)) (fun _ _ _ h => h) (Or.inl ⟨by rfl, ?_⟩) ?_ ?_
       rotate_left
       ·intro w'
        go_simp
        with_reducible rfl
       rotate_left
       ·simp only [Act.put, List.setIfInBounds_toArray, List.set_cons_zero, List.set_cons_succ, i64_w]
        rfl
       refine pure_ (i := 9) (N := some 63) (v := ?_) (a' := ?_) #[true, true, true, true, true, true, true, true, true, true, false, false, false, false, false, false, false, false, false, false, false] rfl rfl (any_of HT_.out (by kernel_rfl)) (fun _ _ _ h => h) (Or.inl ⟨by rfl, ?_⟩) ?_ ?_
       rotate_left
       ·intro w'
        go_simp
        with_reducible rfl
       rotate_left
       ·simp only [Act.put, List.setIfInBounds_toArray, List.set_cons_zero, List.set_cons_succ, i64_w]
        rfl
       refine pure_ (i := 10) (N := some 64) (v := undef) (a' := ?_) #[true, true, true, true, true, true, true, true, true, true, true, false, false, false, false, false, false, false, false, false, false] rfl rfl (any_of HT_.out (by kernel_rfl)) (fun _ _ _ h => h) (Or.inr ⟨by rfl, rfl⟩) ?_ ?_
       rotate_left
       ·simp only [Act.put, List.setIfInBounds_toArray, List.set_cons_zero, List.set_cons_succ, i64_w]
        rfl
       refine pure_ (i := 11) (N := some 65) (v := undef) (a' := ?_) #[true, true, true, true, true, true, true, true, true, true, true, true, false, false, false, false, false, false, false, false, false] rfl rfl (any_of HT_.out (by kernel_rfl)) (fun _ _ _ h => h) (Or.inr ⟨by rfl, rfl⟩) ?_ ?_
       rotate_left
       ·simp only [Act.put, List.setIfInBounds_toArray, List.set_cons_zero, List.set_cons_succ, i64_w]
        rfl
       refine pure_ (i := 12) (N := some 66) (v := undef) (a' := ?_) #[true, true, true, true, true, true, true, true, true, true, true, true, true, false, false, false, false, false, false, false, false] rfl rfl (any_of HT_.out (by kernel_rfl)) (fun _ _ _ h => h) (Or.inr ⟨by rfl, rfl⟩) ?_ ?_
       rotate_left
       ·simp only [Act.put, List.setIfInBounds_toArray, List.set_cons_zero, List.set_cons_succ, i64_w]
        rfl
       refine pure_ (i := 13) (N := some 67) (v := undef) (a' := ?_) #[true, true, true, true, true, true, true, true, true, true, true, true, true, true, false, false, false, false, false, false, false] rfl rfl (any_of HT_.out (by kernel_rfl)) (fun _ _ _ h => h) (Or.inr ⟨by rfl, rfl⟩) ?_ ?_
       rotate_left
       ·simp only [Act.put, List.setIfInBounds_toArray, List.set_cons_zero, List.set_cons_succ, i64_w]
        rfl
       refine pure_ (i := 14) (N := some 68) (v := undef) (a' := ?_) #[true, true, true, true, true, true, true, true, true, true, true, true, true, true, true, false, false, false, false, false, false] rfl rfl (any_of HT_.out (by kernel_rfl)) (fun _ _ _ h => h) (Or.inr ⟨by rfl, rfl⟩) ?_ ?_
       rotate_left
       ·simp only [Act.put, List.setIfInBounds_toArray, List.set_cons_zero, List.set_cons_succ, i64_w]
        rfl
       refine pure_ (i := 15) (N := some 69) (v := undef) (a' := ?_) #[true, true, true, true, true, true, true, true, true, true, true, true, true, true, true, true, false, false, false, false, false] rfl rfl (any_of HT_.out (by kernel_rfl)) (fun _ _ _ h => h) (Or.inr ⟨by rfl, rfl⟩) ?_ ?_
       rotate_left
       ·simp only [Act.put, List.setIfInBounds_toArray, List.set_cons_zero, List.set_cons_succ, i64_w]
        rfl
       refine pure_ (i := 16) (N := some 70) (v := undef) (a' := ?_) #[true, true, true, true, true, true, true, true, true, true, true, true, true, true, true, true, true, false, false, false, false] rfl rfl (any_of HT_.out (by kernel_rfl)) (fun _ _ _ h => h) (Or.inr ⟨by rfl, rfl⟩) ?_ ?_
       rotate_left
       ·simp only [Act.put, List.setIfInBounds_toArray, List.set_cons_zero, List.set_cons_succ, i64_w]
        rfl
       refine pure_ (i := 17) (N := some 71) (v := undef) (a' := ?_) #[true, true, true, true, true, true, true, true, true, true, true, true, true, true, true, true, true, true, false, false, false] rfl rfl (any_of HT_.out (by kernel_rfl)) (fun _ _ _ h => h) (Or.inr ⟨by rfl, rfl⟩) ?_ ?_
       rotate_left
       ·simp only [Act.put, List.setIfInBounds_toArray, List.set_cons_zero, List.set_cons_succ, i64_w]
        rfl
       refine pure_ (i := 18) (N := some 72) (v := undef) (a' := ?_) #[true, true, true, true, true, true, true, true, true, true, true, true, true, true, true, true, true, true, true, false, false] rfl rfl (any_of HT_.out (by kernel_rfl)) (fun _ _ _ h => h) (Or.inr ⟨by rfl, rfl⟩) ?_ ?_
       rotate_left
       ·simp only [Act.put, List.setIfInBounds_toArray, List.set_cons_zero, List.set_cons_succ, i64_w]
        rfl
       refine pure_ (i := 19) (N := some 73) (v := undef) (a' := ?_) #[true, true, true, true, true, true, true, true, true, true, true, true, true, true, true, true, true, true, true, true, false] rfl rfl (any_of HT_.out (by kernel_rfl)) (fun _ _ _ h => h) (Or.inr ⟨by rfl, rfl⟩) ?_ ?_
       rotate_left
       ·simp only [Act.put, List.setIfInBounds_toArray, List.set_cons_zero, List.set_cons_succ, i64_w]
        rfl
       refine pure_ (i := 20) (N := some 74) (v := ?_) (a' := ?_) #[true, true, true, true, true, true, true, true, true, true, true, true, true, true, true, true, true, true, true, true, true] rfl rfl (any_of HT_.out (by kernel_rfl)) (fun _ _ _ h => h) (Or.inl ⟨by rfl, ?_⟩) ?_ ?_
       rotate_left
       ·intro w'
        go_simp
        with_reducible rfl
       rotate_left
       ·simp only [Act.put, List.setIfInBounds_toArray, List.set_cons_zero, List.set_cons_succ, i64_w]
        rfl
       refine done_ (done_of HT_.out (by kernel_rfl)) ?_
       try go_wp2
       go_meet
       case rel => exact ⟨_, (true), (by first | rfl | (simp; done) | (simp [*]; done)), H', ⟨by have := HJ6.out; first | omega | exact Nat.le_refl _⟩, ⟨by (with_reducible repeat first | apply bn | apply bd | apply ba); exact BK492.out⟩, ⟨by repeat with_reducible first | exact HB.out | apply below_alloc | apply pw_below_drewN | apply below_drew1 | refine below_set ?_ GE492.out⟩⟩
      ·rw [if_neg c93] at H
       have c93b0 : (t505 != (decide (t506 ≥ 0))) = false := by simpa using c93
       (try (have c93b1 : decide (t505 = (decide (t506 ≥ 0))) = true := by simpa using c93))
       (try (have c93b2 : (t505 == (decide (t506 ≥ 0))) = true := by simpa using c93))
       clear c93
       (first | rw [c93b0] | (simp only [i64_w, i32_w]; rw [c93b0]) | skip)
       replace H := Option.bind_eq_some_iff.mp H
       obtain ⟨t507, A970, H⟩ := H
       replace H : ((hier_Subs.f kj6 l0_0 a2).bind fun t508 => ((dataflowlaw10_has.f kj6 t508 a1).bind fun t511 => (dataflowlaw10_HierOrder.j1 kj6 a1 (t507 != t511) l0_0))) = some r := H
       have A97 := Aside0.mk A970
       clear A970
       replace H := Option.bind_eq_some_iff.mp H
       obtain ⟨t508, A980, H⟩ := H
       replace H : ((dataflowlaw10_has.f kj6 t508 a1).bind fun t511 => (dataflowlaw10_HierOrder.j1 kj6 a1 (t507 != t511) l0_0)) = some r := H
       have A98 := Aside0.mk A980
       clear A980
       replace H := Option.bind_eq_some_iff.mp H
       obtain ⟨t511, A990, H⟩ := H
       replace H : (dataflowlaw10_HierOrder.j1 kj6 a1 (t507 != t511) l0_0) = some r := H
       have A99 := Aside0.mk A990
       clear A990
       have H' := Aside0.mk H
       clear H
       try go_wp2
       have n0_ := Aside0.mk (blk_drew BK492.out)
       have n1_ := Aside0.mk (below_drew1 HB.out)
       clear BK492
       clear HB
       have BK492 := n0_
       have HB := n1_
       clear n0_ n1_
       refine start_ (n := 21) (S := fun w' => w'.cell? ⟨gb492, 0, none⟩ = some (.slice A0_0 l0_0.length c0_0)) (ds := []) #[false, false, false, false, false, false, false, false, false, false, false, false, false, false, false, false, false, false, false, false, false] (by kernel_rfl) rfl rfl ((blk_cell BK492.out 0).trans rfl) (fun hHeld => ?_); refine with_tabW dataflowlaw10_HierOrder.tab6 dataflowlaw10_HierOrder.bits6 (fun HT_ HW_ => ?_)
       generalize wc.drew = w100 at BK492 HB hHeld ⊢
       refine pure_ (i := 1) (N := some 55) (v := ?_) (a' := ?_) #[false, true, false, false, false, false, false, false, false, false, false, false, false, false, false, false, false, false, false, false, false] rfl rfl (any_of HT_.out (by kernel_rfl)) (fun _ _ _ h => h) (Or.inl ⟨by rfl, ?_⟩) ?_ ?_
       rotate_left
       ·intro w'
        go_simp
        with_reducible rfl
       rotate_left
       ·simp only [Act.put, List.setIfInBounds_toArray, List.set_cons_zero, List.set_cons_succ, i64_w]
        rfl
       refine pure_ (i := 2) (N := some 56) (v := ?_) (a' := ?_) #[false, true, true, false, false, false, false, false, false, false, false, false, false, false, false, false, false, false, false, false, false] rfl rfl (any_of HT_.out (by kernel_rfl)) (fun _ _ _ h => h) (Or.inl ⟨by rfl, ?_⟩) ?_ ?_
       rotate_left
       ·intro w'
        go_simp
        with_reducible rfl
       rotate_left
       ·simp only [Act.put, List.setIfInBounds_toArray, List.set_cons_zero, List.set_cons_succ, i64_w]
        rfl
       refine pure_ (i := 5) (N := some 59) (v := ?_) (a' := ?_) #[false, true, true, false, false, true, false, false, false, false, false, false, false, false, false, false, false, false, false, false, false] rfl rfl (any_of HT_.out (by kernel_rfl)) (fun _ _ _ h => h) (Or.inl ⟨by rfl, ?_⟩) ?_ ?_
       rotate_left
       ·intro w'
        go_simp
        with_reducible rfl
       rotate_left
       ·simp only [Act.put, List.setIfInBounds_toArray, List.set_cons_zero, List.set_cons_succ, i64_w]
        rfl
       refine take_ (i := 0) (N := some 54) (v := ?_) (a' := ?_) #[true, true, true, false, false, true, false, false, false, false, false, false, false, false, false, false, false, false, false, false, false] rfl rfl (take_ofW HT_.out HW_.out (by kernel_rfl)) (fun _ _ _ h => h) (Or.inl ⟨by rfl, ?_⟩) hHeld ?_ ?_
       rotate_left
       ·intro w' s0
        go_simp
        with_reducible rfl
       rotate_left
       ·simp only [Act.put, List.setIfInBounds_toArray, List.set_cons_zero, List.set_cons_succ, i64_w]
        rfl
       refine take_ (i := 4) (N := some 58) (v := ?_) (a' := ?_) #[true, true, true, false, true, true, false, false, false, false, false, false, false, false, false, false, false, false, false, false, false] rfl rfl (take_ofW HT_.out HW_.out (by kernel_rfl)) (fun _ _ _ h => h) (Or.inl ⟨by rfl, ?_⟩) hHeld ?_ ?_
       rotate_left
       ·intro w' s0
        go_simp
        with_reducible rfl
       rotate_left
       ·simp only [Act.put, List.setIfInBounds_toArray, List.set_cons_zero, List.set_cons_succ, i64_w]
        rfl
       refine one_ (i := 3) (N := some 57) #[true, true, true, true, true, true, false, false, false, false, false, false, false, false, false, false, false, false, false, false, false] rfl rfl (one_of HT_.out (by kernel_rfl)) (by decide) (fun K hK => ?_)
       refine goes_ Tryd.func14 (by kernel_rfl) rfl #[.agg #[.slice A0_0 l0_0.length c0_0], .string a1, .string a1] (by rfl) rfl rfl (by (try simp only [List.map_toArray, List.map_cons, List.map_nil]); first | done | rfl) ?_
       with_reducible refine (hier_IsSub.calls kj6 _ _ l0_0 a1 a1 t505 _ ?side1 ?side2 A91.out).mono ?_
       (case side1 => repeat (first | exact (Kd.C_below HR0_0.out HB.out) | (with_reducible refine Kd.C_alloc ?_ _) | (with_reducible refine Kd.C_drewN ?_ _) | (with_reducible refine Kd.C_drew ?_)))
       (case side2 => exact HC0_0.out)
       rintro e w101 ⟨rfl, hb⟩
       refine ⟨_, rfl, ?_⟩
       have n0_ := Aside0.mk (blk_below (g := gb492) (o := .cells #[.slice A0_0 l0_0.length c0_0] 24 (0, 0)) (by (with_reducible repeat first | apply bn | apply bd | apply ba); exact BK492.out) hb)
       have n1_ := Aside0.mk (below_step (by repeat with_reducible first | exact HB.out | apply below_alloc | apply pw_below_drewN | apply below_drew1 | refine below_set ?_ GE492.out) hb)
       clear BK492
       clear HB
       have BK492 := n0_
       have HB := n1_
       clear n0_ n1_
       (try clear hb)
       (try clear hb2)
       (try clear hk)
       (try clear hi)
       refine hK.out _ _ ((blk_cell BK492.out 0).trans rfl) (fun hHeld => ?_)
       clear hK K
       refine norm_ (a' := ?_) ?_ ?_
       rotate_left
       ·show Act.put _ (some 57) _ = _
        simp only [Act.put, List.setIfInBounds_toArray, List.set_cons_zero, List.set_cons_succ, i64_w]
        rfl
       refine one_ (i := 6) (N := some 60) #[true, true, true, true, true, true, true, false, false, false, false, false, false, false, false, false, false, false, false, false, false] rfl rfl (one_of HT_.out (by kernel_rfl)) (by decide) (fun K hK => ?_)
       refine goes_ Tryd.func15 (by kernel_rfl) rfl #[.agg #[.slice A0_0 l0_0.length c0_0], .string a1] (by rfl) rfl rfl (by (try simp only [List.map_toArray, List.map_cons, List.map_nil]); first | done | rfl) ?_
       with_reducible refine (hier_Find.calls kj6 _ _ l0_0 a1 t506 _ ?side1 ?side2 A92.out).mono ?_
       (case side1 => repeat (first | exact (Kd.C_below HR0_0.out HB.out) | (with_reducible refine Kd.C_alloc ?_ _) | (with_reducible refine Kd.C_drewN ?_ _) | (with_reducible refine Kd.C_drew ?_)))
       (case side2 => exact HC0_0.out)
       rintro e w102 ⟨rfl, hb⟩
       refine ⟨_, rfl, ?_⟩
       have n0_ := Aside0.mk (blk_below (g := gb492) (o := .cells #[.slice A0_0 l0_0.length c0_0] 24 (0, 0)) (by (with_reducible repeat first | apply bn | apply bd | apply ba); exact BK492.out) hb)
       have n1_ := Aside0.mk (below_step (by repeat with_reducible first | exact HB.out | apply below_alloc | apply pw_below_drewN | apply below_drew1 | refine below_set ?_ GE492.out) hb)
       clear BK492
       clear HB
       have BK492 := n0_
       have HB := n1_
       clear n0_ n1_
       (try clear hb)
       (try clear hb2)
       (try clear hk)
       (try clear hi)
       refine hK.out _ _ ((blk_cell BK492.out 0).trans rfl) (fun hHeld => ?_)
       clear hK K
       refine norm_ (a' := ?_) ?_ ?_
       rotate_left
       ·show Act.put _ (some 60) _ = _
        simp only [Act.put, List.setIfInBounds_toArray, List.set_cons_zero, List.set_cons_succ, i64_w]
        rfl
       refine pure_ (i := 7) (N := some 61) (v := ?_) (a' := ?_) #[true, true, true, true, true, true, true, true, false, false, false, false, false, false, false, false, false, false, false, false, false] rfl rfl (any_of HT_.out (by kernel_rfl)) (fun _ _ _ h => h) (Or.inl ⟨by rfl, ?_⟩) ?_ ?_
       rotate_left
       ·intro w'
        go_simp
        with_reducible rfl
       rotate_left
       ·simp only [Act.put, List.setIfInBounds_toArray, List.set_cons_zero, List.set_cons_succ, i64_w]
        rfl
       refine pure_ (i := 8) (N := some 62) (v := ?_) (a' := ?_) #[true, true, true, true, true, true, true, true, true, false, false, false, false, false, false, false, false, false, false, false, false] rfl rfl (any_of HT_.out (by kernel_rfl)) (fun _ _ _ h => h) (Or.inl ⟨by rfl, ?_⟩) ?_ ?_
       rotate_left
       ·intro w'
        go_simp
        with_reducible rfl
       rotate_left
       ·simp only [Act.put, List.setIfInBounds_toArray, List.set_cons_zero, List.set_cons_succ, i64_w]
        rfl
       refine pure_ (i := 9) (N := some 63) (v := ?_) (a' := ?_) #[true, true, true, true, true, true, true, true, true, true, false, false, false, false, false, false, false, false, false, false, false] rfl rfl (any_of HT_.out (by kernel_rfl)) (fun _ _ _ h => h) (Or.inl ⟨by rfl, ?_⟩) ?_ ?_
       rotate_left
       ·intro w'
        go_simp
        with_reducible rfl
       rotate_left
       ·simp only [Act.put, List.setIfInBounds_toArray, List.set_cons_zero, List.set_cons_succ, i64_w]
        rfl
       refine pure_ (i := 11) (N := some 65) (v := ?_) (a' := ?_) #[true, true, true, true, true, true, true, true, true, true, false, true, false, false, false, false, false, false, false, false, false] rfl rfl (any_of HT_.out (by kernel_rfl)) (fun _ _ _ h => h) (Or.inl ⟨by rfl, ?_⟩) ?_ ?_
       rotate_left
       ·intro w'
        go_simp
        with_reducible rfl
       rotate_left
       ·simp only [Act.put, List.setIfInBounds_toArray, List.set_cons_zero, List.set_cons_succ, i64_w]
        rfl
       refine pure_ (i := 12) (N := some 66) (v := ?_) (a' := ?_) #[true, true, true, true, true, true, true, true, true, true, false, true, true, false, false, false, false, false, false, false, false] rfl rfl (any_of HT_.out (by kernel_rfl)) (fun _ _ _ h => h) (Or.inl ⟨by rfl, ?_⟩) ?_ ?_
       rotate_left
       ·intro w'
        go_simp
        with_reducible rfl
       rotate_left
       ·simp only [Act.put, List.setIfInBounds_toArray, List.set_cons_zero, List.set_cons_succ, i64_w]
        rfl
       refine pure_ (i := 15) (N := some 69) (v := ?_) (a' := ?_) #[true, true, true, true, true, true, true, true, true, true, false, true, true, false, false, true, false, false, false, false, false] rfl rfl (any_of HT_.out (by kernel_rfl)) (fun _ _ _ h => h) (Or.inl ⟨by rfl, ?_⟩) ?_ ?_
       rotate_left
       ·intro w'
        go_simp
        with_reducible rfl
       rotate_left
       ·simp only [Act.put, List.setIfInBounds_toArray, List.set_cons_zero, List.set_cons_succ, i64_w]
        rfl
       refine pure_ (i := 17) (N := some 71) (v := ?_) (a' := ?_) #[true, true, true, true, true, true, true, true, true, true, false, true, true, false, false, true, false, true, false, false, false] rfl rfl (any_of HT_.out (by kernel_rfl)) (fun _ _ _ h => h) (Or.inl ⟨by rfl, ?_⟩) ?_ ?_
       rotate_left
       ·intro w'
        go_simp
        with_reducible rfl
       rotate_left
       ·simp only [Act.put, List.setIfInBounds_toArray, List.set_cons_zero, List.set_cons_succ, i64_w]
        rfl
       refine take_ (i := 10) (N := some 64) (v := ?_) (a' := ?_) #[true, true, true, true, true, true, true, true, true, true, true, true, true, false, false, true, false, true, false, false, false] rfl rfl (take_ofW HT_.out HW_.out (by kernel_rfl)) (fun _ _ _ h => h) (Or.inl ⟨by rfl, ?_⟩) hHeld ?_ ?_
       rotate_left
       ·intro w' s0
        go_simp
        with_reducible rfl
       rotate_left
       ·simp only [Act.put, List.setIfInBounds_toArray, List.set_cons_zero, List.set_cons_succ, i64_w]
        rfl
       refine take_ (i := 14) (N := some 68) (v := ?_) (a' := ?_) #[true, true, true, true, true, true, true, true, true, true, true, true, true, false, true, true, false, true, false, false, false] rfl rfl (take_ofW HT_.out HW_.out (by kernel_rfl)) (fun _ _ _ h => h) (Or.inl ⟨by rfl, ?_⟩) hHeld ?_ ?_
       rotate_left
       ·intro w' s0
        go_simp
        with_reducible rfl
       rotate_left
       ·simp only [Act.put, List.setIfInBounds_toArray, List.set_cons_zero, List.set_cons_succ, i64_w]
        rfl
       refine one_ (i := 13) (N := some 67) #[true, true, true, true, true, true, true, true, true, true, true, true, true, true, true, true, false, true, false, false, false] rfl rfl (one_of HT_.out (by kernel_rfl)) (by decide) (fun K hK => ?_)
       refine goes_ Tryd.func14 (by kernel_rfl) rfl #[.agg #[.slice A0_0 l0_0.length c0_0], .string a1, .string a2] (by rfl) rfl rfl (by (try simp only [List.map_toArray, List.map_cons, List.map_nil]); first | done | rfl) ?_
       with_reducible refine (hier_IsSub.calls kj6 _ _ l0_0 a1 a2 t507 _ ?side1 ?side2 A97.out).mono ?_
       (case side1 => repeat (first | exact (Kd.C_below HR0_0.out HB.out) | (with_reducible refine Kd.C_alloc ?_ _) | (with_reducible refine Kd.C_drewN ?_ _) | (with_reducible refine Kd.C_drew ?_)))
       (case side2 => exact HC0_0.out)
       rintro e w103 ⟨rfl, hb⟩
       refine ⟨_, rfl, ?_⟩
       have n0_ := Aside0.mk (blk_below (g := gb492) (o := .cells #[.slice A0_0 l0_0.length c0_0] 24 (0, 0)) (by (with_reducible repeat first | apply bn | apply bd | apply ba); exact BK492.out) hb)
       have n1_ := Aside0.mk (below_step (by repeat with_reducible first | exact HB.out | apply below_alloc | apply pw_below_drewN | apply below_drew1 | refine below_set ?_ GE492.out) hb)
       clear BK492
       clear HB
       have BK492 := n0_
       have HB := n1_
       clear n0_ n1_
       (try clear hb)
       (try clear hb2)
       (try clear hk)
       (try clear hi)
       refine hK.out _ _ ((blk_cell BK492.out 0).trans rfl) (fun hHeld => ?_)
       clear hK K
       refine norm_ (a' := ?_) ?_ ?_
       rotate_left
       ·show Act.put _ (some 67) _ = _
        simp only [Act.put, List.setIfInBounds_toArray, List.set_cons_zero, List.set_cons_succ, i64_w]
        rfl
       refine one_ (i := 16) (N := some 70) #[true, true, true, true, true, true, true, true, true, true, true, true, true, true, true, true, true, true, false, false, false] rfl rfl (one_of HT_.out (by kernel_rfl)) (by decide) (fun K hK => ?_)
       refine goes_ Tryd.func8 (by kernel_rfl) rfl #[.agg #[.slice A0_0 l0_0.length c0_0], .string a2] (by rfl) rfl rfl (by (try simp only [List.map_toArray, List.map_cons, List.map_nil]); first | done | rfl) ?_
       with_reducible refine (hier_Subs.calls kj6 _ _ l0_0 a2 t508 _ ?side1 ?side2 A98.out).mono ?_
       (case side1 => repeat (first | exact (Kd.C_below HR0_0.out HB.out) | (with_reducible refine Kd.C_alloc ?_ _) | (with_reducible refine Kd.C_drewN ?_ _) | (with_reducible refine Kd.C_drew ?_)))
       (case side2 => exact HC0_0.out)
       rintro e w104 ⟨v509, rfl, ho0, hb⟩
       refine ⟨_, rfl, ?_⟩
       have n0_ := Aside0.mk (Kd.R_lower ho0 (below_size (by repeat with_reducible first | exact HB.out | apply below_alloc | apply pw_below_drewN | apply below_drew1 | refine below_set ?_ GE492.out)))
       have n1_ := Aside0.mk (blk_below (g := gb492) (o := .cells #[.slice A0_0 l0_0.length c0_0] 24 (0, 0)) (by (with_reducible repeat first | apply bn | apply bd | apply ba); exact BK492.out) hb)
       have n2_ := Aside0.mk (below_step (by repeat with_reducible first | exact HB.out | apply below_alloc | apply pw_below_drewN | apply below_drew1 | refine below_set ?_ GE492.out) hb)
       clear BK492
       clear HB
       have HO510 := n0_
       have BK492 := n1_
       have HB := n2_
       clear n0_ n1_ n2_
       (try clear hb)
       (try clear hb2)
       (try clear hk)
       (try clear hi)
       (try clear ho0)
       obtain ⟨Ao105, co105, eo105⟩ := Kd.R_slice HO510.out
       (first | subst eo105 | (injection eo105 with f1_ f2_ f3_; have f4_ := f1_.symm; have f5_ := f3_.symm; clear f1_ f2_ f3_; subst f4_; subst f5_))
       refine hK.out _ _ ((blk_cell BK492.out 0).trans rfl) (fun hHeld => ?_)
       clear hK K
       refine norm_ (a' := ?_) ?_ ?_
       rotate_left
       ·show Act.put _ (some 70) _ = _
        simp only [Act.put, List.setIfInBounds_toArray, List.set_cons_zero, List.set_cons_succ, i64_w]
        rfl
       refine one_ (i := 18) (N := some 72) #[true, true, true, true, true, true, true, true, true, true, true, true, true, true, true, true, true, true, true, false, false] rfl rfl (one_of HT_.out (by kernel_rfl)) (by decide) (fun K hK => ?_)
       refine goes_ Tryd.func13 (by kernel_rfl) rfl #[.slice Ao105 t508.length co105, .string a1] (by rfl) rfl rfl (by (try simp only [List.map_toArray, List.map_cons, List.map_nil]); first | done | rfl) ?_
       with_reducible refine (dataflowlaw10_has.calls kj6 _ _ t508 a1 t511 _ ?side1 ?side2 A99.out).mono ?_
       (case side1 => repeat (first | exact (Kd.R_reads' HO510.out).2.2 | (with_reducible refine Kd.C_alloc ?_ _) | (with_reducible refine Kd.C_drewN ?_ _) | (with_reducible refine Kd.C_drew ?_)))
       (case side2 => exact (Kd.R_reads' HO510.out).2.1)
       rintro e w' ⟨rfl, ⟨nd, rfl⟩⟩
       refine ⟨_, rfl, ?_⟩
       refine hK.out _ _ ((blk_cell BK492.out 0).trans rfl) (fun hHeld => ?_)
       clear hK K
       refine norm_ (a' := ?_) ?_ ?_
       rotate_left
       ·show Act.put _ (some 72) _ = _
        simp only [Act.put, List.setIfInBounds_toArray, List.set_cons_zero, List.set_cons_succ, i64_w]
        rfl
       refine pure_ (i := 19) (N := some 73) (v := ?_) (a' := ?_) #[true, true, true, true, true, true, true, true, true, true, true, true, true, true, true, true, true, true, true, true, false] rfl rfl (any_of HT_.out (by kernel_rfl)) (fun _ _ _ h => h) (Or.inl ⟨by rfl, ?_⟩) ?_ ?_
       rotate_left
       ·intro w'
        go_simp
        with_reducible rfl
       rotate_left
       ·simp only [Act.put, List.setIfInBounds_toArray, List.set_cons_zero, List.set_cons_succ, i64_w]
        rfl
       refine pure_ (i := 20) (N := some 74) (v := ?_) (a' := ?_) #[true, true, true, true, true, true, true, true, true, true, true, true, true, true, true, true, true, true, true, true, true] rfl rfl (any_of HT_.out (by kernel_rfl)) (fun _ _ _ h => h) (Or.inl ⟨by rfl, ?_⟩) ?_ ?_
       rotate_left
       ·intro w'
        go_simp
        with_reducible rfl
       rotate_left
       ·simp only [Act.put, List.setIfInBounds_toArray, List.set_cons_zero, List.set_cons_succ, i64_w]
        rfl
       refine done_ (done_of HT_.out (by kernel_rfl)) ?_
       try go_wp2
       go_meet
       case rel => exact ⟨_, ((t507 != t511)), (by first | rfl | (simp; done) | (simp [*]; done)), H', ⟨by have := HJ6.out; first | omega | exact Nat.le_refl _⟩, ⟨by (with_reducible repeat first | apply bn | apply bd | apply ba); exact BK492.out⟩, ⟨by repeat with_reducible first | exact HB.out | apply below_alloc | apply pw_below_drewN | apply below_drew1 | refine below_set ?_ GE492.out⟩⟩
     case rest =>
      clear HC90
      try clear c1
      try clear c2
      try clear p2
      try clear c4
      try clear c5
      try clear c6
      try clear c6b0
      try clear c6b1
      try clear c7
      try clear c8
      try clear c9
      try clear c12
      try clear c13
      try clear c14
      try clear c15
      try clear c16
      try clear c17
      try clear c17b0
      try clear c17b1
      try clear c25
      try clear c51
      try clear c51b0
      try clear c51b1
      try clear c57
      try clear c73
      try clear c73b0
      try clear c73b1
      try clear c77
      try clear c89
      try clear c93
      try clear c93b0
      try clear c93b1
      try clear c93b2
      try clear hcz18_0
      try clear hcz20_0
      try clear hcz22_0
      try clear hcz27_0
      try clear hcz29_0
      try clear hcz31_0
      try clear hcz33_0
      try clear hcz35_0
      try clear hcz37_0
      try clear hcz39_0
      try clear hcz41_0
      try clear hcz43_0
      try clear hcz45_0
      try clear hcz47_0
      try clear hcz49_0
      try clear hcz52_0
      try clear hcz54_0
      try clear hcz59_0
      try clear hcz61_0
      try clear hcz63_0
      try clear hcz65_0
      try clear hcz67_0
      try clear hcz69_0
      try clear hcz71_0
      try clear hcz74_0
      try clear hcz79_0
      try clear hcz81_0
      try clear hcz83_0
      try clear hcz85_0
      try clear hcz87_0
      try clear hcz9_0
      try clear hfz18_0
      try clear hfz20_0
      try clear hfz22_0
      try clear hfz27_0
      try clear hfz29_0
      try clear hfz31_0
      try clear hfz33_0
      try clear hfz35_0
      try clear hfz37_0
      try clear hfz39_0
      try clear hfz41_0
      try clear hfz43_0
      try clear hfz45_0
      try clear hfz47_0
      try clear hfz49_0
      try clear hfz52_0
      try clear hfz54_0
      try clear hfz59_0
      try clear hfz61_0
      try clear hfz63_0
      try clear hfz65_0
      try clear hfz67_0
      try clear hfz69_0
      try clear hfz71_0
      try clear hfz74_0
      try clear hfz79_0
      try clear hfz81_0
      try clear hfz83_0
      try clear hfz85_0
      try clear hfz87_0
      try clear hfz9_0
      try clear p2
      obtain ⟨kq, x74_89, rfl, HA, HJ89, BK492, HB⟩ := hcut
      cases kq with
      | zero => exact absurd HA.out (by simp [dataflowlaw10_HierOrder.j1])
      | succ kj89 =>
       have H := HA.out
       clear HA
       simp only [dataflowlaw10_HierOrder.j1] at H
       by_cases c106 : x74_89 = true
       ·subst c106
        have H1 : (some false) = some r := by rw [if_pos rfl] at H; exact H
        clear H
        have H := H1
        clear H1
        obtain rfl := Option.some.inj H
        go_wp2
        go_ret
        exact ⟨by first | rfl | (simp [errW_none, errW_some] <;> rfl) | (simp [*, errW_none, errW_some] <;> rfl), by repeat with_reducible first | exact HB.out | apply below_alloc | apply pw_below_drewN | apply below_drew1 | refine below_set ?_ GE492.out⟩
       ·replace c106 := Bool.eq_false_iff.mpr c106
        subst c106
        have H1 : ((hier_Supers.f kj89 l0_0 a1).bind fun t512 => (if (t512.length : Int) = 0 then ((dataflowlaw10_awake.f kj89).bind fun t515 => (some t515)) else (if 0 ≤ (wrap64 ((t512.length : Int) - 1)) then (if (wrap64 ((t512.length : Int) - 1)) < (t512.length : Int) then ((dataflowref10_Find.f kj89 l0_0 (rdOf ByteArray.empty t512 (wrap64 ((t512.length : Int) - 1)))).bind fun t517 => (if 0 ≤ t517 then (if t517 < (l0_0.length : Int) then (if ((rd_T32 l0_0 t517).f1).toList = ([] : List UInt8) then ((dataflowlaw10_awake.f kj89).bind fun t519 => (some t519)) else (some false)) else (none)) else (none))) else (none)) else (none)))) = some r := by rw [if_neg (show ¬ (false = true) by decide)] at H; exact H
        clear H
        have H := H1
        clear H1
        replace H := Option.bind_eq_some_iff.mp H
        obtain ⟨t512, A1070, H⟩ := H
        replace H : (if (t512.length : Int) = 0 then ((dataflowlaw10_awake.f kj89).bind fun t515 => (some t515)) else (if 0 ≤ (wrap64 ((t512.length : Int) - 1)) then (if (wrap64 ((t512.length : Int) - 1)) < (t512.length : Int) then ((dataflowref10_Find.f kj89 l0_0 (rdOf ByteArray.empty t512 (wrap64 ((t512.length : Int) - 1)))).bind fun t517 => (if 0 ≤ t517 then (if t517 < (l0_0.length : Int) then (if ((rd_T32 l0_0 t517).f1).toList = ([] : List UInt8) then ((dataflowlaw10_awake.f kj89).bind fun t519 => (some t519)) else (some false)) else (none)) else (none))) else (none)) else (none))) = some r := H
        have A107 := Aside0.mk A1070
        clear A1070
        by_cases c108 : (t512.length : Int) = 0
        ·rw [if_pos c108] at H
         have c108b0 : ((t512.length : Int) == 0) = true := beq_iff_eq.mpr c108
         have c108b1 : ((t512.length : Int) != 0) = false := bne_eq_false_iff_eq.mpr c108
         clear c108
         replace H := Option.bind_eq_some_iff.mp H
         obtain ⟨t515, A1090, H⟩ := H
         replace H : (some t515) = some r := H
         have A109 := Aside0.mk A1090
         clear A1090
         obtain rfl := Option.some.inj H
         have hcz110_0 : wc.cell? ⟨gb492, 0, none⟩ = some (.slice A0_0 l0_0.length c0_0) := (blk_cell BK492.out 0).trans rfl
         have hfz110_0 := blk_frozen BK492.out 0
         try go_wp2_with (first | ((with_reducible refine gate_callee (f := 16) rfl ?_); refine goesL_ (some 77) rfl rfl Tryd.func16 (by kernel_rfl) rfl #[.agg #[.slice A0_0 l0_0.length c0_0], .string a1] rfl (by (try simp only [List.map_toArray, List.map_cons, List.map_nil]); first | done | rfl) ?_; (with_reducible refine (hier_Supers.calls kj89 _ _ l0_0 a1 t512 _ ?side1 ?side2 A107.out).mono ?_); (case side1 => repeat (first | exact (Kd.C_below HR0_0.out HB.out) | (with_reducible refine Kd.C_alloc ?_ _) | (with_reducible refine Kd.C_drewN ?_ _) | (with_reducible refine Kd.C_drew ?_))); (case side2 => exact HC0_0.out); rintro e w111 ⟨v513, rfl, ho0, hb⟩; refine ⟨_, rfl, ?_⟩; have n0_ := Aside0.mk (Kd.R_lower ho0 (below_size (by repeat with_reducible first | exact HB.out | apply below_alloc | apply pw_below_drewN | apply below_drew1 | refine below_set ?_ GE492.out))); have n1_ := Aside0.mk (blk_below (g := gb492) (o := .cells #[.slice A0_0 l0_0.length c0_0] 24 (0, 0)) (by (with_reducible repeat first | apply bn | apply bd | apply ba); exact BK492.out) hb); have n2_ := Aside0.mk (below_step (by repeat with_reducible first | exact HB.out | apply below_alloc | apply pw_below_drewN | apply below_drew1 | refine below_set ?_ GE492.out) hb); clear BK492; clear HB; have HO514 := n0_; have BK492 := n1_; have HB := n2_; clear n0_ n1_ n2_; (try clear hb); (try clear hb2); (try clear hk); (try clear hi); (try clear ho0)))
         have n0_ := Aside0.mk (Kd.R_drew HO514.out)
         have n1_ := Aside0.mk (blk_drew BK492.out)
         have n2_ := Aside0.mk (below_drew1 HB.out)
         clear HO514
         clear BK492
         clear HB
         have HO514 := n0_
         have BK492 := n1_
         have HB := n2_
         clear n0_ n1_ n2_
         obtain ⟨Ao113, co113, eo113⟩ := Kd.R_slice HO514.out
         (first | subst eo113 | (injection eo113 with f1_ f2_ f3_; have f4_ := f1_.symm; have f5_ := f3_.symm; clear f1_ f2_ f3_; subst f4_; subst f5_))
         refine start_ (n := 23) (S := fun w' => True) (ds := []) #[false, false, false, false, false, false, false, false, false, false, false, false, false, false, false, false, false, false, false, false, false, false, false] (by kernel_rfl) rfl rfl trivial (fun hHeld => ?_); refine with_tabW dataflowlaw10_HierOrder.tab9 dataflowlaw10_HierOrder.bits9 (fun HT_ HW_ => ?_)
         generalize w111.drew = w112 at HO514 BK492 HB hHeld ⊢
         refine pure_ (i := 0) (N := some 78) (v := ?_) (a' := ?_) #[true, false, false, false, false, false, false, false, false, false, false, false, false, false, false, false, false, false, false, false, false, false, false] rfl rfl (any_of HT_.out (by kernel_rfl)) (fun _ _ _ h => h) (Or.inl ⟨by rfl, ?_⟩) ?_ ?_
         rotate_left
         ·intro w'
          go_simp
          with_reducible rfl
         rotate_left
         ·simp only [Act.put, List.setIfInBounds_toArray, List.set_cons_zero, List.set_cons_succ, i64_w]
          rfl
         refine pure_ (i := 1) (N := some 79) (v := ?_) (a' := ?_) #[true, true, false, false, false, false, false, false, false, false, false, false, false, false, false, false, false, false, false, false, false, false, false] rfl rfl (any_of HT_.out (by kernel_rfl)) (fun _ _ _ h => h) (Or.inl ⟨by rfl, ?_⟩) ?_ ?_
         rotate_left
         ·intro w'
          go_simp
          with_reducible rfl
         rotate_left
         ·simp only [Act.put, List.setIfInBounds_toArray, List.set_cons_zero, List.set_cons_succ, i64_w]
          rfl
         refine pure_ (i := 2) (N := some 80) (v := ?_) (a' := ?_) #[true, true, true, false, false, false, false, false, false, false, false, false, false, false, false, false, false, false, false, false, false, false, false] rfl rfl (any_of HT_.out (by kernel_rfl)) (fun _ _ _ h => h) (Or.inl ⟨by rfl, ?_⟩) ?_ ?_
         rotate_left
         ·intro w'
          go_simp
          with_reducible rfl
         rotate_left
         ·simp only [Act.put, List.setIfInBounds_toArray, List.set_cons_zero, List.set_cons_succ, i64_w]
          rfl
         refine pure_ (i := 3) (N := some 81) (v := ?_) (a' := ?_) #[true, true, true, true, false, false, false, false, false, false, false, false, false, false, false, false, false, false, false, false, false, false, false] rfl rfl (any_of HT_.out (by kernel_rfl)) (fun _ _ _ h => h) (Or.inl ⟨by rfl, ?_⟩) ?_ ?_
         rotate_left
         ·intro w'
          go_simp
          with_reducible rfl
         rotate_left
         ·simp only [Act.put, List.setIfInBounds_toArray, List.set_cons_zero, List.set_cons_succ, i64_w]
          rfl
         refine pure_ (i := 4) (N := some 82) (v := undef) (a' := ?_) #[true, true, true, true, true, false, false, false, false, false, false, false, false, false, false, false, false, false, false, false, false, false, false] rfl rfl (any_of HT_.out (by kernel_rfl)) (fun _ _ _ h => h) (Or.inr ⟨by rfl, rfl⟩) ?_ ?_
         rotate_left
         ·simp only [Act.put, List.setIfInBounds_toArray, List.set_cons_zero, List.set_cons_succ, i64_w]
          rfl
         refine pure_ (i := 5) (N := some 83) (v := undef) (a' := ?_) #[true, true, true, true, true, true, false, false, false, false, false, false, false, false, false, false, false, false, false, false, false, false, false] rfl rfl (any_of HT_.out (by kernel_rfl)) (fun _ _ _ h => h) (Or.inr ⟨by rfl, rfl⟩) ?_ ?_
         rotate_left
         ·simp only [Act.put, List.setIfInBounds_toArray, List.set_cons_zero, List.set_cons_succ, i64_w]
          rfl
         refine pure_ (i := 6) (N := some 84) (v := undef) (a' := ?_) #[true, true, true, true, true, true, true, false, false, false, false, false, false, false, false, false, false, false, false, false, false, false, false] rfl rfl (any_of HT_.out (by kernel_rfl)) (fun _ _ _ h => h) (Or.inr ⟨by rfl, rfl⟩) ?_ ?_
         rotate_left
         ·simp only [Act.put, List.setIfInBounds_toArray, List.set_cons_zero, List.set_cons_succ, i64_w]
          rfl
         refine pure_ (i := 7) (N := some 85) (v := undef) (a' := ?_) #[true, true, true, true, true, true, true, true, false, false, false, false, false, false, false, false, false, false, false, false, false, false, false] rfl rfl (any_of HT_.out (by kernel_rfl)) (fun _ _ _ h => h) (Or.inr ⟨by rfl, rfl⟩) ?_ ?_
         rotate_left
         ·simp only [Act.put, List.setIfInBounds_toArray, List.set_cons_zero, List.set_cons_succ, i64_w]
          rfl
         refine pure_ (i := 8) (N := some 86) (v := undef) (a' := ?_) #[true, true, true, true, true, true, true, true, true, false, false, false, false, false, false, false, false, false, false, false, false, false, false] rfl rfl (any_of HT_.out (by kernel_rfl)) (fun _ _ _ h => h) (Or.inr ⟨by rfl, rfl⟩) ?_ ?_
         rotate_left
         ·simp only [Act.put, List.setIfInBounds_toArray, List.set_cons_zero, List.set_cons_succ, i64_w]
          rfl
         refine pure_ (i := 9) (N := some 87) (v := undef) (a' := ?_) #[true, true, true, true, true, true, true, true, true, true, false, false, false, false, false, false, false, false, false, false, false, false, false] rfl rfl (any_of HT_.out (by kernel_rfl)) (fun _ _ _ h => h) (Or.inr ⟨by rfl, rfl⟩) ?_ ?_
         rotate_left
         ·simp only [Act.put, List.setIfInBounds_toArray, List.set_cons_zero, List.set_cons_succ, i64_w]
          rfl
         refine pure_ (i := 10) (N := some 88) (v := undef) (a' := ?_) #[true, true, true, true, true, true, true, true, true, true, true, false, false, false, false, false, false, false, false, false, false, false, false] rfl rfl (any_of HT_.out (by kernel_rfl)) (fun _ _ _ h => h) (Or.inr ⟨by rfl, rfl⟩) ?_ ?_
         rotate_left
         ·simp only [Act.put, List.setIfInBounds_toArray, List.set_cons_zero, List.set_cons_succ, i64_w]
          rfl
         refine pure_ (i := 11) (N := some 89) (v := undef) (a' := ?_) #[true, true, true, true, true, true, true, true, true, true, true, true, false, false, false, false, false, false, false, false, false, false, false] rfl rfl (any_of HT_.out (by kernel_rfl)) (fun _ _ _ h => h) (Or.inr ⟨by rfl, rfl⟩) ?_ ?_
         rotate_left
         ·simp only [Act.put, List.setIfInBounds_toArray, List.set_cons_zero, List.set_cons_succ, i64_w]
          rfl
         refine pure_ (i := 12) (N := some 90) (v := undef) (a' := ?_) #[true, true, true, true, true, true, true, true, true, true, true, true, true, false, false, false, false, false, false, false, false, false, false] rfl rfl (any_of HT_.out (by kernel_rfl)) (fun _ _ _ h => h) (Or.inr ⟨by rfl, rfl⟩) ?_ ?_
         rotate_left
         ·simp only [Act.put, List.setIfInBounds_toArray, List.set_cons_zero, List.set_cons_succ, i64_w]
          rfl
         refine pure_ (i := 13) (N := some 91) (v := undef) (a' := ?_) #[true, true, true, true, true, true, true, true, true, true, true, true, true, true, false, false, false, false, false, false, false, false, false] rfl rfl (any_of HT_.out (by kernel_rfl)) (fun _ _ _ h => h) (Or.inr ⟨by rfl, rfl⟩) ?_ ?_
         rotate_left
         ·simp only [Act.put, List.setIfInBounds_toArray, List.set_cons_zero, List.set_cons_succ, i64_w]
          rfl
         refine pure_ (i := 14) (N := some 92) (v := undef) (a' := ?_) #[true, true, true, true, true, true, true, true, true, true, true, true, true, true, true, false, false, false, false, false, false, false, false] rfl rfl (any_of HT_.out (by kernel_rfl)) (fun _ _ _ h => h) (Or.inr ⟨by rfl, rfl⟩) ?_ ?_
         rotate_left
         ·simp only [Act.put, List.setIfInBounds_toArray, List.set_cons_zero, List.set_cons_succ, i64_w]
          rfl
         refine pure_ (i := 15) (N := some 93) (v := undef) (a' := ?_) #[true, true, true, true, true, true, true, true, true, true, true, true, true, true, true, true, false, false, false, false, false, false, false] rfl rfl (any_of HT_.out (by kernel_rfl)) (fun _ _ _ h => h) (Or.inr ⟨by rfl, rfl⟩) ?_ ?_
         rotate_left
         ·simp only [Act.put, List.setIfInBounds_toArray, List.set_cons_zero, List.set_cons_succ, i64_w]
          rfl
         refine pure_ (i := 16) (N := some 94) (v := undef) (a' := ?_) #[true, true, true, true, true, true, true, true, true, true, true, true, true, true, true, true, true, false, false, false, false, false, false] rfl rfl (any_of HT_.out (by kernel_rfl)) (fun _ _ _ h => h) (Or.inr ⟨by rfl, rfl⟩) ?_ ?_
         rotate_left
         ·simp only [Act.put, List.setIfInBounds_toArray, List.set_cons_zero, List.set_cons_succ, i64_w]
          rfl
         refine pure_ (i := 17) (N := some 95) (v := undef) (a' := ?_) #[true, true, true, true, true, true, true, true, true, true, true, true, true, true, true, true, true, true, false, false, false, false, false] rfl rfl (any_of HT_.out (by kernel_rfl)) (fun _ _ _ h => h) (Or.inr ⟨by rfl, rfl⟩) ?_ ?_
         rotate_left
         ·simp only [Act.put, List.setIfInBounds_toArray, List.set_cons_zero, List.set_cons_succ, i64_w]
          rfl
         refine pure_ (i := 18) (N := some 96) (v := ?_) (a' := ?_) #[true, true, true, true, true, true, true, true, true, true, true, true, true, true, true, true, true, true, true, false, false, false, false] rfl rfl (any_of HT_.out (by kernel_rfl)) (fun _ _ _ h => h) (Or.inl ⟨by rfl, ?_⟩) ?_ ?_
         rotate_left
         ·intro w'
          go_simp
          with_reducible rfl
         rotate_left
         ·simp only [Act.put, List.setIfInBounds_toArray, List.set_cons_zero, List.set_cons_succ, i64_w]
          rfl
         refine pure_ (i := 19) (N := some 97) (v := ?_) (a' := ?_) #[true, true, true, true, true, true, true, true, true, true, true, true, true, true, true, true, true, true, true, true, false, false, false] rfl rfl (any_of HT_.out (by kernel_rfl)) (fun _ _ _ h => h) (Or.inl ⟨by rfl, ?_⟩) ?_ ?_
         rotate_left
         ·intro w'
          go_simp
          with_reducible rfl
         rotate_left
         ·simp only [Act.put, List.setIfInBounds_toArray, List.set_cons_zero, List.set_cons_succ, i64_w]
          rfl
         refine one_ (i := 20) (N := some 98) #[true, true, true, true, true, true, true, true, true, true, true, true, true, true, true, true, true, true, true, true, true, false, false] rfl rfl (one_of HT_.out (by kernel_rfl)) (by decide) (fun K hK => ?_)
         refine goes_ Tryd.func7 (by kernel_rfl) rfl #[] (by rfl) rfl rfl (by (try simp only [List.map_toArray, List.map_cons, List.map_nil]); first | done | rfl) ?_
         with_reducible refine (dataflowlaw10_awake.calls kj89  t515 _ A109.out).mono ?_
         rintro e w114 ⟨rfl, hb⟩
         refine ⟨_, rfl, ?_⟩
         have n0_ := Aside0.mk (Kd.R_below (by (with_reducible repeat first | apply Kd.R_alloc | apply Kd.R_drewN | apply Kd.R_drew); exact HO514.out) hb)
         have n1_ := Aside0.mk (blk_below (g := gb492) (o := .cells #[.slice A0_0 l0_0.length c0_0] 24 (0, 0)) (by (with_reducible repeat first | apply bn | apply bd | apply ba); exact BK492.out) hb)
         have n2_ := Aside0.mk (below_step (by repeat with_reducible first | exact HB.out | apply below_alloc | apply pw_below_drewN | apply below_drew1 | refine below_set ?_ GE492.out) hb)
         clear HO514
         clear BK492
         clear HB
         have HO514 := n0_
         have BK492 := n1_
         have HB := n2_
         clear n0_ n1_ n2_
         (try clear hb)
         (try clear hb2)
         (try clear hk)
         (try clear hi)
         refine hK.out _ _ trivial (fun hHeld => ?_)
         clear hK K
         refine norm_ (a' := ?_) ?_ ?_
         rotate_left
         ·show Act.put _ (some 98) _ = _
          simp only [Act.put, List.setIfInBounds_toArray, List.set_cons_zero, List.set_cons_succ, i64_w]
          rfl
         refine pure_ (i := 21) (N := some 99) (v := ?_) (a' := ?_) #[true, true, true, true, true, true, true, true, true, true, true, true, true, true, true, true, true, true, true, true, true, true, false] rfl rfl (any_of HT_.out (by kernel_rfl)) (fun _ _ _ h => h) (Or.inl ⟨by rfl, ?_⟩) ?_ ?_
         rotate_left
         ·intro w'
          go_simp
          with_reducible rfl
         rotate_left
         ·simp only [Act.put, List.setIfInBounds_toArray, List.set_cons_zero, List.set_cons_succ, i64_w]
          rfl
         refine pure_ (i := 22) (N := some 8) (v := ?_) (a' := ?_) #[true, true, true, true, true, true, true, true, true, true, true, true, true, true, true, true, true, true, true, true, true, true, true] rfl rfl (any_of HT_.out (by kernel_rfl)) (fun _ _ _ h => h) (Or.inl ⟨by rfl, ?_⟩) ?_ ?_
         rotate_left
         ·intro w'
          go_simp
          with_reducible rfl
         rotate_left
         ·simp only [Act.put, List.setIfInBounds_toArray, List.set_cons_zero, List.set_cons_succ, i64_w]
          rfl
         refine done_ (done_of HT_.out (by kernel_rfl)) ?_
         try go_wp2
         go_ret
         exact ⟨by first | rfl | (simp [errW_none, errW_some] <;> rfl) | (simp [*, errW_none, errW_some] <;> rfl), by repeat with_reducible first | exact HB.out | apply below_alloc | apply pw_below_drewN | apply below_drew1 | refine below_set ?_ GE492.out⟩
        ·rw [if_neg c108] at H
         have c108b0 : ((t512.length : Int) == 0) = false := beq_eq_false_iff_ne.mpr c108
         have c108b1 : ((t512.length : Int) != 0) = true := bne_iff_ne.mpr c108
         have c108b2 : ¬ (t512 = []) := fun h_ => c108 (by rw [h_]; rfl)
         obtain ⟨ji115, hji115⟩ : ∃ j_ : Int, (wrap64 ((t512.length : Int) - 1)) = j_ := ⟨_, rfl⟩
         replace H : (if 0 ≤ (ji115) then (if (ji115) < (t512.length : Int) then ((dataflowref10_Find.f kj89 l0_0 (rdOf ByteArray.empty t512 (ji115))).bind fun t517 => (if 0 ≤ t517 then (if t517 < (l0_0.length : Int) then (if ((rd_T32 l0_0 t517).f1).toList = ([] : List UInt8) then ((dataflowlaw10_awake.f kj89).bind fun t519 => (some t519)) else (some false)) else (none)) else (none))) else (none)) else (none)) = some r := by first | (rw [hji115] at H; exact H) | (simp only [hji115] at H ⊢; exact H)
         (try rw [hji115] at A107)
         have hji115w : (IntKind.i64.wrap ((t512.length : Int) - 1)) = ji115 := (i64_w _).trans hji115
         by_cases c116 : 0 ≤ (ji115)
         ·rw [if_pos c116] at H
          have c116b0 : decide (0 ≤ (ji115)) = true := decide_eq_true c116
          clear c116
          by_cases c117 : (ji115) < (t512.length : Int)
          ·rw [if_pos c117] at H
           have c117b0 : decide ((ji115) < (t512.length : Int)) = true := decide_eq_true c117
           clear c117
           replace H := Option.bind_eq_some_iff.mp H
           obtain ⟨t517, A1180, H⟩ := H
           replace H : (if 0 ≤ t517 then (if t517 < (l0_0.length : Int) then (if ((rd_T32 l0_0 t517).f1).toList = ([] : List UInt8) then ((dataflowlaw10_awake.f kj89).bind fun t519 => (some t519)) else (some false)) else (none)) else (none)) = some r := H
           have A118 := Aside0.mk A1180
           clear A1180
           by_cases c119 : 0 ≤ t517
           ·rw [if_pos c119] at H
            have c119b0 : decide (0 ≤ t517) = true := decide_eq_true c119
            clear c119
            by_cases c120 : t517 < (l0_0.length : Int)
            ·rw [if_pos c120] at H
             have c120b0 : decide (t517 < (l0_0.length : Int)) = true := decide_eq_true c120
             clear c120
             by_cases c121 : ((rd_T32 l0_0 t517).f1).toList = ([] : List UInt8)
             ·rw [if_pos c121] at H
              have c121b0 : (((rd_T32 l0_0 t517).f1).toList == ([] : List UInt8)) = true := beq_iff_eq.mpr c121
              have c121b1 : (((rd_T32 l0_0 t517).f1).toList != ([] : List UInt8)) = false := bne_eq_false_iff_eq.mpr c121
              clear c121
              replace H := Option.bind_eq_some_iff.mp H
              obtain ⟨t519, A1220, H⟩ := H
              replace H : (some t519) = some r := H
              have A122 := Aside0.mk A1220
              clear A1220
              obtain rfl := Option.some.inj H
              have hcz123_0 : wc.cell? ⟨gb492, 0, none⟩ = some (.slice A0_0 l0_0.length c0_0) := (blk_cell BK492.out 0).trans rfl
              have hfz123_0 := blk_frozen BK492.out 0
              try go_wp2_with (first | ((with_reducible refine gate_callee (f := 16) rfl ?_); refine goesL_ (some 77) rfl rfl Tryd.func16 (by kernel_rfl) rfl #[.agg #[.slice A0_0 l0_0.length c0_0], .string a1] rfl (by (try simp only [List.map_toArray, List.map_cons, List.map_nil]); first | done | rfl) ?_; (with_reducible refine (hier_Supers.calls kj89 _ _ l0_0 a1 t512 _ ?side1 ?side2 A107.out).mono ?_); (case side1 => repeat (first | exact (Kd.C_below HR0_0.out HB.out) | (with_reducible refine Kd.C_alloc ?_ _) | (with_reducible refine Kd.C_drewN ?_ _) | (with_reducible refine Kd.C_drew ?_))); (case side2 => exact HC0_0.out); rintro e w124 ⟨v513, rfl, ho0, hb⟩; refine ⟨_, rfl, ?_⟩; have n0_ := Aside0.mk (Kd.R_lower ho0 (below_size (by repeat with_reducible first | exact HB.out | apply below_alloc | apply pw_below_drewN | apply below_drew1 | refine below_set ?_ GE492.out))); have n1_ := Aside0.mk (blk_below (g := gb492) (o := .cells #[.slice A0_0 l0_0.length c0_0] 24 (0, 0)) (by (with_reducible repeat first | apply bn | apply bd | apply ba); exact BK492.out) hb); have n2_ := Aside0.mk (below_step (by repeat with_reducible first | exact HB.out | apply below_alloc | apply pw_below_drewN | apply below_drew1 | refine below_set ?_ GE492.out) hb); clear BK492; clear HB; have HO514 := n0_; have BK492 := n1_; have HB := n2_; clear n0_ n1_ n2_; (try clear hb); (try clear hb2); (try clear hk); (try clear hi); (try clear ho0)))
              have n0_ := Aside0.mk (Kd.R_drew HO514.out)
              have n1_ := Aside0.mk (blk_drew BK492.out)
              have n2_ := Aside0.mk (below_drew1 HB.out)
              clear HO514
              clear BK492
              clear HB
              have HO514 := n0_
              have BK492 := n1_
              have HB := n2_
              clear n0_ n1_ n2_
              obtain ⟨Ao126, co126, eo126⟩ := Kd.R_slice HO514.out
              (first | subst eo126 | (injection eo126 with f1_ f2_ f3_; have f4_ := f1_.symm; have f5_ := f3_.symm; clear f1_ f2_ f3_; subst f4_; subst f5_))
              have p516 : 0 ≤ ((ji115) : Int) := of_decide_eq_true (by first | (with_reducible assumption) | assumption)
              have q516 : (ji115) < (t512.length : Int) := of_decide_eq_true (by first | (with_reducible assumption) | assumption)
              obtain ⟨ad516, e516, hx516_0⟩ := Kd.at_string (Kd.R_reads' HO514.out).2.2 (ji115) p516 q516
              cases e516
              replace p516 := eq_true p516
              replace q516 := eq_true q516
              have p518 : 0 ≤ (t517 : Int) := of_decide_eq_true (by first | (with_reducible assumption) | assumption)
              have q518 : t517 < (l0_0.length : Int) := of_decide_eq_true (by first | (with_reducible assumption) | assumption)
              obtain ⟨ad518, A518_2, c518_2, A518_3, c518_3, e518, hx518_0, hx518_1, hx518_2, hx518_3, hl518_2, hi518_2, hl518_3, hi518_3⟩ := at_T32 HR0_0.out t517 p518 q518
              have hw518_3 := hx518_3
              have hw518_2 := hx518_2
              have hw518_1 := hx518_1
              have hw518_0 := hx518_0
              cases e518
              replace hx518_0 := (HB.out.cell (World.block_lt_of_cell? w _ hx518_0)).trans hx518_0
              replace hx518_1 := (HB.out.cell (World.block_lt_of_cell? w _ hx518_1)).trans hx518_1
              replace hx518_2 := (HB.out.cell (World.block_lt_of_cell? w _ hx518_2)).trans hx518_2
              replace hx518_3 := (HB.out.cell (World.block_lt_of_cell? w _ hx518_3)).trans hx518_3
              have HR518_2 := Aside0.mk hi518_2
              have HC518_2 := Aside0.mk hl518_2
              clear hi518_2 hl518_2
              have HR518_3 := Aside0.mk hi518_3
              have HC518_3 := Aside0.mk hl518_3
              clear hi518_3 hl518_3
              replace p518 := eq_true p518
              replace q518 := eq_true q518
              refine start_ (n := 23) (S := fun w' => w'.cell? ⟨gb492, 0, none⟩ = some (.slice (some ad518) l0_0.length c0_0) ∧ w'.cell? (ad516.add ((ji115)).toNat) = some (.string (rdOf ByteArray.empty t512 (ji115))) ∧ w'.cell? (ad518.add ((t517).toNat * 4)) = some (.string ((rd_T32 l0_0 t517).f0)) ∧ w'.cell? ⟨(ad518.add ((t517).toNat * 4)).block, (ad518.add ((t517).toNat * 4)).off + 1, none⟩ = some (.string ((rd_T32 l0_0 t517).f1)) ∧ w'.cell? ⟨(ad518.add ((t517).toNat * 4)).block, (ad518.add ((t517).toNat * 4)).off + 2, none⟩ = some (.slice A518_2 ((rd_T32 l0_0 t517).f2).length c518_2) ∧ w'.cell? ⟨(ad518.add ((t517).toNat * 4)).block, (ad518.add ((t517).toNat * 4)).off + 3, none⟩ = some (.slice A518_3 ((rd_T32 l0_0 t517).f3).length c518_3)) (ds := []) #[false, false, false, false, false, false, false, false, false, false, false, false, false, false, false, false, false, false, false, false, false, false, false] (by kernel_rfl) rfl rfl ⟨(blk_cell BK492.out 0).trans rfl, hx516_0, ((HB.out.cell (World.block_lt_of_cell? w _ hw518_0)).trans hw518_0), ((HB.out.cell (World.block_lt_of_cell? w _ hw518_1)).trans hw518_1), ((HB.out.cell (World.block_lt_of_cell? w _ hw518_2)).trans hw518_2), ((HB.out.cell (World.block_lt_of_cell? w _ hw518_3)).trans hw518_3)⟩ (fun hHeld => ?_); refine with_tabW dataflowlaw10_HierOrder.tab9 dataflowlaw10_HierOrder.bits9 (fun HT_ HW_ => ?_)
              generalize w124.drew = w125 at HO514 BK492 HB HR518_2 HR518_3 hx516_0 hx518_0 hx518_1 hx518_2 hx518_3 hHeld ⊢
              refine pure_ (i := 0) (N := some 78) (v := ?_) (a' := ?_) #[true, false, false, false, false, false, false, false, false, false, false, false, false, false, false, false, false, false, false, false, false, false, false] rfl rfl (any_of HT_.out (by kernel_rfl)) (fun _ _ _ h => h) (Or.inl ⟨by rfl, ?_⟩) ?_ ?_
              rotate_left
              ·intro w'
               go_simp
               with_reducible rfl
              rotate_left
              ·simp only [Act.put, List.setIfInBounds_toArray, List.set_cons_zero, List.set_cons_succ, i64_w]
               rfl
              refine pure_ (i := 1) (N := some 79) (v := ?_) (a' := ?_) #[true, true, false, false, false, false, false, false, false, false, false, false, false, false, false, false, false, false, false, false, false, false, false] rfl rfl (any_of HT_.out (by kernel_rfl)) (fun _ _ _ h => h) (Or.inl ⟨by rfl, ?_⟩) ?_ ?_
              rotate_left
              ·intro w'
               go_simp
               with_reducible rfl
              rotate_left
              ·simp only [Act.put, List.setIfInBounds_toArray, List.set_cons_zero, List.set_cons_succ, i64_w]
               rfl
              refine pure_ (i := 2) (N := some 80) (v := ?_) (a' := ?_) #[true, true, true, false, false, false, false, false, false, false, false, false, false, false, false, false, false, false, false, false, false, false, false] rfl rfl (any_of HT_.out (by kernel_rfl)) (fun _ _ _ h => h) (Or.inl ⟨by rfl, ?_⟩) ?_ ?_
              rotate_left
              ·intro w'
               go_simp
               with_reducible rfl
              rotate_left
              ·simp only [Act.put, List.setIfInBounds_toArray, List.set_cons_zero, List.set_cons_succ, i64_w]
               rfl
              refine pure_ (i := 3) (N := some 81) (v := ?_) (a' := ?_) #[true, true, true, true, false, false, false, false, false, false, false, false, false, false, false, false, false, false, false, false, false, false, false] rfl rfl (any_of HT_.out (by kernel_rfl)) (fun _ _ _ h => h) (Or.inl ⟨by rfl, ?_⟩) ?_ ?_
              rotate_left
              ·intro w'
               go_simp
               with_reducible rfl
              rotate_left
              ·simp only [Act.put, List.setIfInBounds_toArray, List.set_cons_zero, List.set_cons_succ, i64_w]
               rfl
              refine pure_ (i := 4) (N := some 82) (v := ?_) (a' := ?_) #[true, true, true, true, true, false, false, false, false, false, false, false, false, false, false, false, false, false, false, false, false, false, false] rfl rfl (any_of HT_.out (by kernel_rfl)) (fun _ _ _ h => h) (Or.inl ⟨by rfl, ?_⟩) ?_ ?_
              rotate_left
              ·intro w'
               go_simp
               with_reducible rfl
              rotate_left
              ·simp only [Act.put, List.setIfInBounds_toArray, List.set_cons_zero, List.set_cons_succ, i64_w]
               rfl
              refine pure_ (i := 7) (N := some 85) (v := ?_) (a' := ?_) #[true, true, true, true, true, false, false, true, false, false, false, false, false, false, false, false, false, false, false, false, false, false, false] rfl rfl (any_of HT_.out (by kernel_rfl)) (fun _ _ _ h => h) (Or.inl ⟨by rfl, ?_⟩) ?_ ?_
              rotate_left
              ·intro w'
               go_simp
               with_reducible rfl
              rotate_left
              ·simp only [Act.put, List.setIfInBounds_toArray, List.set_cons_zero, List.set_cons_succ, i64_w]
               rfl
              refine pure_ (i := 8) (N := some 86) (v := ?_) (a' := ?_) #[true, true, true, true, true, false, false, true, true, false, false, false, false, false, false, false, false, false, false, false, false, false, false] rfl rfl (any_of HT_.out (by kernel_rfl)) (fun _ _ _ h => h) (Or.inl ⟨by rfl, ?_⟩) ?_ ?_
              rotate_left
              ·intro w'
               go_simp
               with_reducible rfl
              rotate_left
              ·simp only [Act.put, List.setIfInBounds_toArray, List.set_cons_zero, List.set_cons_succ, i64_w]
               rfl
              refine pure_ (i := 9) (N := some 87) (v := ?_) (a' := ?_) #[true, true, true, true, true, false, false, true, true, true, false, false, false, false, false, false, false, false, false, false, false, false, false] rfl rfl (any_of HT_.out (by kernel_rfl)) (fun _ _ _ h => h) (Or.inl ⟨by rfl, ?_⟩) ?_ ?_
              rotate_left
              ·intro w'
               go_simp
               with_reducible rfl
              rotate_left
              ·simp only [Act.put, List.setIfInBounds_toArray, List.set_cons_zero, List.set_cons_succ, i64_w]
               rfl
              refine pure_ (i := 10) (N := some 88) (v := ?_) (a' := ?_) #[true, true, true, true, true, false, false, true, true, true, true, false, false, false, false, false, false, false, false, false, false, false, false] rfl rfl (any_of HT_.out (by kernel_rfl)) (fun _ _ _ h => h) (Or.inl ⟨by rfl, ?_⟩) ?_ ?_
              rotate_left
              ·intro w'
               go_simp
               with_reducible rfl
              rotate_left
              ·simp only [Act.put, List.setIfInBounds_toArray, List.set_cons_zero, List.set_cons_succ, i64_w]
               rfl
              refine pure_ (i := 11) (N := some 89) (v := ?_) (a' := ?_) #[true, true, true, true, true, false, false, true, true, true, true, true, false, false, false, false, false, false, false, false, false, false, false] rfl rfl (any_of HT_.out (by kernel_rfl)) (fun _ _ _ h => h) (Or.inl ⟨by rfl, ?_⟩) ?_ ?_
              rotate_left
              ·intro w'
               go_simp
               with_reducible rfl
              rotate_left
              ·simp only [Act.put, List.setIfInBounds_toArray, List.set_cons_zero, List.set_cons_succ, i64_w]
               rfl
              refine take_ (i := 5) (N := some 83) (v := ?_) (a' := ?_) #[true, true, true, true, true, true, false, true, true, true, true, true, false, false, false, false, false, false, false, false, false, false, false] rfl rfl (take_ofW HT_.out HW_.out (by kernel_rfl)) (fun _ _ _ h => h) (Or.inl ⟨by rfl, ?_⟩) hHeld ?_ ?_
              rotate_left
              ·rintro w' ⟨s0, s1, s2, s3, s4, s5⟩
               go_simp
               with_reducible rfl
              rotate_left
              ·simp only [Act.put, List.setIfInBounds_toArray, List.set_cons_zero, List.set_cons_succ, i64_w]
               rfl
              refine take_ (i := 6) (N := some 84) (v := ?_) (a' := ?_) #[true, true, true, true, true, true, true, true, true, true, true, true, false, false, false, false, false, false, false, false, false, false, false] rfl rfl (take_ofW HT_.out HW_.out (by kernel_rfl)) (fun _ _ _ h => h) (Or.inl ⟨by rfl, ?_⟩) hHeld ?_ ?_
              rotate_left
              ·rintro w' ⟨s0, s1, s2, s3, s4, s5⟩
               go_simp
               with_reducible rfl
              rotate_left
              ·simp only [Act.put, List.setIfInBounds_toArray, List.set_cons_zero, List.set_cons_succ, i64_w]
               rfl
              refine take_ (i := 12) (N := some 90) (v := ?_) (a' := ?_) #[true, true, true, true, true, true, true, true, true, true, true, true, true, false, false, false, false, false, false, false, false, false, false] rfl rfl (take_ofW HT_.out HW_.out (by kernel_rfl)) (fun _ _ _ h => h) (Or.inl ⟨by rfl, ?_⟩) hHeld ?_ ?_
              rotate_left
              ·rintro w' ⟨s0, s1, s2, s3, s4, s5⟩
               go_simp
               with_reducible rfl
              rotate_left
              ·simp only [Act.put, List.setIfInBounds_toArray, List.set_cons_zero, List.set_cons_succ, i64_w]
               rfl
              refine one_ (i := 13) (N := some 91) #[true, true, true, true, true, true, true, true, true, true, true, true, true, true, false, false, false, false, false, false, false, false, false] rfl rfl (one_of HT_.out (by kernel_rfl)) (by decide) (fun K hK => ?_)
              refine goes_ Tryd.func17 (by kernel_rfl) rfl #[.agg #[.slice (some ad518) l0_0.length c0_0], .string (rdOf ByteArray.empty t512 (ji115))] (by rfl) rfl rfl (by (try simp only [List.map_toArray, List.map_cons, List.map_nil]); first | done | (simp only [hji115]; rfl) | rfl | (simp only [List.length_drop, List.length_take]; rfl)) ?_
              with_reducible refine (dataflowref10_Find.calls kj89 _ _ l0_0 (rdOf ByteArray.empty t512 (ji115)) t517 _ ?side1 ?side2 A118.out).mono ?_
              (case side1 => repeat (first | exact (Kd.C_below HR0_0.out HB.out) | (with_reducible refine Kd.C_alloc ?_ _) | (with_reducible refine Kd.C_drewN ?_ _) | (with_reducible refine Kd.C_drew ?_)))
              (case side2 => exact HC0_0.out)
              rintro e w127 ⟨rfl, hb⟩
              have HS1_ := (hb.cell (World.block_lt_of_cell? _ _ (hHeld.2.1))).trans (hHeld.2.1)
              refine ⟨_, rfl, ?_⟩
              have n0_ := Aside0.mk (Kd.R_below (by (with_reducible repeat first | apply Kd.R_alloc | apply Kd.R_drewN | apply Kd.R_drew); exact HO514.out) hb)
              have n1_ := Aside0.mk (blk_below (g := gb492) (o := .cells #[.slice (some ad518) l0_0.length c0_0] 24 (0, 0)) (by (with_reducible repeat first | apply bn | apply bd | apply ba); exact BK492.out) hb)
              have n2_ := Aside0.mk (below_step (by repeat with_reducible first | exact HB.out | apply below_alloc | apply pw_below_drewN | apply below_drew1 | refine below_set ?_ GE492.out) hb)
              clear HO514
              clear BK492
              clear HB
              have HO514 := n0_
              have BK492 := n1_
              have HB := n2_
              clear n0_ n1_ n2_
              (try clear hb)
              (try clear hb2)
              (try clear hk)
              (try clear hi)
              refine hK.out _ _ ⟨(blk_cell BK492.out 0).trans rfl, HS1_, ((HB.out.cell (World.block_lt_of_cell? w _ hw518_0)).trans hw518_0), ((HB.out.cell (World.block_lt_of_cell? w _ hw518_1)).trans hw518_1), ((HB.out.cell (World.block_lt_of_cell? w _ hw518_2)).trans hw518_2), ((HB.out.cell (World.block_lt_of_cell? w _ hw518_3)).trans hw518_3)⟩ (fun hHeld => ?_)
              clear hK K
              refine norm_ (a' := ?_) ?_ ?_
              rotate_left
              ·show Act.put _ (some 91) _ = _
               simp only [Act.put, List.setIfInBounds_toArray, List.set_cons_zero, List.set_cons_succ, i64_w]
               rfl
              refine pure_ (i := 14) (N := some 92) (v := ?_) (a' := ?_) #[true, true, true, true, true, true, true, true, true, true, true, true, true, true, true, false, false, false, false, false, false, false, false] rfl rfl (any_of HT_.out (by kernel_rfl)) (fun _ _ _ h => h) (Or.inl ⟨by rfl, ?_⟩) ?_ ?_
              rotate_left
              ·intro w'
               go_simp
               with_reducible rfl
              rotate_left
              ·simp only [Act.put, List.setIfInBounds_toArray, List.set_cons_zero, List.set_cons_succ, i64_w]
               rfl
              refine pure_ (i := 15) (N := some 93) (v := ?_) (a' := ?_) #[true, true, true, true, true, true, true, true, true, true, true, true, true, true, true, true, false, false, false, false, false, false, false] rfl rfl (any_of HT_.out (by kernel_rfl)) (fun _ _ _ h => h) (Or.inl ⟨by rfl, ?_⟩) ?_ ?_
              rotate_left
              ·intro w'
               go_simp
               with_reducible rfl
              rotate_left
              ·simp only [Act.put, List.setIfInBounds_toArray, List.set_cons_zero, List.set_cons_succ, i64_w]
               rfl
              refine take_ (i := 16) (N := some 94) (v := ?_) (a' := ?_) #[true, true, true, true, true, true, true, true, true, true, true, true, true, true, true, true, true, false, false, false, false, false, false] rfl rfl (take_ofW HT_.out HW_.out (by kernel_rfl)) (fun _ _ _ h => h) (Or.inl ⟨by rfl, ?_⟩) hHeld ?_ ?_
              rotate_left
              ·rintro w' ⟨s0, s1, s2, s3, s4, s5⟩
               go_simp
               with_reducible rfl
              rotate_left
              ·simp only [Act.put, List.setIfInBounds_toArray, List.set_cons_zero, List.set_cons_succ, i64_w]
               rfl
              refine pure_ (i := 17) (N := some 95) (v := ?_) (a' := ?_) #[true, true, true, true, true, true, true, true, true, true, true, true, true, true, true, true, true, true, false, false, false, false, false] rfl rfl (any_of HT_.out (by kernel_rfl)) (fun _ _ _ h => h) (Or.inl ⟨by rfl, ?_⟩) ?_ ?_
              rotate_left
              ·intro w'
               go_simp
               with_reducible rfl
              rotate_left
              ·simp only [Act.put, List.setIfInBounds_toArray, List.set_cons_zero, List.set_cons_succ, i64_w]
               rfl
              refine pure_ (i := 18) (N := some 96) (v := ?_) (a' := ?_) #[true, true, true, true, true, true, true, true, true, true, true, true, true, true, true, true, true, true, true, false, false, false, false] rfl rfl (any_of HT_.out (by kernel_rfl)) (fun _ _ _ h => h) (Or.inl ⟨by rfl, ?_⟩) ?_ ?_
              rotate_left
              ·intro w'
               go_simp
               with_reducible rfl
              rotate_left
              ·simp only [Act.put, List.setIfInBounds_toArray, List.set_cons_zero, List.set_cons_succ, i64_w]
               rfl
              refine pure_ (i := 19) (N := some 97) (v := ?_) (a' := ?_) #[true, true, true, true, true, true, true, true, true, true, true, true, true, true, true, true, true, true, true, true, false, false, false] rfl rfl (any_of HT_.out (by kernel_rfl)) (fun _ _ _ h => h) (Or.inl ⟨by rfl, ?_⟩) ?_ ?_
              rotate_left
              ·intro w'
               go_simp
               with_reducible rfl
              rotate_left
              ·simp only [Act.put, List.setIfInBounds_toArray, List.set_cons_zero, List.set_cons_succ, i64_w]
               rfl
              refine one_ (i := 20) (N := some 98) #[true, true, true, true, true, true, true, true, true, true, true, true, true, true, true, true, true, true, true, true, true, false, false] rfl rfl (one_of HT_.out (by kernel_rfl)) (by decide) (fun K hK => ?_)
              refine goes_ Tryd.func7 (by kernel_rfl) rfl #[] (by rfl) rfl rfl (by (try simp only [List.map_toArray, List.map_cons, List.map_nil]); first | done | rfl) ?_
              with_reducible refine (dataflowlaw10_awake.calls kj89  t519 _ A122.out).mono ?_
              rintro e w128 ⟨rfl, hb⟩
              have HS1_ := (hb.cell (World.block_lt_of_cell? _ _ (hHeld.2.1))).trans (hHeld.2.1)
              refine ⟨_, rfl, ?_⟩
              have n0_ := Aside0.mk (Kd.R_below (by (with_reducible repeat first | apply Kd.R_alloc | apply Kd.R_drewN | apply Kd.R_drew); exact HO514.out) hb)
              have n1_ := Aside0.mk (blk_below (g := gb492) (o := .cells #[.slice (some ad518) l0_0.length c0_0] 24 (0, 0)) (by (with_reducible repeat first | apply bn | apply bd | apply ba); exact BK492.out) hb)
              have n2_ := Aside0.mk (below_step (by repeat with_reducible first | exact HB.out | apply below_alloc | apply pw_below_drewN | apply below_drew1 | refine below_set ?_ GE492.out) hb)
              clear HO514
              clear BK492
              clear HB
              have HO514 := n0_
              have BK492 := n1_
              have HB := n2_
              clear n0_ n1_ n2_
              (try clear hb)
              (try clear hb2)
              (try clear hk)
              (try clear hi)
              refine hK.out _ _ ⟨(blk_cell BK492.out 0).trans rfl, HS1_, ((HB.out.cell (World.block_lt_of_cell? w _ hw518_0)).trans hw518_0), ((HB.out.cell (World.block_lt_of_cell? w _ hw518_1)).trans hw518_1), ((HB.out.cell (World.block_lt_of_cell? w _ hw518_2)).trans hw518_2), ((HB.out.cell (World.block_lt_of_cell? w _ hw518_3)).trans hw518_3)⟩ (fun hHeld => ?_)
              clear hK K
              refine norm_ (a' := ?_) ?_ ?_
              rotate_left
              ·show Act.put _ (some 98) _ = _
               simp only [Act.put, List.setIfInBounds_toArray, List.set_cons_zero, List.set_cons_succ, i64_w]
               rfl
              refine pure_ (i := 21) (N := some 99) (v := ?_) (a' := ?_) #[true, true, true, true, true, true, true, true, true, true, true, true, true, true, true, true, true, true, true, true, true, true, false] rfl rfl (any_of HT_.out (by kernel_rfl)) (fun _ _ _ h => h) (Or.inl ⟨by rfl, ?_⟩) ?_ ?_
              rotate_left
              ·intro w'
               go_simp
               with_reducible rfl
              rotate_left
              ·simp only [Act.put, List.setIfInBounds_toArray, List.set_cons_zero, List.set_cons_succ, i64_w]
               rfl
              refine pure_ (i := 22) (N := some 8) (v := ?_) (a' := ?_) #[true, true, true, true, true, true, true, true, true, true, true, true, true, true, true, true, true, true, true, true, true, true, true] rfl rfl (any_of HT_.out (by kernel_rfl)) (fun _ _ _ h => h) (Or.inl ⟨by rfl, ?_⟩) ?_ ?_
              rotate_left
              ·intro w'
               go_simp
               with_reducible rfl
              rotate_left
              ·simp only [Act.put, List.setIfInBounds_toArray, List.set_cons_zero, List.set_cons_succ, i64_w]
               rfl
              refine done_ (done_of HT_.out (by kernel_rfl)) ?_
              try go_wp2
              go_ret
              exact ⟨by first | rfl | (simp [errW_none, errW_some] <;> rfl) | (simp only [← hji115]; first | rfl | (simp [errW_none, errW_some] <;> rfl)) | (simp [*, errW_none, errW_some] <;> rfl), by repeat with_reducible first | exact HB.out | apply below_alloc | apply pw_below_drewN | apply below_drew1 | refine below_set ?_ GE492.out⟩
             ·rw [if_neg c121] at H
              have c121b0 : (((rd_T32 l0_0 t517).f1).toList == ([] : List UInt8)) = false := beq_eq_false_iff_ne.mpr c121
              have c121b1 : (((rd_T32 l0_0 t517).f1).toList != ([] : List UInt8)) = true := bne_iff_ne.mpr c121
              obtain rfl := Option.some.inj H
              have hcz129_0 : wc.cell? ⟨gb492, 0, none⟩ = some (.slice A0_0 l0_0.length c0_0) := (blk_cell BK492.out 0).trans rfl
              have hfz129_0 := blk_frozen BK492.out 0
              try go_wp2_with (first | ((with_reducible refine gate_callee (f := 16) rfl ?_); refine goesL_ (some 77) rfl rfl Tryd.func16 (by kernel_rfl) rfl #[.agg #[.slice A0_0 l0_0.length c0_0], .string a1] rfl (by (try simp only [List.map_toArray, List.map_cons, List.map_nil]); first | done | rfl) ?_; (with_reducible refine (hier_Supers.calls kj89 _ _ l0_0 a1 t512 _ ?side1 ?side2 A107.out).mono ?_); (case side1 => repeat (first | exact (Kd.C_below HR0_0.out HB.out) | (with_reducible refine Kd.C_alloc ?_ _) | (with_reducible refine Kd.C_drewN ?_ _) | (with_reducible refine Kd.C_drew ?_))); (case side2 => exact HC0_0.out); rintro e w130 ⟨v513, rfl, ho0, hb⟩; refine ⟨_, rfl, ?_⟩; have n0_ := Aside0.mk (Kd.R_lower ho0 (below_size (by repeat with_reducible first | exact HB.out | apply below_alloc | apply pw_below_drewN | apply below_drew1 | refine below_set ?_ GE492.out))); have n1_ := Aside0.mk (blk_below (g := gb492) (o := .cells #[.slice A0_0 l0_0.length c0_0] 24 (0, 0)) (by (with_reducible repeat first | apply bn | apply bd | apply ba); exact BK492.out) hb); have n2_ := Aside0.mk (below_step (by repeat with_reducible first | exact HB.out | apply below_alloc | apply pw_below_drewN | apply below_drew1 | refine below_set ?_ GE492.out) hb); clear BK492; clear HB; have HO514 := n0_; have BK492 := n1_; have HB := n2_; clear n0_ n1_ n2_; (try clear hb); (try clear hb2); (try clear hk); (try clear hi); (try clear ho0)))
              have n0_ := Aside0.mk (Kd.R_drew HO514.out)
              have n1_ := Aside0.mk (blk_drew BK492.out)
              have n2_ := Aside0.mk (below_drew1 HB.out)
              clear HO514
              clear BK492
              clear HB
              have HO514 := n0_
              have BK492 := n1_
              have HB := n2_
              clear n0_ n1_ n2_
              obtain ⟨Ao132, co132, eo132⟩ := Kd.R_slice HO514.out
              (first | subst eo132 | (injection eo132 with f1_ f2_ f3_; have f4_ := f1_.symm; have f5_ := f3_.symm; clear f1_ f2_ f3_; subst f4_; subst f5_))
              have p516 : 0 ≤ ((ji115) : Int) := of_decide_eq_true (by first | (with_reducible assumption) | assumption)
              have q516 : (ji115) < (t512.length : Int) := of_decide_eq_true (by first | (with_reducible assumption) | assumption)
              obtain ⟨ad516, e516, hx516_0⟩ := Kd.at_string (Kd.R_reads' HO514.out).2.2 (ji115) p516 q516
              cases e516
              replace p516 := eq_true p516
              replace q516 := eq_true q516
              have p518 : 0 ≤ (t517 : Int) := of_decide_eq_true (by first | (with_reducible assumption) | assumption)
              have q518 : t517 < (l0_0.length : Int) := of_decide_eq_true (by first | (with_reducible assumption) | assumption)
              obtain ⟨ad518, A518_2, c518_2, A518_3, c518_3, e518, hx518_0, hx518_1, hx518_2, hx518_3, hl518_2, hi518_2, hl518_3, hi518_3⟩ := at_T32 HR0_0.out t517 p518 q518
              have hw518_3 := hx518_3
              have hw518_2 := hx518_2
              have hw518_1 := hx518_1
              have hw518_0 := hx518_0
              cases e518
              replace hx518_0 := (HB.out.cell (World.block_lt_of_cell? w _ hx518_0)).trans hx518_0
              replace hx518_1 := (HB.out.cell (World.block_lt_of_cell? w _ hx518_1)).trans hx518_1
              replace hx518_2 := (HB.out.cell (World.block_lt_of_cell? w _ hx518_2)).trans hx518_2
              replace hx518_3 := (HB.out.cell (World.block_lt_of_cell? w _ hx518_3)).trans hx518_3
              have HR518_2 := Aside0.mk hi518_2
              have HC518_2 := Aside0.mk hl518_2
              clear hi518_2 hl518_2
              have HR518_3 := Aside0.mk hi518_3
              have HC518_3 := Aside0.mk hl518_3
              clear hi518_3 hl518_3
              replace p518 := eq_true p518
              replace q518 := eq_true q518
              refine start_ (n := 23) (S := fun w' => w'.cell? ⟨gb492, 0, none⟩ = some (.slice (some ad518) l0_0.length c0_0) ∧ w'.cell? (ad516.add ((ji115)).toNat) = some (.string (rdOf ByteArray.empty t512 (ji115))) ∧ w'.cell? (ad518.add ((t517).toNat * 4)) = some (.string ((rd_T32 l0_0 t517).f0)) ∧ w'.cell? ⟨(ad518.add ((t517).toNat * 4)).block, (ad518.add ((t517).toNat * 4)).off + 1, none⟩ = some (.string ((rd_T32 l0_0 t517).f1)) ∧ w'.cell? ⟨(ad518.add ((t517).toNat * 4)).block, (ad518.add ((t517).toNat * 4)).off + 2, none⟩ = some (.slice A518_2 ((rd_T32 l0_0 t517).f2).length c518_2) ∧ w'.cell? ⟨(ad518.add ((t517).toNat * 4)).block, (ad518.add ((t517).toNat * 4)).off + 3, none⟩ = some (.slice A518_3 ((rd_T32 l0_0 t517).f3).length c518_3)) (ds := []) #[false, false, false, false, false, false, false, false, false, false, false, false, false, false, false, false, false, false, false, false, false, false, false] (by kernel_rfl) rfl rfl ⟨(blk_cell BK492.out 0).trans rfl, hx516_0, ((HB.out.cell (World.block_lt_of_cell? w _ hw518_0)).trans hw518_0), ((HB.out.cell (World.block_lt_of_cell? w _ hw518_1)).trans hw518_1), ((HB.out.cell (World.block_lt_of_cell? w _ hw518_2)).trans hw518_2), ((HB.out.cell (World.block_lt_of_cell? w _ hw518_3)).trans hw518_3)⟩ (fun hHeld => ?_); refine with_tabW dataflowlaw10_HierOrder.tab9 dataflowlaw10_HierOrder.bits9 (fun HT_ HW_ => ?_)
              generalize w130.drew = w131 at HO514 BK492 HB HR518_2 HR518_3 hx516_0 hx518_0 hx518_1 hx518_2 hx518_3 hHeld ⊢
              refine pure_ (i := 0) (N := some 78) (v := ?_) (a' := ?_) #[true, false, false, false, false, false, false, false, false, false, false, false, false, false, false, false, false, false, false, false, false, false, false] rfl rfl (any_of HT_.out (by kernel_rfl)) (fun _ _ _ h => h) (Or.inl ⟨by rfl, ?_⟩) ?_ ?_
              rotate_left
              ·intro w'
               go_simp
               with_reducible rfl
              rotate_left
              ·simp only [Act.put, List.setIfInBounds_toArray, List.set_cons_zero, List.set_cons_succ, i64_w]
               rfl
              refine pure_ (i := 1) (N := some 79) (v := ?_) (a' := ?_) #[true, true, false, false, false, false, false, false, false, false, false, false, false, false, false, false, false, false, false, false, false, false, false] rfl rfl (any_of HT_.out (by kernel_rfl)) (fun _ _ _ h => h) (Or.inl ⟨by rfl, ?_⟩) ?_ ?_
              rotate_left
              ·intro w'
               go_simp
               with_reducible rfl
              rotate_left
              ·simp only [Act.put, List.setIfInBounds_toArray, List.set_cons_zero, List.set_cons_succ, i64_w]
               rfl
              refine pure_ (i := 2) (N := some 80) (v := ?_) (a' := ?_) #[true, true, true, false, false, false, false, false, false, false, false, false, false, false, false, false, false, false, false, false, false, false, false] rfl rfl (any_of HT_.out (by kernel_rfl)) (fun _ _ _ h => h) (Or.inl ⟨by rfl, ?_⟩) ?_ ?_
              rotate_left
              ·intro w'
               go_simp
               with_reducible rfl
              rotate_left
              ·simp only [Act.put, List.setIfInBounds_toArray, List.set_cons_zero, List.set_cons_succ, i64_w]
               rfl
              refine pure_ (i := 3) (N := some 81) (v := ?_) (a' := ?_) #[true, true, true, true, false, false, false, false, false, false, false, false, false, false, false, false, false, false, false, false, false, false, false] rfl rfl (any_of HT_.out (by kernel_rfl)) (fun _ _ _ h => h) (Or.inl ⟨by rfl, ?_⟩) ?_ ?_
              rotate_left
              ·intro w'
               go_simp
               with_reducible rfl
              rotate_left
              ·simp only [Act.put, List.setIfInBounds_toArray, List.set_cons_zero, List.set_cons_succ, i64_w]
               rfl
              refine pure_ (i := 4) (N := some 82) (v := ?_) (a' := ?_) #[true, true, true, true, true, false, false, false, false, false, false, false, false, false, false, false, false, false, false, false, false, false, false] rfl rfl (any_of HT_.out (by kernel_rfl)) (fun _ _ _ h => h) (Or.inl ⟨by rfl, ?_⟩) ?_ ?_
              rotate_left
              ·intro w'
               go_simp
               with_reducible rfl
              rotate_left
              ·simp only [Act.put, List.setIfInBounds_toArray, List.set_cons_zero, List.set_cons_succ, i64_w]
               rfl
              refine pure_ (i := 7) (N := some 85) (v := ?_) (a' := ?_) #[true, true, true, true, true, false, false, true, false, false, false, false, false, false, false, false, false, false, false, false, false, false, false] rfl rfl (any_of HT_.out (by kernel_rfl)) (fun _ _ _ h => h) (Or.inl ⟨by rfl, ?_⟩) ?_ ?_
              rotate_left
              ·intro w'
               go_simp
               with_reducible rfl
              rotate_left
              ·simp only [Act.put, List.setIfInBounds_toArray, List.set_cons_zero, List.set_cons_succ, i64_w]
               rfl
              refine pure_ (i := 8) (N := some 86) (v := ?_) (a' := ?_) #[true, true, true, true, true, false, false, true, true, false, false, false, false, false, false, false, false, false, false, false, false, false, false] rfl rfl (any_of HT_.out (by kernel_rfl)) (fun _ _ _ h => h) (Or.inl ⟨by rfl, ?_⟩) ?_ ?_
              rotate_left
              ·intro w'
               go_simp
               with_reducible rfl
              rotate_left
              ·simp only [Act.put, List.setIfInBounds_toArray, List.set_cons_zero, List.set_cons_succ, i64_w]
               rfl
              refine pure_ (i := 9) (N := some 87) (v := ?_) (a' := ?_) #[true, true, true, true, true, false, false, true, true, true, false, false, false, false, false, false, false, false, false, false, false, false, false] rfl rfl (any_of HT_.out (by kernel_rfl)) (fun _ _ _ h => h) (Or.inl ⟨by rfl, ?_⟩) ?_ ?_
              rotate_left
              ·intro w'
               go_simp
               with_reducible rfl
              rotate_left
              ·simp only [Act.put, List.setIfInBounds_toArray, List.set_cons_zero, List.set_cons_succ, i64_w]
               rfl
              refine pure_ (i := 10) (N := some 88) (v := ?_) (a' := ?_) #[true, true, true, true, true, false, false, true, true, true, true, false, false, false, false, false, false, false, false, false, false, false, false] rfl rfl (any_of HT_.out (by kernel_rfl)) (fun _ _ _ h => h) (Or.inl ⟨by rfl, ?_⟩) ?_ ?_
              rotate_left
              ·intro w'
               go_simp
               with_reducible rfl
              rotate_left
              ·simp only [Act.put, List.setIfInBounds_toArray, List.set_cons_zero, List.set_cons_succ, i64_w]
               rfl
              refine pure_ (i := 11) (N := some 89) (v := ?_) (a' := ?_) #[true, true, true, true, true, false, false, true, true, true, true, true, false, false, false, false, false, false, false, false, false, false, false] rfl rfl (any_of HT_.out (by kernel_rfl)) (fun _ _ _ h => h) (Or.inl ⟨by rfl, ?_⟩) ?_ ?_
              rotate_left
              ·intro w'
               go_simp
               with_reducible rfl
              rotate_left
              ·simp only [Act.put, List.setIfInBounds_toArray, List.set_cons_zero, List.set_cons_succ, i64_w]
               rfl
              refine take_ (i := 5) (N := some 83) (v := ?_) (a' := ?_) #[true, true, true, true, true, true, false, true, true, true, true, true, false, false, false, false, false, false, false, false, false, false, false] rfl rfl (take_ofW HT_.out HW_.out (by kernel_rfl)) (fun _ _ _ h => h) (Or.inl ⟨by rfl, ?_⟩) hHeld ?_ ?_
              rotate_left
              ·rintro w' ⟨s0, s1, s2, s3, s4, s5⟩
               go_simp
               with_reducible rfl
              rotate_left
              ·simp only [Act.put, List.setIfInBounds_toArray, List.set_cons_zero, List.set_cons_succ, i64_w]
               rfl
              refine take_ (i := 6) (N := some 84) (v := ?_) (a' := ?_) #[true, true, true, true, true, true, true, true, true, true, true, true, false, false, false, false, false, false, false, false, false, false, false] rfl rfl (take_ofW HT_.out HW_.out (by kernel_rfl)) (fun _ _ _ h => h) (Or.inl ⟨by rfl, ?_⟩) hHeld ?_ ?_
              rotate_left
              ·rintro w' ⟨s0, s1, s2, s3, s4, s5⟩
               go_simp
               with_reducible rfl
              rotate_left
              ·simp only [Act.put, List.setIfInBounds_toArray, List.set_cons_zero, List.set_cons_succ, i64_w]
               rfl
              refine take_ (i := 12) (N := some 90) (v := ?_) (a' := ?_) #[true, true, true, true, true, true, true, true, true, true, true, true, true, false, false, false, false, false, false, false, false, false, false] rfl rfl (take_ofW HT_.out HW_.out (by kernel_rfl)) (fun _ _ _ h => h) (Or.inl ⟨by rfl, ?_⟩) hHeld ?_ ?_
              rotate_left
              ·rintro w' ⟨s0, s1, s2, s3, s4, s5⟩
               go_simp
               with_reducible rfl
              rotate_left
              ·simp only [Act.put, List.setIfInBounds_toArray, List.set_cons_zero, List.set_cons_succ, i64_w]
               rfl
              refine one_ (i := 13) (N := some 91) #[true, true, true, true, true, true, true, true, true, true, true, true, true, true, false, false, false, false, false, false, false, false, false] rfl rfl (one_of HT_.out (by kernel_rfl)) (by decide) (fun K hK => ?_)
              refine goes_ Tryd.func17 (by kernel_rfl) rfl #[.agg #[.slice (some ad518) l0_0.length c0_0], .string (rdOf ByteArray.empty t512 (ji115))] (by rfl) rfl rfl (by (try simp only [List.map_toArray, List.map_cons, List.map_nil]); first | done | (simp only [hji115]; rfl) | rfl | (simp only [List.length_drop, List.length_take]; rfl)) ?_
              with_reducible refine (dataflowref10_Find.calls kj89 _ _ l0_0 (rdOf ByteArray.empty t512 (ji115)) t517 _ ?side1 ?side2 A118.out).mono ?_
              (case side1 => repeat (first | exact (Kd.C_below HR0_0.out HB.out) | (with_reducible refine Kd.C_alloc ?_ _) | (with_reducible refine Kd.C_drewN ?_ _) | (with_reducible refine Kd.C_drew ?_)))
              (case side2 => exact HC0_0.out)
              rintro e w133 ⟨rfl, hb⟩
              have HS1_ := (hb.cell (World.block_lt_of_cell? _ _ (hHeld.2.1))).trans (hHeld.2.1)
              refine ⟨_, rfl, ?_⟩
              have n0_ := Aside0.mk (Kd.R_below (by (with_reducible repeat first | apply Kd.R_alloc | apply Kd.R_drewN | apply Kd.R_drew); exact HO514.out) hb)
              have n1_ := Aside0.mk (blk_below (g := gb492) (o := .cells #[.slice (some ad518) l0_0.length c0_0] 24 (0, 0)) (by (with_reducible repeat first | apply bn | apply bd | apply ba); exact BK492.out) hb)
              have n2_ := Aside0.mk (below_step (by repeat with_reducible first | exact HB.out | apply below_alloc | apply pw_below_drewN | apply below_drew1 | refine below_set ?_ GE492.out) hb)
              clear HO514
              clear BK492
              clear HB
              have HO514 := n0_
              have BK492 := n1_
              have HB := n2_
              clear n0_ n1_ n2_
              (try clear hb)
              (try clear hb2)
              (try clear hk)
              (try clear hi)
              refine hK.out _ _ ⟨(blk_cell BK492.out 0).trans rfl, HS1_, ((HB.out.cell (World.block_lt_of_cell? w _ hw518_0)).trans hw518_0), ((HB.out.cell (World.block_lt_of_cell? w _ hw518_1)).trans hw518_1), ((HB.out.cell (World.block_lt_of_cell? w _ hw518_2)).trans hw518_2), ((HB.out.cell (World.block_lt_of_cell? w _ hw518_3)).trans hw518_3)⟩ (fun hHeld => ?_)
              clear hK K
              refine norm_ (a' := ?_) ?_ ?_
              rotate_left
              ·show Act.put _ (some 91) _ = _
               simp only [Act.put, List.setIfInBounds_toArray, List.set_cons_zero, List.set_cons_succ, i64_w]
               rfl
              refine pure_ (i := 14) (N := some 92) (v := ?_) (a' := ?_) #[true, true, true, true, true, true, true, true, true, true, true, true, true, true, true, false, false, false, false, false, false, false, false] rfl rfl (any_of HT_.out (by kernel_rfl)) (fun _ _ _ h => h) (Or.inl ⟨by rfl, ?_⟩) ?_ ?_
              rotate_left
              ·intro w'
               go_simp
               with_reducible rfl
              rotate_left
              ·simp only [Act.put, List.setIfInBounds_toArray, List.set_cons_zero, List.set_cons_succ, i64_w]
               rfl
              refine pure_ (i := 15) (N := some 93) (v := ?_) (a' := ?_) #[true, true, true, true, true, true, true, true, true, true, true, true, true, true, true, true, false, false, false, false, false, false, false] rfl rfl (any_of HT_.out (by kernel_rfl)) (fun _ _ _ h => h) (Or.inl ⟨by rfl, ?_⟩) ?_ ?_
              rotate_left
              ·intro w'
               go_simp
               with_reducible rfl
              rotate_left
              ·simp only [Act.put, List.setIfInBounds_toArray, List.set_cons_zero, List.set_cons_succ, i64_w]
               rfl
              refine take_ (i := 16) (N := some 94) (v := ?_) (a' := ?_) #[true, true, true, true, true, true, true, true, true, true, true, true, true, true, true, true, true, false, false, false, false, false, false] rfl rfl (take_ofW HT_.out HW_.out (by kernel_rfl)) (fun _ _ _ h => h) (Or.inl ⟨by rfl, ?_⟩) hHeld ?_ ?_
              rotate_left
              ·rintro w' ⟨s0, s1, s2, s3, s4, s5⟩
               go_simp
               with_reducible rfl
              rotate_left
              ·simp only [Act.put, List.setIfInBounds_toArray, List.set_cons_zero, List.set_cons_succ, i64_w]
               rfl
              refine pure_ (i := 17) (N := some 95) (v := ?_) (a' := ?_) #[true, true, true, true, true, true, true, true, true, true, true, true, true, true, true, true, true, true, false, false, false, false, false] rfl rfl (any_of HT_.out (by kernel_rfl)) (fun _ _ _ h => h) (Or.inl ⟨by rfl, ?_⟩) ?_ ?_
              rotate_left
              ·intro w'
               go_simp
               with_reducible rfl
              rotate_left
              ·simp only [Act.put, List.setIfInBounds_toArray, List.set_cons_zero, List.set_cons_succ, i64_w]
               rfl
              refine pure_ (i := 18) (N := some 96) (v := ?_) (a' := ?_) #[true, true, true, true, true, true, true, true, true, true, true, true, true, true, true, true, true, true, true, false, false, false, false] rfl rfl (any_of HT_.out (by kernel_rfl)) (fun _ _ _ h => h) (Or.inl ⟨by rfl, ?_⟩) ?_ ?_
              rotate_left
              ·intro w'
               go_simp
               with_reducible rfl
              rotate_left
              ·simp only [Act.put, List.setIfInBounds_toArray, List.set_cons_zero, List.set_cons_succ, i64_w]
               rfl
              refine pure_ (i := 19) (N := some 97) (v := ?_) (a' := ?_) #[true, true, true, true, true, true, true, true, true, true, true, true, true, true, true, true, true, true, true, true, false, false, false] rfl rfl (any_of HT_.out (by kernel_rfl)) (fun _ _ _ h => h) (Or.inl ⟨by rfl, ?_⟩) ?_ ?_
              rotate_left
              ·intro w'
               go_simp
               with_reducible rfl
              rotate_left
              ·simp only [Act.put, List.setIfInBounds_toArray, List.set_cons_zero, List.set_cons_succ, i64_w]
               rfl
              refine pure_ (i := 20) (N := some 98) (v := undef) (a' := ?_) #[true, true, true, true, true, true, true, true, true, true, true, true, true, true, true, true, true, true, true, true, true, false, false] rfl rfl (any_of HT_.out (by kernel_rfl)) (fun _ _ _ h => h) (Or.inr ⟨by rfl, rfl⟩) ?_ ?_
              rotate_left
              ·simp only [Act.put, List.setIfInBounds_toArray, List.set_cons_zero, List.set_cons_succ, i64_w]
               rfl
              refine pure_ (i := 21) (N := some 99) (v := ?_) (a' := ?_) #[true, true, true, true, true, true, true, true, true, true, true, true, true, true, true, true, true, true, true, true, true, true, false] rfl rfl (any_of HT_.out (by kernel_rfl)) (fun _ _ _ h => h) (Or.inl ⟨by rfl, ?_⟩) ?_ ?_
              rotate_left
              ·intro w'
               go_simp
               with_reducible rfl
              rotate_left
              ·simp only [Act.put, List.setIfInBounds_toArray, List.set_cons_zero, List.set_cons_succ, i64_w]
               rfl
              refine pure_ (i := 22) (N := some 8) (v := ?_) (a' := ?_) #[true, true, true, true, true, true, true, true, true, true, true, true, true, true, true, true, true, true, true, true, true, true, true] rfl rfl (any_of HT_.out (by kernel_rfl)) (fun _ _ _ h => h) (Or.inl ⟨by rfl, ?_⟩) ?_ ?_
              rotate_left
              ·intro w'
               go_simp
               with_reducible rfl
              rotate_left
              ·simp only [Act.put, List.setIfInBounds_toArray, List.set_cons_zero, List.set_cons_succ, i64_w]
               rfl
              refine done_ (done_of HT_.out (by kernel_rfl)) ?_
              try go_wp2
              go_ret
              exact ⟨by first | rfl | (simp [errW_none, errW_some] <;> rfl) | (simp only [← hji115]; first | rfl | (simp [errW_none, errW_some] <;> rfl)) | (simp [*, errW_none, errW_some] <;> rfl), by repeat with_reducible first | exact HB.out | apply below_alloc | apply pw_below_drewN | apply below_drew1 | refine below_set ?_ GE492.out⟩
            ·rw [if_neg c120] at H
             exact absurd H (by simp)
           ·rw [if_neg c119] at H
            exact absurd H (by simp)
          ·rw [if_neg c117] at H
           exact absurd H (by simp)
         ·rw [if_neg c116] at H
          exact absurd H (by simp)
 ·rw [if_neg c6] at H
  have c6b0 : (t494 == 0) = false := beq_eq_false_iff_ne.mpr c6
  have c6b1 : (t494 != 0) = true := bne_iff_ne.mpr c6
  replace H := Option.bind_eq_some_iff.mp H
  obtain ⟨t495, A1340, H⟩ := H
  replace H : (some t495) = some r := H
  have A134 := Aside0.mk A1340
  clear A1340
  obtain rfl := Option.some.inj H
  go_enter Tryd.func4, Tryd.ntmps4
  go_wp2_with (first | ((with_reducible refine gate_dst (N := 4) rfl ?_); (try (refine gate_guard (by rfl) ?_; dsimp only)); refine box_event ?hg (N := 4) ?hd (cs := #[.slice A0_0 l0_0.length c0_0]) (t := 24) ?hr ?_; (case hd => rfl); (case hg => rfl); (case hr => first | (go_simp; done) | (go_simp; rfl)); intro gb492 hg w135 hbox hb; have n0_ := Aside0.mk (below_step (by repeat with_reducible first | exact HB.out | apply below_alloc | apply pw_below_drewN | apply below_drew1) hb); have n1_ := Aside0.mk (hbox); have n2_ := Aside0.mk ((by rw [hg]; exact (below_size (by repeat with_reducible first | exact HB.out | apply below_alloc | apply pw_below_drewN | apply below_drew1)) : w.heap.size ≤ gb492)); have n3_ := Aside0.mk ((by rw [hg]; exact (below_size (by repeat with_reducible first | exact HB.out | apply below_alloc | apply pw_below_drewN | apply below_drew1)) : w.heap.size ≤ gb492)); clear HB; have HB := n0_; have BK492 := n1_; have GW492 := n2_; have GE492 := n3_; clear n0_ n1_ n2_ n3_; clear hb hbox hg; have hcz136_0 : w135.cell? ⟨gb492, 0, none⟩ = some (.slice A0_0 l0_0.length c0_0) := (blk_cell BK492.out 0).trans rfl; have hfz136_0 := blk_frozen BK492.out 0) | ((with_reducible refine gate_callee (f := 6) rfl ?_); refine goesL_ (some 14) rfl rfl Tryd.func6 (by kernel_rfl) rfl #[.agg #[.slice A0_0 l0_0.length c0_0]] rfl (by (try simp only [List.map_toArray, List.map_cons, List.map_nil]); first | done | rfl) ?_; (with_reducible refine (hier_Check.calls k _ _ l0_0 t493 t494 _ ?side1 ?side2 A5.out ?sideT).mono ?_); (case sideT => first | exact HTB_.out | exact HTB_.out.below (by repeat with_reducible first | exact HB.out | apply below_alloc | apply pw_below_drewN | apply below_drew1 | refine below_set ?_ GE492.out)); (case side1 => repeat (first | exact (Kd.C_below HR0_0.out HB.out) | (with_reducible refine Kd.C_alloc ?_ _) | (with_reducible refine Kd.C_drewN ?_ _) | (with_reducible refine Kd.C_drew ?_))); (case side2 => exact HC0_0.out); rintro e w137 ⟨rfl, hb⟩; refine ⟨_, rfl, ?_⟩; have n0_ := Aside0.mk (blk_below (g := gb492) (o := .cells #[.slice A0_0 l0_0.length c0_0] 24 (0, 0)) (by (with_reducible repeat first | apply bn | apply bd | apply ba); exact BK492.out) hb); have n1_ := Aside0.mk (below_step (by repeat with_reducible first | exact HB.out | apply below_alloc | apply pw_below_drewN | apply below_drew1 | refine below_set ?_ GE492.out) hb); clear BK492; clear HB; have BK492 := n0_; have HB := n1_; clear n0_ n1_; (try clear hb); (try clear hb2); (try clear hk); (try clear hi)) | ((with_reducible refine gate_callee (f := 7) rfl ?_); refine goesL_ (some 19) rfl rfl Tryd.func7 (by kernel_rfl) rfl #[] rfl (by (try simp only [List.map_toArray, List.map_cons, List.map_nil]); first | done | rfl) ?_; (with_reducible refine (dataflowlaw10_awake.calls k  t495 _ A134.out).mono ?_); rintro e w138 ⟨rfl, hb⟩; refine ⟨_, rfl, ?_⟩; have n0_ := Aside0.mk (blk_below (g := gb492) (o := .cells #[.slice A0_0 l0_0.length c0_0] 24 (0, 0)) (by (with_reducible repeat first | apply bn | apply bd | apply ba); exact BK492.out) hb); have n1_ := Aside0.mk (below_step (by repeat with_reducible first | exact HB.out | apply below_alloc | apply pw_below_drewN | apply below_drew1 | refine below_set ?_ GE492.out) hb); clear BK492; clear HB; have BK492 := n0_; have HB := n1_; clear n0_ n1_; (try clear hb); (try clear hb2); (try clear hk); (try clear hi)))
  go_ret
  exact ⟨by first | rfl | (simp [errW_none, errW_some] <;> rfl) | (simp [*, errW_none, errW_some] <;> rfl), by repeat with_reducible first | exact HB.out | apply below_alloc | apply pw_below_drewN | apply below_drew1 | refine below_set ?_ GE492.out⟩

end Go.Proofs.YtkbclcecmcdlfaaDoor.PD
