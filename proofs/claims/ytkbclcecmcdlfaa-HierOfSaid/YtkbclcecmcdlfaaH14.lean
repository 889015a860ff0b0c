/- Printed by a program of this session out of the translation: plain functions with the answers of the Go functions, and the proofs that they have them. -/
import Derived.Test.YtkbclcecmcdlfaaPHx0
namespace Go.Proofs.Ytkbclcecmcdlfaa.PH
open Go.RowKit Go.Proofs.YtkbclcecmcdlfaaW.PrintWords Go.Proofs.YtkbclcecmcdlfaaW.PrintLast Go.Proofs.YtkbclcecmcdlfaaW.PrintMore
attribute [local go_sem] max2_int min2_int max_two min_two max_three min_three max_four min_four   -- for this text's walks alone
set_option linter.unusedVariables false
set_option linter.unusedSimpArgs false

/-! ### dataflowref10_Of: function 6 -/
mutual
def dataflowref10_Of.l0 : Nat → Int → List (S44) → List (S35) → Option ((List (S35)))
 | 0, _, _, _ => none
 | k + 1, x4, x156000, x158000 => if x4 < (x156000.length : Int) then (if 0 ≤ x4 then ((some (([] : List (S37)) : List (S37))).bind fun y160 => (if y160.length + ((rd_T44 x156000 x4).f2).length < 4398046511104 then (dataflowref10_Of.l1 k x4 0 x156000 x158000 ((rd_T44 x156000 x4).f0) ((rd_T44 x156000 x4).f1) ((rd_T44 x156000 x4).f2) ((rd_T44 x156000 x4).f3) ((rd_T44 x156000 x4).f0) ((rd_T44 x156000 x4).f1) (y160 ++ ((rd_T44 x156000 x4).f2)) ([] : List (S40))) else (none))) else (none)) else (some x158000)
def dataflowref10_Of.l1 : Nat → Int → Int → List (S44) → List (S35) → ByteArray → ByteArray → List (S37) → List (S48) → ByteArray → ByteArray → List (S37) → List (S40) → Option ((List (S35)))
 | 0, _, _, _, _, _, _, _, _, _, _, _, _ => none
 | k + 1, x4, x7, x156000, x158000, x160000, x160001, x160002, x160003, x167000, x167001, x167002, x167003 => if x7 < (x160003.length : Int) then (if 0 ≤ x7 then (dataflowref10_Of.l2 k x4 x7 0 x156000 x158000 x160000 x160001 x160002 x160003 x167000 x167001 x167002 x167003 ((rd_T48 x160003 x7).f0) ((rd_T48 x160003 x7).f1) ((rd_T48 x160003 x7).f2) ((rd_T48 x160003 x7).f3) ((rd_T48 x160003 x7).f4) ((rd_T48 x160003 x7).f0) ((rd_T48 x160003 x7).f1) ([] : List ByteArray) ((rd_T48 x160003 x7).f3)) else (none)) else (if x158000.length < 1759218604441 then (dataflowref10_Of.l0 k (wrap64 (x4 + 1)) x156000 (x158000 ++ [(⟨x167000, x167001, x167002, x167003⟩ : S35)])) else (none))
def dataflowref10_Of.l2 : Nat → Int → Int → Int → List (S44) → List (S35) → ByteArray → ByteArray → List (S37) → List (S48) → ByteArray → ByteArray → List (S37) → List (S40) → ByteArray → Bool → List (S37) → ByteArray → List (S114) → ByteArray → Bool → List ByteArray → ByteArray → Option ((List (S35)))
 | 0, _, _, _, _, _, _, _, _, _, _, _, _, _, _, _, _, _, _, _, _, _, _ => none
 | k + 1, x4, x7, x10, x156000, x158000, x160000, x160001, x160002, x160003, x167000, x167001, x167002, x167003, x172000, x172001, x172002, x172003, x172004, x173000, x173001, x173002, x173003 => if x10 < (x172002.length : Int) then (if 0 ≤ x10 then (if x173002.length < 8796093022208 then (dataflowref10_Of.l2 k x4 x7 (wrap64 (x10 + 1)) x156000 x158000 x160000 x160001 x160002 x160003 x167000 x167001 x167002 x167003 x172000 x172001 x172002 x172003 x172004 x173000 x173001 (x173002 ++ [(rd_T37 x172002 x10).f1]) x173003) else (none)) else (none)) else (if x167003.length < 2199023255552 then (dataflowref10_Of.l1 k x4 (wrap64 (x7 + 1)) x156000 x158000 x160000 x160001 x160002 x160003 x167000 x167001 x167002 (x167003 ++ [(⟨x173000, x173001, x173002, x173003⟩ : S40)])) else (none))
end
def dataflowref10_Of.f (k : Nat) (l0_0 : List (S44)) : Option ((List (S35))) := dataflowref10_Of.l0 k 0 l0_0 ([] : List (S35))
theorem dataflowref10_Of.mono_l : ∀ k, (∀ y0 y1 y2, LeO (dataflowref10_Of.l0 k y0 y1 y2) (dataflowref10_Of.l0 (k + 1) y0 y1 y2)) ∧ (∀ y0 y1 y2 y3 y4 y5 y6 y7 y8 y9 y10 y11, LeO (dataflowref10_Of.l1 k y0 y1 y2 y3 y4 y5 y6 y7 y8 y9 y10 y11) (dataflowref10_Of.l1 (k + 1) y0 y1 y2 y3 y4 y5 y6 y7 y8 y9 y10 y11)) ∧ (∀ y0 y1 y2 y3 y4 y5 y6 y7 y8 y9 y10 y11 y12 y13 y14 y15 y16 y17 y18 y19 y20 y21, LeO (dataflowref10_Of.l2 k y0 y1 y2 y3 y4 y5 y6 y7 y8 y9 y10 y11 y12 y13 y14 y15 y16 y17 y18 y19 y20 y21) (dataflowref10_Of.l2 (k + 1) y0 y1 y2 y3 y4 y5 y6 y7 y8 y9 y10 y11 y12 y13 y14 y15 y16 y17 y18 y19 y20 y21))
 | 0 => ⟨fun _ _ _ r h => by simp [dataflowref10_Of.l0] at h, fun _ _ _ _ _ _ _ _ _ _ _ _ r h => by simp [dataflowref10_Of.l1] at h, fun _ _ _ _ _ _ _ _ _ _ _ _ _ _ _ _ _ _ _ _ _ _ r h => by simp [dataflowref10_Of.l2] at h⟩
 | k + 1 => by
  obtain ⟨ih0, ih1, ih2⟩ := dataflowref10_Of.mono_l k
  refine ⟨?_, ?_, ?_⟩
  ·intro y0 y1 y2
   unfold dataflowref10_Of.l0
   repeat' first
   | (with_reducible exact ih0 _ _ _)
   | (with_reducible exact ih1 _ _ _ _ _ _ _ _ _ _ _ _)
   | (with_reducible exact ih2 _ _ _ _ _ _ _ _ _ _ _ _ _ _ _ _ _ _ _ _ _ _)
   | (with_reducible exact LeO.refl _)
   | (with_reducible exact LeO.none _)
   | (with_reducible refine LeO.ite ?_ ?_)
   | (with_reducible refine LeO.bind ?_ (fun _ => ?_))
   | exact ih0 _ _ _
   | exact ih1 _ _ _ _ _ _ _ _ _ _ _ _
   | exact ih2 _ _ _ _ _ _ _ _ _ _ _ _ _ _ _ _ _ _ _ _ _ _
   | exact LeO.none _
   | refine LeO.ite ?_ ?_
   | refine LeO.bind ?_ (fun _ => ?_)
  ·intro y0 y1 y2 y3 y4 y5 y6 y7 y8 y9 y10 y11
   unfold dataflowref10_Of.l1
   repeat' first
   | (with_reducible exact ih0 _ _ _)
   | (with_reducible exact ih1 _ _ _ _ _ _ _ _ _ _ _ _)
   | (with_reducible exact ih2 _ _ _ _ _ _ _ _ _ _ _ _ _ _ _ _ _ _ _ _ _ _)
   | (with_reducible exact LeO.refl _)
   | (with_reducible exact LeO.none _)
   | (with_reducible refine LeO.ite ?_ ?_)
   | (with_reducible refine LeO.bind ?_ (fun _ => ?_))
   | exact ih0 _ _ _
   | exact ih1 _ _ _ _ _ _ _ _ _ _ _ _
   | exact ih2 _ _ _ _ _ _ _ _ _ _ _ _ _ _ _ _ _ _ _ _ _ _
   | exact LeO.none _
   | refine LeO.ite ?_ ?_
   | refine LeO.bind ?_ (fun _ => ?_)
  ·intro y0 y1 y2 y3 y4 y5 y6 y7 y8 y9 y10 y11 y12 y13 y14 y15 y16 y17 y18 y19 y20 y21
   unfold dataflowref10_Of.l2
   repeat' first
   | (with_reducible exact ih0 _ _ _)
   | (with_reducible exact ih1 _ _ _ _ _ _ _ _ _ _ _ _)
   | (with_reducible exact ih2 _ _ _ _ _ _ _ _ _ _ _ _ _ _ _ _ _ _ _ _ _ _)
   | (with_reducible exact LeO.refl _)
   | (with_reducible exact LeO.none _)
   | (with_reducible refine LeO.ite ?_ ?_)
   | (with_reducible refine LeO.bind ?_ (fun _ => ?_))
   | exact ih0 _ _ _
   | exact ih1 _ _ _ _ _ _ _ _ _ _ _ _
   | exact ih2 _ _ _ _ _ _ _ _ _ _ _ _ _ _ _ _ _ _ _ _ _ _
   | exact LeO.none _
   | refine LeO.ite ?_ ?_
   | refine LeO.bind ?_ (fun _ => ?_)
theorem dataflowref10_Of.mono : ∀ a0 k, LeO (dataflowref10_Of.f k a0) (dataflowref10_Of.f (k + 1) a0) := by
 intro a0 k
 obtain ⟨ih0, ih1, ih2⟩ := dataflowref10_Of.mono_l k
 unfold dataflowref10_Of.f
 repeat' first
   | (with_reducible exact ih0 _ _ _)
   | (with_reducible exact ih1 _ _ _ _ _ _ _ _ _ _ _ _)
   | (with_reducible exact ih2 _ _ _ _ _ _ _ _ _ _ _ _ _ _ _ _ _ _ _ _ _ _)
   | (with_reducible exact LeO.refl _)
   | (with_reducible exact LeO.none _)
   | (with_reducible refine LeO.ite ?_ ?_)
   | (with_reducible refine LeO.bind ?_ (fun _ => ?_))
   | exact ih0 _ _ _
   | exact ih1 _ _ _ _ _ _ _ _ _ _ _ _
   | exact ih2 _ _ _ _ _ _ _ _ _ _ _ _ _ _ _ _ _ _ _ _ _ _
   | exact LeO.none _
   | refine LeO.ite ?_ ?_
   | refine LeO.bind ?_ (fun _ => ?_)
def dataflowref10_Of.T6 : Bool × List (List Nat × List Nat) := (true, [([], []), ([0], [0]), ([], []), ([2], [2]), ([], []), ([], []), ([5], [5]), ([4, 6], [4, 6]), ([1, 3, 7], [1, 3, 7]), ([], []), ([9, 8, 7, 0, 1, 2, 3, 4, 5, 6, 7, 8, 9], [8, 9])])
def dataflowref10_Of.B6 : List Nat := [0, 1, 0, 4, 0, 0, 32, 112, 255, 0, 1023]
theorem dataflowref10_Of.tab6 : rtab .any (opsOf Try.f6 6) = dataflowref10_Of.T6 := by kernel_rfl
theorem dataflowref10_Of.bits6 : waitsOk dataflowref10_Of.T6.2 dataflowref10_Of.B6 = true := by kernel_rfl
def dataflowref10_Of.T15 : Bool × List (List Nat × List Nat) := (true, [([], []), ([0], [0]), ([], []), ([2], [2]), ([], []), ([3, 4], [3, 4]), ([5], [5]), ([6], [6]), ([7], [7]), ([1, 8], [1, 8]), ([0, 1, 2, 3, 4, 5, 6, 7, 8, 9], []), ([10, 9, 9, 0, 1, 2, 3, 4, 5, 6, 7, 8, 9], [9, 10])])
def dataflowref10_Of.B15 : List Nat := [0, 1, 0, 4, 0, 28, 60, 124, 252, 511, 1023, 2047]
theorem dataflowref10_Of.tab15 : rtab .any (opsOf Try.f6 15) = dataflowref10_Of.T15 := by kernel_rfl
theorem dataflowref10_Of.bits15 : waitsOk dataflowref10_Of.T15.2 dataflowref10_Of.B15 = true := by kernel_rfl
set_option maxHeartbeats 8000000 in
set_option maxRecDepth 100000 in
theorem dataflowref10_Of.calls (k : Nat) (A0_0 : Option Addr) (c0_0 : Nat) (l0_0 : List (S44)) (r : List (S35)) (w : World) (hr0_0 : Kd.C k44 w A0_0 l0_0.length l0_0) (hc0_0 : l0_0.length ≤ c0_0) (h : dataflowref10_Of.f k l0_0 = some r) :
  Calls Try.prog 6 #[.agg #[.slice A0_0 l0_0.length c0_0]] w fun e w' => ∃ v0_ : Value, e = .returned (.agg #[v0_]) ∧ Kd.R k35 35 w' w.heap.size (fun _ => True) v0_ r ∧ Below w.heap.size w w' := by
 have hu24 := Try.underlying24
 have hu28 := Try.underlying28
 have hu44 := Try.underlying44
 have hu35 := Try.underlying35
 have hu48 := Try.underlying48
 have hu40 := Try.underlying40
 have HR0_0 := Aside0.mk hr0_0
 have HC0_0 := Aside0.mk hc0_0
 clear hr0_0 hc0_0
 have HB := Aside0.mk (Below.refl w.heap.size w)
 have H : (dataflowref10_Of.l0 k 0 l0_0 ([] : List (S35))) = some r := h
 clear h
 have H' := Aside0.mk H
 clear H
 go_enter Try.func6, Try.ntmps6
 go_wp2_with (first | ((with_reducible refine gate_dst (N := 1) rfl ?_); refine box_event ?hg (N := 1) ?hd (cs := #[.slice A0_0 l0_0.length c0_0]) (t := 24) ?hr ?_; (case hd => rfl); (case hg => rfl); (case hr => first | (go_simp; done) | (go_simp; rfl)); intro gb155 hg w2 hbox hb; have n0_ := Aside0.mk (below_step (by repeat with_reducible first | exact HB.out | apply below_alloc | apply pw_below_drewN | apply below_drew1) hb); have n1_ := Aside0.mk (hbox); have n2_ := Aside0.mk ((by rw [hg]; exact (below_size (by repeat with_reducible first | exact HB.out | apply below_alloc | apply pw_below_drewN | apply below_drew1)) : w.heap.size ≤ gb155)); have n3_ := Aside0.mk ((by rw [hg]; exact (below_size (by repeat with_reducible first | exact HB.out | apply below_alloc | apply pw_below_drewN | apply below_drew1)) : w.heap.size ≤ gb155)); clear HB; have HB := n0_; have BK155 := n1_; have GW155 := n2_; have GE155 := n3_; clear n0_ n1_ n2_ n3_; clear hb hbox hg) | ((with_reducible refine gate_dst (N := 2) rfl ?_); refine box_event ?hg (N := 2) ?hd (cs := #[.slice none 0 0]) (t := 28) ?hr ?_; (case hd => rfl); (case hg => rfl); (case hr => first | (go_simp; done) | (go_simp; rfl)); intro gb156 hg w3 hbox hb; have n0_ := Aside0.mk (blk_below (g := gb155) (o := .cells #[.slice A0_0 l0_0.length c0_0] 24 (0, 0)) (by (with_reducible repeat first | apply bn | apply bd | apply ba); exact BK155.out) hb); have n1_ := Aside0.mk (below_step (by repeat with_reducible first | exact HB.out | apply below_alloc | apply pw_below_drewN | apply below_drew1 | refine below_set ?_ GE155.out) hb); have n2_ := Aside0.mk (hbox); have n3_ := Aside0.mk ((by rw [hg]; exact (below_size (by repeat with_reducible first | exact HB.out | apply below_alloc | apply pw_below_drewN | apply below_drew1 | refine below_set ?_ GE155.out)) : w.heap.size ≤ gb156)); have n4_ := Aside0.mk ((by rw [hg]; exact (below_size (by repeat with_reducible first | exact HB.out | apply below_alloc | apply pw_below_drewN | apply below_drew1 | refine below_set ?_ GE155.out)) : w.heap.size ≤ gb156)); have n5_ := Aside0.mk ((by rw [hg]; exact Nat.ne_of_lt (blk_lt (g := gb155) (o := .cells #[.slice A0_0 l0_0.length c0_0] 24 (0, 0)) (by (with_reducible repeat first | apply bn | apply bd | apply ba); exact BK155.out)) : gb155 ≠ gb156)); have n6_ := Aside0.mk ((by rw [hg]; exact Nat.ne_of_gt (blk_lt (g := gb155) (o := .cells #[.slice A0_0 l0_0.length c0_0] 24 (0, 0)) (by (with_reducible repeat first | apply bn | apply bd | apply ba); exact BK155.out)) : gb156 ≠ gb155)); clear BK155; clear HB; have BK155 := n0_; have HB := n1_; have BK156 := n2_; have GW156 := n3_; have GE156 := n4_; have NB155_156 := n5_; have NB156_155 := n6_; clear n0_ n1_ n2_ n3_ n4_ n5_ n6_; clear hb hbox hg) | ((with_reducible refine gate_dst (N := 3) rfl ?_); refine box_event ?hg (N := 3) ?hd (cs := #[.slice none 0 0]) (t := 28) ?hr ?_; (case hd => rfl); (case hg => rfl); (case hr => first | (go_simp; done) | (go_simp; rfl)); intro gb157 hg w4 hbox hb; have n0_ := Aside0.mk (blk_below (g := gb155) (o := .cells #[.slice A0_0 l0_0.length c0_0] 24 (0, 0)) (by (with_reducible repeat first | apply bn | apply bd | apply ba); exact BK155.out) hb); have n1_ := Aside0.mk (blk_below (g := gb156) (o := .cells #[.slice none 0 0] 28 (0, 0)) (by (with_reducible repeat first | apply bn | apply bd | apply ba); exact BK156.out) hb); have n2_ := Aside0.mk (below_step (by repeat with_reducible first | exact HB.out | apply below_alloc | apply pw_below_drewN | apply below_drew1 | refine below_set ?_ GE155.out | refine below_set ?_ GE156.out) hb); have n3_ := Aside0.mk (hbox); have n4_ := Aside0.mk ((by rw [hg]; exact (below_size (by repeat with_reducible first | exact HB.out | apply below_alloc | apply pw_below_drewN | apply below_drew1 | refine below_set ?_ GE155.out | refine below_set ?_ GE156.out)) : w.heap.size ≤ gb157)); have n5_ := Aside0.mk ((by rw [hg]; exact (below_size (by repeat with_reducible first | exact HB.out | apply below_alloc | apply pw_below_drewN | apply below_drew1 | refine below_set ?_ GE155.out | refine below_set ?_ GE156.out)) : w.heap.size ≤ gb157)); have n6_ := Aside0.mk ((by rw [hg]; exact Nat.ne_of_lt (blk_lt (g := gb155) (o := .cells #[.slice A0_0 l0_0.length c0_0] 24 (0, 0)) (by (with_reducible repeat first | apply bn | apply bd | apply ba); exact BK155.out)) : gb155 ≠ gb157)); have n7_ := Aside0.mk ((by rw [hg]; exact Nat.ne_of_gt (blk_lt (g := gb155) (o := .cells #[.slice A0_0 l0_0.length c0_0] 24 (0, 0)) (by (with_reducible repeat first | apply bn | apply bd | apply ba); exact BK155.out)) : gb157 ≠ gb155)); have n8_ := Aside0.mk ((by rw [hg]; exact Nat.ne_of_lt (blk_lt (g := gb156) (o := .cells #[.slice none 0 0] 28 (0, 0)) (by (with_reducible repeat first | apply bn | apply bd | apply ba); exact BK156.out)) : gb156 ≠ gb157)); have n9_ := Aside0.mk ((by rw [hg]; exact Nat.ne_of_gt (blk_lt (g := gb156) (o := .cells #[.slice none 0 0] 28 (0, 0)) (by (with_reducible repeat first | apply bn | apply bd | apply ba); exact BK156.out)) : gb157 ≠ gb156)); clear BK155; clear BK156; clear HB; have BK155 := n0_; have BK156 := n1_; have HB := n2_; have BK157 := n3_; have GW157 := n4_; have GE157 := n5_; have NB155_157 := n6_; have NB157_155 := n7_; have NB156_157 := n8_; have NB157_156 := n9_; clear n0_ n1_ n2_ n3_ n4_ n5_ n6_ n7_ n8_ n9_; clear hb hbox hg; have hnb5 := NB157_155.out; have hnc5 := NB155_157.out; have hnb6 := NB157_156.out; have hnc6 := NB156_157.out; have hcz7_0 : w4.cell? ⟨gb157, 0, none⟩ = some (.slice none 0 0) := (blk_cell BK157.out 0).trans rfl; have hfz7_0 := blk_frozen BK157.out 0))
 go_loopg [4] k (fun kq v4 w' => ∃ (x4_1 : Int) (x158000_1 : List (S35)) (u158000 : Value), v4 = .int .i64 x4_1 ∧ Aside0 (dataflowref10_Of.l0 kq x4_1 l0_0 x158000_1 = some r) ∧ Aside0 (kq ≤ k) ∧ Aside0 (Kd.R k35 35 w' w.heap.size (fun _ => True) u158000 x158000_1) ∧ Aside0 (w'.heap[gb155]? = some (.cells #[(.slice A0_0 l0_0.length c0_0)] 24 (0, 0))) ∧ Aside0 (w'.heap[gb156]? = some (.cells #[(.slice none 0 0)] 28 (0, 0))) ∧ Aside0 (w'.heap[gb157]? = some (.cells #[u158000] 28 (0, 0))) ∧ Aside0 (Below w.heap.size w w'))
 case atStart => exact ⟨(0), (([] : List (S35))), (.slice none 0 0), (by first | rfl | (simp; done) | (simp [*]; done)), H', ⟨Nat.le_refl _⟩, ⟨by first | exact Kd.R_nil _ _ _ _ _ | exact Kd.N_nil _ _ _ _ _ | exact Kd.V_nil _ _ _ _ _ | exact Kd.Q_nil _ _ _ _ _ | exact Kd.S_nil _ _ _ _ _⟩, ⟨by (with_reducible repeat first | apply bn | apply bd | apply ba); refine blk_far ?_ NB155_157.out _; (with_reducible repeat first | apply bn | apply bd | apply ba); exact BK155.out⟩, ⟨by (with_reducible repeat first | apply bn | apply bd | apply ba); refine blk_far ?_ NB156_157.out _; (with_reducible repeat first | apply bn | apply bd | apply ba); exact BK156.out⟩, ⟨by (with_reducible repeat first | apply bn | apply bd | apply ba); refine blk_put (cs := #[.slice none 0 0]) ?_ 0 _ rfl; (with_reducible repeat first | apply bn | apply bd | apply ba); exact BK157.out⟩, ⟨by repeat with_reducible first | exact HB.out | apply below_alloc | apply pw_below_drewN | apply below_drew1 | refine below_set ?_ GE155.out | refine below_set ?_ GE156.out | refine below_set ?_ GE157.out⟩⟩
 case round =>
  clear H'
  try clear p2
  try clear c5
  try clear c6
  try clear hcz7_0
  try clear hfz7_0
  obtain ⟨x4_1, x158000_1, u158000, rfl, HA, HK1, HO_158000, BK155, BK156, BK157, HB⟩ := hrel
  cases gk with
  | zero => exact absurd HA.out (by simp [dataflowref10_Of.l0])
  | succ k1 =>
   have H := HA.out
   clear HA
   simp only [dataflowref10_Of.l0] at H
   by_cases c8 : x4_1 < (l0_0.length : Int)
   ·rw [if_pos c8] at H
    have c8b0 : decide (x4_1 < (l0_0.length : Int)) = true := decide_eq_true c8
    clear c8
    by_cases c9 : 0 ≤ x4_1
    ·rw [if_pos c9] at H
     have c9b0 : decide (0 ≤ x4_1) = true := decide_eq_true c9
     clear c9
     obtain ⟨y160, hy160⟩ : ∃ y_ : List (S37), y_ = (([] : List (S37))) := ⟨_, rfl⟩
     replace H : (if y160.length + ((rd_T44 l0_0 x4_1).f2).length < 4398046511104 then (dataflowref10_Of.l1 k1 x4_1 0 l0_0 x158000_1 ((rd_T44 l0_0 x4_1).f0) ((rd_T44 l0_0 x4_1).f1) ((rd_T44 l0_0 x4_1).f2) ((rd_T44 l0_0 x4_1).f3) ((rd_T44 l0_0 x4_1).f0) ((rd_T44 l0_0 x4_1).f1) (y160 ++ ((rd_T44 l0_0 x4_1).f2)) ([] : List (S40))) else (none)) = some r := by first | (rw [hy160]; with_reducible exact H) | (have H2_ := (Option.bind_some _ _).symm.trans H; rw [hy160]; with_reducible exact H2_) | (have H2_ := (Option.bind_some _ _).symm.trans H; with_reducible exact H2_) | with_reducible exact H | (rw [hy160]; exact H) | exact H
     have Ny160 := Aside0.mk hy160
     clear hy160
     by_cases c10 : y160.length + ((rd_T44 l0_0 x4_1).f2).length < 4398046511104
     ·rw [if_pos c10] at H
      have LMc10 := Aside0.mk c10
      clear c10
      obtain ⟨y163, hy163⟩ : ∃ y_ : List (S37), y_ = (y160 ++ ((rd_T44 l0_0 x4_1).f2)) := ⟨_, rfl⟩
      replace H : (dataflowref10_Of.l1 k1 x4_1 0 l0_0 x158000_1 ((rd_T44 l0_0 x4_1).f0) ((rd_T44 l0_0 x4_1).f1) ((rd_T44 l0_0 x4_1).f2) ((rd_T44 l0_0 x4_1).f3) ((rd_T44 l0_0 x4_1).f0) ((rd_T44 l0_0 x4_1).f1) y163 ([] : List (S40))) = some r := by first | (rw [hy163]; with_reducible exact H) | (have H2_ := (Option.bind_some _ _).symm.trans H; rw [hy163]; with_reducible exact H2_) | (have H2_ := (Option.bind_some _ _).symm.trans H; with_reducible exact H2_) | with_reducible exact H | (rw [hy163]; exact H) | exact H
      have Ny163 := Aside0.mk hy163
      clear hy163
      have H' := Aside0.mk H
      clear H
      have hnb11 := NB155_156.out
      have hnc11 := NB156_155.out
      have hnb12 := NB155_157.out
      have hnc12 := NB157_155.out
      have hcz13_0 : wr.cell? ⟨gb155, 0, none⟩ = some (.slice A0_0 l0_0.length c0_0) := (blk_cell BK155.out 0).trans rfl
      have hfz13_0 := blk_frozen BK155.out 0
      have p158 : 0 ≤ (x4_1 : Int) := of_decide_eq_true (by first | (with_reducible assumption) | assumption)
      have q158 : x4_1 < (l0_0.length : Int) := of_decide_eq_true (by first | (with_reducible assumption) | assumption)
      obtain ⟨ad158, A158_2, c158_2, A158_3, c158_3, e158, hx158_0, hx158_1, hx158_2, hx158_3, hl158_2, hi158_2, hl158_3, hi158_3⟩ := at_T44 HR0_0.out x4_1 p158 q158
      cases e158
      replace hx158_0 := (HB.out.cell (World.block_lt_of_cell? w _ hx158_0)).trans hx158_0
      replace hx158_1 := (HB.out.cell (World.block_lt_of_cell? w _ hx158_1)).trans hx158_1
      replace hx158_2 := (HB.out.cell (World.block_lt_of_cell? w _ hx158_2)).trans hx158_2
      replace hx158_3 := (HB.out.cell (World.block_lt_of_cell? w _ hx158_3)).trans hx158_3
      have HR158_2 := Aside0.mk hi158_2
      have HC158_2 := Aside0.mk hl158_2
      clear hi158_2 hl158_2
      have HR158_3 := Aside0.mk hi158_3
      have HC158_3 := Aside0.mk hl158_3
      clear hi158_3 hl158_3
      replace p158 := eq_true p158
      replace q158 := eq_true q158
      try go_wp2_with (first | ((with_reducible refine gate_dst (N := 5) rfl ?_); refine box_event ?hg (N := 5) ?hd (cs := #[.string (⟨#[]⟩ : ByteArray), .string (⟨#[]⟩ : ByteArray), .slice none 0 0, .slice none 0 0]) (t := 44) ?hr ?_; (case hd => rfl); (case hg => rfl); (case hr => first | (go_simp; done) | (go_simp; rfl)); intro gb159 hg w14 hbox hb; have n0_ := Aside0.mk (Kd.R_below (by (with_reducible repeat first | apply Kd.R_alloc | apply Kd.R_drewN | apply Kd.R_drew); exact HO_158000.out) hb); have n1_ := Aside0.mk (blk_below (g := gb155) (o := .cells #[.slice (some ad158) l0_0.length c0_0] 24 (0, 0)) (by (with_reducible repeat first | apply bn | apply bd | apply ba); exact BK155.out) hb); have n2_ := Aside0.mk (blk_below (g := gb156) (o := .cells #[.slice none 0 0] 28 (0, 0)) (by (with_reducible repeat first | apply bn | apply bd | apply ba); exact BK156.out) hb); have n3_ := Aside0.mk (blk_below (g := gb157) (o := .cells #[u158000] 28 (0, 0)) (by (with_reducible repeat first | apply bn | apply bd | apply ba); exact BK157.out) hb); have n4_ := Aside0.mk (below_step (by repeat with_reducible first | exact HB.out | apply below_alloc | apply pw_below_drewN | apply below_drew1 | refine below_set ?_ GE155.out | refine below_set ?_ GE156.out | refine below_set ?_ GE157.out) hb); have n5_ := Aside0.mk (hbox); have n6_ := Aside0.mk ((by rw [hg]; exact (below_size (by repeat with_reducible first | exact HB.out | apply below_alloc | apply pw_below_drewN | apply below_drew1 | refine below_set ?_ GE155.out | refine below_set ?_ GE156.out | refine below_set ?_ GE157.out)) : w.heap.size ≤ gb159)); have n7_ := Aside0.mk ((by rw [hg]; exact (below_size (by repeat with_reducible first | exact HB.out | apply below_alloc | apply pw_below_drewN | apply below_drew1 | refine below_set ?_ GE155.out | refine below_set ?_ GE156.out | refine below_set ?_ GE157.out)) : w.heap.size ≤ gb159)); have n8_ := Aside0.mk ((by rw [hg]; exact Nat.ne_of_lt (blk_lt (g := gb155) (o := .cells #[.slice (some ad158) l0_0.length c0_0] 24 (0, 0)) (by (with_reducible repeat first | apply bn | apply bd | apply ba); exact BK155.out)) : gb155 ≠ gb159)); have n9_ := Aside0.mk ((by rw [hg]; exact Nat.ne_of_gt (blk_lt (g := gb155) (o := .cells #[.slice (some ad158) l0_0.length c0_0] 24 (0, 0)) (by (with_reducible repeat first | apply bn | apply bd | apply ba); exact BK155.out)) : gb159 ≠ gb155)); have n10_ := Aside0.mk ((by rw [hg]; exact Nat.ne_of_lt (blk_lt (g := gb156) (o := .cells #[.slice none 0 0] 28 (0, 0)) (by (with_reducible repeat first | apply bn | apply bd | apply ba); exact BK156.out)) : gb156 ≠ gb159)); have n11_ := Aside0.mk ((by rw [hg]; exact Nat.ne_of_gt (blk_lt (g := gb156) (o := .cells #[.slice none 0 0] 28 (0, 0)) (by (with_reducible repeat first | apply bn | apply bd | apply ba); exact BK156.out)) : gb159 ≠ gb156)); have n12_ := Aside0.mk ((by rw [hg]; exact Nat.ne_of_lt (blk_lt (g := gb157) (o := .cells #[u158000] 28 (0, 0)) (by (with_reducible repeat first | apply bn | apply bd | apply ba); exact BK157.out)) : gb157 ≠ gb159)); have n13_ := Aside0.mk ((by rw [hg]; exact Nat.ne_of_gt (blk_lt (g := gb157) (o := .cells #[u158000] 28 (0, 0)) (by (with_reducible repeat first | apply bn | apply bd | apply ba); exact BK157.out)) : gb159 ≠ gb157)); clear HO_158000; clear BK155; clear BK156; clear BK157; clear HB; have HO_158000 := n0_; have BK155 := n1_; have BK156 := n2_; have BK157 := n3_; have HB := n4_; have BK159 := n5_; have GW159 := n6_; have GE159 := n7_; have NB155_159 := n8_; have NB159_155 := n9_; have NB156_159 := n10_; have NB159_156 := n11_; have NB157_159 := n12_; have NB159_157 := n13_; clear n0_ n1_ n2_ n3_ n4_ n5_ n6_ n7_ n8_ n9_ n10_ n11_ n12_ n13_; clear hb hbox hg; have hnb15 := NB159_155.out; have hnc15 := NB155_159.out; have hnb16 := NB159_156.out; have hnc16 := NB156_159.out; have hnb17 := NB159_157.out; have hnc17 := NB157_159.out; have hcz18_0 : w14.cell? ⟨gb159, 0, none⟩ = some (.string (⟨#[]⟩ : ByteArray)) := (blk_cell BK159.out 0).trans rfl; have hcz18_1 : w14.cell? ⟨gb159, 1, none⟩ = some (.string (⟨#[]⟩ : ByteArray)) := (blk_cell BK159.out 1).trans rfl; have hcz18_2 : w14.cell? ⟨gb159, 2, none⟩ = some (.slice none 0 0) := (blk_cell BK159.out 2).trans rfl; have hcz18_3 : w14.cell? ⟨gb159, 3, none⟩ = some (.slice none 0 0) := (blk_cell BK159.out 3).trans rfl; have hfz18_0 := blk_frozen BK159.out 0; have hfz18_1 := blk_frozen BK159.out 1; have hfz18_2 := blk_frozen BK159.out 2; have hfz18_3 := blk_frozen BK159.out 3))
      have n0_ : Aside0 (Kd.R k35 35 ((((w14.setCell ⟨gb159, 0, none⟩ (.string ((rd_T44 l0_0 x4_1).f0))).setCell ⟨gb159, 1, none⟩ (.string ((rd_T44 l0_0 x4_1).f1))).setCell ⟨gb159, 2, none⟩ (.slice A158_2 ((rd_T44 l0_0 x4_1).f2).length c158_2)).setCell ⟨gb159, 3, none⟩ (.slice A158_3 ((rd_T44 l0_0 x4_1).f3).length c158_3)) w.heap.size (fun _ => True) u158000 x158000_1) := ⟨by (with_reducible repeat first | apply Kd.R_alloc | apply Kd.R_drewN | apply Kd.R_drew); exact Kd.R_mono (Kd.R_far (p := ⟨gb159, 3, none⟩) (Kd.R_far (p := ⟨gb159, 2, none⟩) (Kd.R_far (p := ⟨gb159, 1, none⟩) (Kd.R_far (p := ⟨gb159, 0, none⟩) (Kd.R_types HO_158000.out BK159.out (by decide)) (fun _ hk => hk.2) (.string ((rd_T44 l0_0 x4_1).f0))) (fun _ hk => hk.2) (.string ((rd_T44 l0_0 x4_1).f1))) (fun _ hk => hk.2) (.slice A158_2 ((rd_T44 l0_0 x4_1).f2).length c158_2)) (fun _ hk => hk.2) (.slice A158_3 ((rd_T44 l0_0 x4_1).f3).length c158_3)) (fun _ hk => trivial)⟩
      have n1_ : Aside0 (((((w14.setCell ⟨gb159, 0, none⟩ (.string ((rd_T44 l0_0 x4_1).f0))).setCell ⟨gb159, 1, none⟩ (.string ((rd_T44 l0_0 x4_1).f1))).setCell ⟨gb159, 2, none⟩ (.slice A158_2 ((rd_T44 l0_0 x4_1).f2).length c158_2)).setCell ⟨gb159, 3, none⟩ (.slice A158_3 ((rd_T44 l0_0 x4_1).f3).length c158_3)).heap[gb155]? = some (.cells #[.slice (some ad158) l0_0.length c0_0] 24 (0, 0))) := ⟨by (with_reducible repeat first | apply bn | apply bd | apply ba); refine blk_far ?_ NB155_159.out _; refine blk_far ?_ NB155_159.out _; refine blk_far ?_ NB155_159.out _; refine blk_far ?_ NB155_159.out _; (with_reducible repeat first | apply bn | apply bd | apply ba); exact BK155.out⟩
      have n2_ : Aside0 (((((w14.setCell ⟨gb159, 0, none⟩ (.string ((rd_T44 l0_0 x4_1).f0))).setCell ⟨gb159, 1, none⟩ (.string ((rd_T44 l0_0 x4_1).f1))).setCell ⟨gb159, 2, none⟩ (.slice A158_2 ((rd_T44 l0_0 x4_1).f2).length c158_2)).setCell ⟨gb159, 3, none⟩ (.slice A158_3 ((rd_T44 l0_0 x4_1).f3).length c158_3)).heap[gb156]? = some (.cells #[.slice none 0 0] 28 (0, 0))) := ⟨by (with_reducible repeat first | apply bn | apply bd | apply ba); refine blk_far ?_ NB156_159.out _; refine blk_far ?_ NB156_159.out _; refine blk_far ?_ NB156_159.out _; refine blk_far ?_ NB156_159.out _; (with_reducible repeat first | apply bn | apply bd | apply ba); exact BK156.out⟩
      have n3_ : Aside0 (((((w14.setCell ⟨gb159, 0, none⟩ (.string ((rd_T44 l0_0 x4_1).f0))).setCell ⟨gb159, 1, none⟩ (.string ((rd_T44 l0_0 x4_1).f1))).setCell ⟨gb159, 2, none⟩ (.slice A158_2 ((rd_T44 l0_0 x4_1).f2).length c158_2)).setCell ⟨gb159, 3, none⟩ (.slice A158_3 ((rd_T44 l0_0 x4_1).f3).length c158_3)).heap[gb157]? = some (.cells #[u158000] 28 (0, 0))) := ⟨by (with_reducible repeat first | apply bn | apply bd | apply ba); refine blk_far ?_ NB157_159.out _; refine blk_far ?_ NB157_159.out _; refine blk_far ?_ NB157_159.out _; refine blk_far ?_ NB157_159.out _; (with_reducible repeat first | apply bn | apply bd | apply ba); exact BK157.out⟩
      have n4_ : Aside0 (((((w14.setCell ⟨gb159, 0, none⟩ (.string ((rd_T44 l0_0 x4_1).f0))).setCell ⟨gb159, 1, none⟩ (.string ((rd_T44 l0_0 x4_1).f1))).setCell ⟨gb159, 2, none⟩ (.slice A158_2 ((rd_T44 l0_0 x4_1).f2).length c158_2)).setCell ⟨gb159, 3, none⟩ (.slice A158_3 ((rd_T44 l0_0 x4_1).f3).length c158_3)).heap[gb159]? = some (.cells #[.string ((rd_T44 l0_0 x4_1).f0), .string ((rd_T44 l0_0 x4_1).f1), .slice A158_2 ((rd_T44 l0_0 x4_1).f2).length c158_2, .slice A158_3 ((rd_T44 l0_0 x4_1).f3).length c158_3] 44 (0, 0))) := ⟨by (with_reducible repeat first | apply bn | apply bd | apply ba); refine blk_put (cs := #[.string ((rd_T44 l0_0 x4_1).f0), .string ((rd_T44 l0_0 x4_1).f1), .slice A158_2 ((rd_T44 l0_0 x4_1).f2).length c158_2, .slice none 0 0]) ?_ 3 _ rfl; refine blk_put (cs := #[.string ((rd_T44 l0_0 x4_1).f0), .string ((rd_T44 l0_0 x4_1).f1), .slice none 0 0, .slice none 0 0]) ?_ 2 _ rfl; refine blk_put (cs := #[.string ((rd_T44 l0_0 x4_1).f0), .string (⟨#[]⟩ : ByteArray), .slice none 0 0, .slice none 0 0]) ?_ 1 _ rfl; refine blk_put (cs := #[.string (⟨#[]⟩ : ByteArray), .string (⟨#[]⟩ : ByteArray), .slice none 0 0, .slice none 0 0]) ?_ 0 _ rfl; (with_reducible repeat first | apply bn | apply bd | apply ba); exact BK159.out⟩
      have n5_ : Aside0 (Below w.heap.size w ((((w14.setCell ⟨gb159, 0, none⟩ (.string ((rd_T44 l0_0 x4_1).f0))).setCell ⟨gb159, 1, none⟩ (.string ((rd_T44 l0_0 x4_1).f1))).setCell ⟨gb159, 2, none⟩ (.slice A158_2 ((rd_T44 l0_0 x4_1).f2).length c158_2)).setCell ⟨gb159, 3, none⟩ (.slice A158_3 ((rd_T44 l0_0 x4_1).f3).length c158_3))) := ⟨by repeat with_reducible first | exact HB.out | apply below_alloc | apply pw_below_drewN | apply below_drew1 | refine below_set ?_ GE155.out | refine below_set ?_ GE156.out | refine below_set ?_ GE157.out | refine below_set ?_ GE159.out⟩
      (try clear HO_158000)
      (try clear BK155)
      (try clear BK156)
      (try clear BK157)
      (try clear BK159)
      (try clear HB)
      generalize ((((w14.setCell ⟨gb159, 0, none⟩ (.string ((rd_T44 l0_0 x4_1).f0))).setCell ⟨gb159, 1, none⟩ (.string ((rd_T44 l0_0 x4_1).f1))).setCell ⟨gb159, 2, none⟩ (.slice A158_2 ((rd_T44 l0_0 x4_1).f2).length c158_2)).setCell ⟨gb159, 3, none⟩ (.slice A158_3 ((rd_T44 l0_0 x4_1).f3).length c158_3)) = w19 at n0_ n1_ n2_ n3_ n4_ n5_ ⊢
      have HO_158000 := n0_
      have BK155 := n1_
      have BK156 := n2_
      have BK157 := n3_
      have BK159 := n4_
      have HB := n5_
      clear n0_ n1_ n2_ n3_ n4_ n5_
      have n0_ := Aside0.mk (Kd.R_drew HO_158000.out)
      have n1_ := Aside0.mk (blk_drew BK155.out)
      have n2_ := Aside0.mk (blk_drew BK156.out)
      have n3_ := Aside0.mk (blk_drew BK157.out)
      have n4_ := Aside0.mk (blk_drew BK159.out)
      have n5_ := Aside0.mk (below_drew1 HB.out)
      clear HO_158000
      clear BK155
      clear BK156
      clear BK157
      clear BK159
      clear HB
      have HO_158000 := n0_
      have BK155 := n1_
      have BK156 := n2_
      have BK157 := n3_
      have BK159 := n4_
      have HB := n5_
      clear n0_ n1_ n2_ n3_ n4_ n5_
      refine start_ (n := 11) (S := fun w' => w'.cell? ⟨gb159, 0, none⟩ = some (.string ((rd_T44 l0_0 x4_1).f0)) ∧ w'.cell? ⟨gb159, 1, none⟩ = some (.string ((rd_T44 l0_0 x4_1).f1)) ∧ w'.cell? ⟨gb159, 2, none⟩ = some (.slice A158_2 ((rd_T44 l0_0 x4_1).f2).length c158_2) ∧ w'.cell? ⟨gb159, 3, none⟩ = some (.slice A158_3 ((rd_T44 l0_0 x4_1).f3).length c158_3)) (ds := []) #[false, false, false, false, false, false, false, false, false, false, false] (by kernel_rfl) rfl rfl ⟨(blk_cell BK159.out 0).trans rfl, (blk_cell BK159.out 1).trans rfl, (blk_cell BK159.out 2).trans rfl, (blk_cell BK159.out 3).trans rfl⟩ (fun hHeld => ?_); refine with_tabW dataflowref10_Of.tab6 dataflowref10_Of.bits6 (fun HT_ HW_ => ?_)
      generalize w19.drew = w20 at HO_158000 BK155 BK156 BK157 BK159 HB hHeld ⊢
      refine pure_ (i := 0) (N := some 24) (v := ?_) (a' := ?_) #[true, false, false, false, false, false, false, false, false, false, false] rfl rfl (any_of HT_.out (by kernel_rfl)) (fun _ _ _ h => h) (Or.inl ⟨by rfl, ?_⟩) ?_ ?_
      rotate_left
      ·intro w'
       go_simp
       with_reducible rfl
      rotate_left
      ·simp only [Act.put, List.setIfInBounds_toArray, List.set_cons_zero, List.set_cons_succ, i64_w]
       rfl
      refine pure_ (i := 2) (N := some 26) (v := ?_) (a' := ?_) #[true, false, true, false, false, false, false, false, false, false, false] rfl rfl (any_of HT_.out (by kernel_rfl)) (fun _ _ _ h => h) (Or.inl ⟨by rfl, ?_⟩) ?_ ?_
      rotate_left
      ·intro w'
       go_simp
       with_reducible rfl
      rotate_left
      ·simp only [Act.put, List.setIfInBounds_toArray, List.set_cons_zero, List.set_cons_succ, i64_w]
       rfl
      refine pure_ (i := 5) (N := some 29) (v := ?_) (a' := ?_) #[true, false, true, false, false, true, false, false, false, false, false] rfl rfl (any_of HT_.out (by kernel_rfl)) (fun _ _ _ h => h) (Or.inl ⟨by rfl, ?_⟩) ?_ ?_
      rotate_left
      ·intro w'
       go_simp
       with_reducible rfl
      rotate_left
      ·simp only [Act.put, List.setIfInBounds_toArray, List.set_cons_zero, List.set_cons_succ, i64_w]
       rfl
      refine take_ (i := 1) (N := some 25) (v := ?_) (a' := ?_) #[true, true, true, false, false, true, false, false, false, false, false] rfl rfl (take_ofW HT_.out HW_.out (by kernel_rfl)) (fun _ _ _ h => h) (Or.inl ⟨by rfl, ?_⟩) hHeld ?_ ?_
      rotate_left
      ·rintro w' ⟨s0, s1, s2, s3⟩
       go_simp
       with_reducible rfl
      rotate_left
      ·simp only [Act.put, List.setIfInBounds_toArray, List.set_cons_zero, List.set_cons_succ, i64_w]
       rfl
      refine take_ (i := 3) (N := some 27) (v := ?_) (a' := ?_) #[true, true, true, true, false, true, false, false, false, false, false] rfl rfl (take_ofW HT_.out HW_.out (by kernel_rfl)) (fun _ _ _ h => h) (Or.inl ⟨by rfl, ?_⟩) hHeld ?_ ?_
      rotate_left
      ·rintro w' ⟨s0, s1, s2, s3⟩
       go_simp
       with_reducible rfl
      rotate_left
      ·simp only [Act.put, List.setIfInBounds_toArray, List.set_cons_zero, List.set_cons_succ, i64_w]
       rfl
      refine take_ (i := 6) (N := some 30) (v := ?_) (a' := ?_) #[true, true, true, true, false, true, true, false, false, false, false] rfl rfl (take_ofW HT_.out HW_.out (by kernel_rfl)) (fun _ _ _ h => h) (Or.inl ⟨by rfl, ?_⟩) hHeld ?_ ?_
      rotate_left
      ·rintro w' ⟨s0, s1, s2, s3⟩
       go_simp
       with_reducible rfl
      rotate_left
      ·simp only [Act.put, List.setIfInBounds_toArray, List.set_cons_zero, List.set_cons_succ, i64_w]
       rfl
      refine join_ (σ := Value × Value × Nat) 1 #[true, true, true, true, true, true, true, true, true, true, false] (fun s_ => [(28, s_.1), (31, s_.2.1), (6, .pointer (some ⟨s_.2.2, 0, none⟩)), (32, .agg #[.string ((rd_T44 l0_0 x4_1).f0), .string ((rd_T44 l0_0 x4_1).f1), s_.2.1, .slice none 0 0])]) (fun s_ w' => (w'.cell? ⟨gb159, 0, none⟩ = some (.string ((rd_T44 l0_0 x4_1).f0)) ∧ w'.cell? ⟨gb159, 1, none⟩ = some (.string ((rd_T44 l0_0 x4_1).f1)) ∧ w'.cell? ⟨gb159, 2, none⟩ = some (.slice A158_2 ((rd_T44 l0_0 x4_1).f2).length c158_2) ∧ w'.cell? ⟨gb159, 3, none⟩ = some (.slice A158_3 ((rd_T44 l0_0 x4_1).f3).length c158_3)) ∧ (Kd.R k37 37 w' w.heap.size (fun _ => True) s_.2.1 y163) ∧ (Kd.R k35 35 w' w.heap.size (fun k_ => some k_ ≠ (s_.2.1 : Value).ownBlock ∧ k_ ≠ s_.2.2) u158000 x158000_1) ∧ (w'.heap[gb155]? = some (.cells #[.slice (some ad158) l0_0.length c0_0] 24 (0, 0))) ∧ (w'.heap[gb156]? = some (.cells #[.slice none 0 0] 28 (0, 0))) ∧ (w'.heap[gb157]? = some (.cells #[u158000] 28 (0, 0))) ∧ (w'.heap[gb159]? = some (.cells #[.string ((rd_T44 l0_0 x4_1).f0), .string ((rd_T44 l0_0 x4_1).f1), .slice A158_2 ((rd_T44 l0_0 x4_1).f2).length c158_2, .slice A158_3 ((rd_T44 l0_0 x4_1).f3).length c158_3] 44 (0, 0))) ∧ (w'.heap[s_.2.2]? = some (.cells #[.string (⟨#[]⟩ : ByteArray), .string (⟨#[]⟩ : ByteArray), .slice none 0 0, .slice none 0 0] 35 (0, 0))) ∧ (w.heap.size ≤ s_.2.2) ∧ (w.heap.size ≤ s_.2.2) ∧ (gb155 ≠ s_.2.2) ∧ (s_.2.2 ≠ gb155) ∧ (gb156 ≠ s_.2.2) ∧ (s_.2.2 ≠ gb156) ∧ (gb157 ≠ s_.2.2) ∧ (s_.2.2 ≠ gb157) ∧ (gb159 ≠ s_.2.2) ∧ (s_.2.2 ≠ gb159) ∧ (Below w.heap.size w w')) ?_ ?_
      rotate_left
      ·intro hCont
       refine two_ (i := 4) (j := 9) (Ni := some 28) (Nj := some 6) #[true, true, true, true, true, true, true, false, false, false, false] #[true, true, true, true, false, true, true, false, false, true, false] rfl rfl rfl rfl (two_of HT_.out (by kernel_rfl)) (by decide) (by decide) (fun K hK => ?_) (fun K hK => ?_)
       ·skip
        refine Kd.R_lit_step k37 _ 37 ?hg (N := 28) ?hd (xs := ([] : List (S37))) (inner := []) (ok := fun _ => True) (okp := fun _ => True) ?hr ?hp (fun _ hk => hk) trivial (Below.refl _ _) (Nat.le_refl _) (by simp) ?_; (case hd => rfl); (case hg => rfl); (case hr => first | (go_simp; done) | (go_simp; rfl)); (case hp => exact (Reps.none _ _))
        intro v161 w21 ho22 hb hg_ hnew_
        clear hg_ hnew_
        (first | rw [← Ny160.out] at ho22 | (simp only [Int.reduceToNat] at ho22; rw [← Ny160.out] at ho22))
        have n0_ := Aside0.mk (Kd.R_elder' (by (with_reducible repeat first | apply Kd.R_alloc | apply Kd.R_drewN | apply Kd.R_drew); exact HO_158000.out) (Kd.R_base ho22) hb)
        have n1_ := Aside0.mk (Kd.R_lower ho22 (below_size (by repeat with_reducible first | exact HB.out | apply below_alloc | apply pw_below_drewN | apply below_drew1 | refine below_set ?_ GE155.out | refine below_set ?_ GE156.out | refine below_set ?_ GE157.out | refine below_set ?_ GE159.out)))
        have n2_ := Aside0.mk (blk_below (g := gb155) (o := .cells #[.slice (some ad158) l0_0.length c0_0] 24 (0, 0)) (by (with_reducible repeat first | apply bn | apply bd | apply ba); exact BK155.out) hb)
        have n3_ := Aside0.mk (blk_below (g := gb156) (o := .cells #[.slice none 0 0] 28 (0, 0)) (by (with_reducible repeat first | apply bn | apply bd | apply ba); exact BK156.out) hb)
        have n4_ := Aside0.mk (blk_below (g := gb157) (o := .cells #[u158000] 28 (0, 0)) (by (with_reducible repeat first | apply bn | apply bd | apply ba); exact BK157.out) hb)
        have n5_ := Aside0.mk (blk_below (g := gb159) (o := .cells #[.string ((rd_T44 l0_0 x4_1).f0), .string ((rd_T44 l0_0 x4_1).f1), .slice A158_2 ((rd_T44 l0_0 x4_1).f2).length c158_2, .slice A158_3 ((rd_T44 l0_0 x4_1).f3).length c158_3] 44 (0, 0)) (by (with_reducible repeat first | apply bn | apply bd | apply ba); exact BK159.out) hb)
        have n6_ := Aside0.mk (below_step (by repeat with_reducible first | exact HB.out | apply below_alloc | apply pw_below_drewN | apply below_drew1 | refine below_set ?_ GE155.out | refine below_set ?_ GE156.out | refine below_set ?_ GE157.out | refine below_set ?_ GE159.out) hb)
        clear HO_158000
        clear BK155
        clear BK156
        clear BK157
        clear BK159
        clear HB
        have HO_158000 := n0_
        have HO162 := n1_
        have BK155 := n2_
        have BK156 := n3_
        have BK157 := n4_
        have BK159 := n5_
        have HB := n6_
        clear n0_ n1_ n2_ n3_ n4_ n5_ n6_
        clear hb ho22
        refine hK.out _ _ ⟨(blk_cell BK159.out 0).trans rfl, (blk_cell BK159.out 1).trans rfl, (blk_cell BK159.out 2).trans rfl, (blk_cell BK159.out 3).trans rfl⟩ (fun hHeld => ?_)
        clear hK K
        refine norm_ (a' := ?_) ?_ ?_
        rotate_left
        ·show Act.put _ (some 28) _ = _
         simp only [Act.put, List.setIfInBounds_toArray, List.set_cons_zero, List.set_cons_succ, i64_w]
         rfl
        refine two_ (i := 7) (j := 9) (Ni := some 31) (Nj := some 6) #[true, true, true, true, true, true, true, true, false, false, false] #[true, true, true, true, true, true, true, false, false, true, false] rfl rfl rfl rfl (two_of HT_.out (by kernel_rfl)) (by decide) (by decide) (fun K hK => ?_) (fun K hK => ?_)
        ·skip
         refine Kd.R_append_rows_step k37 (w0 := w) w.heap.size (by rfl) (.tmp 28) (.tmp 30) 32 37 (.agg #[(.string ⟨#[]⟩), (.string ⟨#[]⟩)]) 32 rfl Try.underlying32 info37 rfl (by decide) (by omega) v161 y160 ((rd_T44 l0_0 x4_1).f2) _ _ _ (fun _ => True) (fun _ => False) rfl rfl ?aO ?aR (fun _ _ h => h) (fun _ h => h.elim) ?aF ?aB ?aS ?aL ?_
         (case aR => repeat (first | exact (Kd.C_below HR158_2.out HB.out) | (with_reducible refine Kd.C_alloc ?_ _) | (with_reducible refine Kd.C_drewN ?_ _) | (with_reducible refine Kd.C_drew ?_)))
         (case aB => exact (by repeat with_reducible first | exact HB.out | apply below_alloc | apply pw_below_drewN | apply below_drew1 | refine below_set ?_ GE155.out | refine below_set ?_ GE156.out | refine below_set ?_ GE157.out | refine below_set ?_ GE159.out))
         (case aF => exact (fun _ _ => trivial))
         (case aO => exact (by (with_reducible repeat first | apply Kd.R_alloc | apply Kd.R_drewN | apply Kd.R_drew); exact HO162.out))
         (case aS => exact (below_size (by repeat with_reducible first | exact HB.out | apply below_alloc | apply pw_below_drewN | apply below_drew1 | refine below_set ?_ GE155.out | refine below_set ?_ GE156.out | refine below_set ?_ GE157.out | refine below_set ?_ GE159.out)))
         (case aL => have := LMc10.out; omega)
         intro v164 w23 ho hb hg hat
         rw [← Ny163.out] at ho
         have n0_ := Aside0.mk (Kd.R_after (ok := (fun _ => True)) (by (with_reducible repeat first | apply Kd.R_alloc | apply Kd.R_drewN | apply Kd.R_drew); exact HO_158000.out) hg hat)
         have n1_ := Aside0.mk (blk_grown (g := gb155) (o := .cells #[.slice (some ad158) l0_0.length c0_0] 24 (0, 0)) (by (with_reducible repeat first | apply bn | apply bd | apply ba); exact BK155.out) hg (Kd.R_ne HO162.out BK155.out (by decide)))
         have n2_ := Aside0.mk (blk_grown (g := gb156) (o := .cells #[.slice none 0 0] 28 (0, 0)) (by (with_reducible repeat first | apply bn | apply bd | apply ba); exact BK156.out) hg (Kd.R_ne HO162.out BK156.out (by decide)))
         have n3_ := Aside0.mk (blk_grown (g := gb157) (o := .cells #[u158000] 28 (0, 0)) (by (with_reducible repeat first | apply bn | apply bd | apply ba); exact BK157.out) hg (Kd.R_ne HO162.out BK157.out (by decide)))
         have n4_ := Aside0.mk (blk_grown (g := gb159) (o := .cells #[.string ((rd_T44 l0_0 x4_1).f0), .string ((rd_T44 l0_0 x4_1).f1), .slice A158_2 ((rd_T44 l0_0 x4_1).f2).length c158_2, .slice A158_3 ((rd_T44 l0_0 x4_1).f3).length c158_3] 44 (0, 0)) (by (with_reducible repeat first | apply bn | apply bd | apply ba); exact BK159.out) hg (Kd.R_ne HO162.out BK159.out (by decide)))
         have n5_ := Aside0.mk (hb)
         have n6_ := Aside0.mk (ho)
         clear HO_158000
         clear BK155
         clear BK156
         clear BK157
         clear BK159
         clear HB
         clear HO162
         have HO_158000 := n0_
         have BK155 := n1_
         have BK156 := n2_
         have BK157 := n3_
         have BK159 := n4_
         have HB := n5_
         have HO165 := n6_
         clear n0_ n1_ n2_ n3_ n4_ n5_ n6_
         clear ho hb hg hat
         obtain ⟨Ao24, co24, eo24⟩ := Kd.R_slice HO165.out
         (first | subst eo24 | (injection eo24 with f1_ f2_ f3_; have f4_ := f1_.symm; have f5_ := f3_.symm; clear f1_ f2_ f3_; subst f4_; subst f5_))
         refine hK.out _ _ ⟨(blk_cell BK159.out 0).trans rfl, (blk_cell BK159.out 1).trans rfl, (blk_cell BK159.out 2).trans rfl, (blk_cell BK159.out 3).trans rfl⟩ (fun hHeld => ?_)
         clear hK K
         refine norm_ (a' := ?_) ?_ ?_
         rotate_left
         ·show Act.put _ (some 31) _ = _
          simp only [Act.put, List.setIfInBounds_toArray, List.set_cons_zero, List.set_cons_succ, i64_w]
          rfl
         refine pure_ (i := 8) (N := some 32) (v := ?_) (a' := ?_) #[true, true, true, true, true, true, true, true, true, false, false] rfl rfl (any_of HT_.out (by kernel_rfl)) (fun _ _ _ h => h) (Or.inl ⟨by rfl, ?_⟩) ?_ ?_
         rotate_left
         ·intro w'
          go_simp
          with_reducible rfl
         rotate_left
         ·simp only [Act.put, List.setIfInBounds_toArray, List.set_cons_zero, List.set_cons_succ, i64_w]
          rfl
         refine one_ (i := 9) (N := some 6) #[true, true, true, true, true, true, true, true, true, true, false] rfl rfl (one_of HT_.out (by kernel_rfl)) (by decide) (fun K hK => ?_)
         refine box_step ?hg (N := 6) ?hd (cs := #[.string (⟨#[]⟩ : ByteArray), .string (⟨#[]⟩ : ByteArray), .slice none 0 0, .slice none 0 0]) (t := 35) ?hr ?_; (case hd => rfl); (case hg => rfl); (case hr => first | (go_simp; done) | (go_simp; rfl))
         intro gb166 hg w25 hbox hb
         have n0_ := Aside0.mk (Kd.R_below (Kd.R_elderB (by (with_reducible repeat first | apply Kd.R_alloc | apply Kd.R_drewN | apply Kd.R_drew); exact HO_158000.out) gb166 (Nat.le_of_eq hg.symm)) hb)
         have n1_ := Aside0.mk (Kd.R_below (by (with_reducible repeat first | apply Kd.R_alloc | apply Kd.R_drewN | apply Kd.R_drew); exact HO165.out) hb)
         have n2_ := Aside0.mk (blk_below (g := gb155) (o := .cells #[.slice (some ad158) l0_0.length c0_0] 24 (0, 0)) (by (with_reducible repeat first | apply bn | apply bd | apply ba); exact BK155.out) hb)
         have n3_ := Aside0.mk (blk_below (g := gb156) (o := .cells #[.slice none 0 0] 28 (0, 0)) (by (with_reducible repeat first | apply bn | apply bd | apply ba); exact BK156.out) hb)
         have n4_ := Aside0.mk (blk_below (g := gb157) (o := .cells #[u158000] 28 (0, 0)) (by (with_reducible repeat first | apply bn | apply bd | apply ba); exact BK157.out) hb)
         have n5_ := Aside0.mk (blk_below (g := gb159) (o := .cells #[.string ((rd_T44 l0_0 x4_1).f0), .string ((rd_T44 l0_0 x4_1).f1), .slice A158_2 ((rd_T44 l0_0 x4_1).f2).length c158_2, .slice A158_3 ((rd_T44 l0_0 x4_1).f3).length c158_3] 44 (0, 0)) (by (with_reducible repeat first | apply bn | apply bd | apply ba); exact BK159.out) hb)
         have n6_ := Aside0.mk (below_step (by repeat with_reducible first | exact HB.out | apply below_alloc | apply pw_below_drewN | apply below_drew1 | refine below_set ?_ GE155.out | refine below_set ?_ GE156.out | refine below_set ?_ GE157.out | refine below_set ?_ GE159.out) hb)
         have n7_ := Aside0.mk (hbox)
         have n8_ := Aside0.mk ((by rw [hg]; exact (below_size (by repeat with_reducible first | exact HB.out | apply below_alloc | apply pw_below_drewN | apply below_drew1 | refine below_set ?_ GE155.out | refine below_set ?_ GE156.out | refine below_set ?_ GE157.out | refine below_set ?_ GE159.out)) : w.heap.size ≤ gb166))
         have n9_ := Aside0.mk ((by rw [hg]; exact (below_size (by repeat with_reducible first | exact HB.out | apply below_alloc | apply pw_below_drewN | apply below_drew1 | refine below_set ?_ GE155.out | refine below_set ?_ GE156.out | refine below_set ?_ GE157.out | refine below_set ?_ GE159.out)) : w.heap.size ≤ gb166))
         have n10_ := Aside0.mk ((by rw [hg]; exact Nat.ne_of_lt (blk_lt (g := gb155) (o := .cells #[.slice (some ad158) l0_0.length c0_0] 24 (0, 0)) (by (with_reducible repeat first | apply bn | apply bd | apply ba); exact BK155.out)) : gb155 ≠ gb166))
         have n11_ := Aside0.mk ((by rw [hg]; exact Nat.ne_of_gt (blk_lt (g := gb155) (o := .cells #[.slice (some ad158) l0_0.length c0_0] 24 (0, 0)) (by (with_reducible repeat first | apply bn | apply bd | apply ba); exact BK155.out)) : gb166 ≠ gb155))
         have n12_ := Aside0.mk ((by rw [hg]; exact Nat.ne_of_lt (blk_lt (g := gb156) (o := .cells #[.slice none 0 0] 28 (0, 0)) (by (with_reducible repeat first | apply bn | apply bd | apply ba); exact BK156.out)) : gb156 ≠ gb166))
         have n13_ := Aside0.mk ((by rw [hg]; exact Nat.ne_of_gt (blk_lt (g := gb156) (o := .cells #[.slice none 0 0] 28 (0, 0)) (by (with_reducible repeat first | apply bn | apply bd | apply ba); exact BK156.out)) : gb166 ≠ gb156))
         have n14_ := Aside0.mk ((by rw [hg]; exact Nat.ne_of_lt (blk_lt (g := gb157) (o := .cells #[u158000] 28 (0, 0)) (by (with_reducible repeat first | apply bn | apply bd | apply ba); exact BK157.out)) : gb157 ≠ gb166))
         have n15_ := Aside0.mk ((by rw [hg]; exact Nat.ne_of_gt (blk_lt (g := gb157) (o := .cells #[u158000] 28 (0, 0)) (by (with_reducible repeat first | apply bn | apply bd | apply ba); exact BK157.out)) : gb166 ≠ gb157))
         have n16_ := Aside0.mk ((by rw [hg]; exact Nat.ne_of_lt (blk_lt (g := gb159) (o := .cells #[.string ((rd_T44 l0_0 x4_1).f0), .string ((rd_T44 l0_0 x4_1).f1), .slice A158_2 ((rd_T44 l0_0 x4_1).f2).length c158_2, .slice A158_3 ((rd_T44 l0_0 x4_1).f3).length c158_3] 44 (0, 0)) (by (with_reducible repeat first | apply bn | apply bd | apply ba); exact BK159.out)) : gb159 ≠ gb166))
         have n17_ := Aside0.mk ((by rw [hg]; exact Nat.ne_of_gt (blk_lt (g := gb159) (o := .cells #[.string ((rd_T44 l0_0 x4_1).f0), .string ((rd_T44 l0_0 x4_1).f1), .slice A158_2 ((rd_T44 l0_0 x4_1).f2).length c158_2, .slice A158_3 ((rd_T44 l0_0 x4_1).f3).length c158_3] 44 (0, 0)) (by (with_reducible repeat first | apply bn | apply bd | apply ba); exact BK159.out)) : gb166 ≠ gb159))
         clear HO_158000
         clear HO165
         clear BK155
         clear BK156
         clear BK157
         clear BK159
         clear HB
         have HO_158000 := n0_
         have HO165 := n1_
         have BK155 := n2_
         have BK156 := n3_
         have BK157 := n4_
         have BK159 := n5_
         have HB := n6_
         have BK166 := n7_
         have GW166 := n8_
         have GE166 := n9_
         have NB155_166 := n10_
         have NB166_155 := n11_
         have NB156_166 := n12_
         have NB166_156 := n13_
         have NB157_166 := n14_
         have NB166_157 := n15_
         have NB159_166 := n16_
         have NB166_159 := n17_
         clear n0_ n1_ n2_ n3_ n4_ n5_ n6_ n7_ n8_ n9_ n10_ n11_ n12_ n13_ n14_ n15_ n16_ n17_
         clear hb hbox hg
         refine hK.out _ _ ⟨(blk_cell BK159.out 0).trans rfl, (blk_cell BK159.out 1).trans rfl, (blk_cell BK159.out 2).trans rfl, (blk_cell BK159.out 3).trans rfl⟩ (fun hHeld => ?_)
         clear hK K
         refine norm_ (a' := ?_) ?_ ?_
         rotate_left
         ·show Act.put _ (some 6) _ = _
          simp only [Act.put, List.setIfInBounds_toArray, List.set_cons_zero, List.set_cons_succ, i64_w]
          rfl
         exact norm_ (by simp only [putAll, Act.put, List.setIfInBounds_toArray, List.set_cons_zero, List.set_cons_succ]) (hCont (v161, .slice Ao24 y163.length co24, gb166) _ ⟨hHeld, (by (with_reducible repeat first | apply Kd.R_alloc | apply Kd.R_drewN | apply Kd.R_drew); exact HO165.out), (by (with_reducible repeat first | apply Kd.R_alloc | apply Kd.R_drewN | apply Kd.R_drew); exact Kd.R_mono HO_158000.out (fun _ hk => ⟨hk.1.2, hk.2⟩)), (by (with_reducible repeat first | apply bn | apply bd | apply ba); exact BK155.out), (by (with_reducible repeat first | apply bn | apply bd | apply ba); exact BK156.out), (by (with_reducible repeat first | apply bn | apply bd | apply ba); exact BK157.out), (by (with_reducible repeat first | apply bn | apply bd | apply ba); exact BK159.out), (by (with_reducible repeat first | apply bn | apply bd | apply ba); exact BK166.out), GW166.out, GE166.out, NB155_166.out, NB166_155.out, NB156_166.out, NB166_156.out, NB157_166.out, NB166_157.out, NB159_166.out, NB166_159.out, (by repeat with_reducible first | exact HB.out | apply below_alloc | apply pw_below_drewN | apply below_drew1 | refine below_set ?_ GE155.out | refine below_set ?_ GE156.out | refine below_set ?_ GE157.out | refine below_set ?_ GE159.out | refine below_set ?_ GE166.out)⟩)
        ·skip
         refine box_step ?hg (N := 6) ?hd (cs := #[.string (⟨#[]⟩ : ByteArray), .string (⟨#[]⟩ : ByteArray), .slice none 0 0, .slice none 0 0]) (t := 35) ?hr ?_; (case hd => rfl); (case hg => rfl); (case hr => first | (go_simp; done) | (go_simp; rfl))
         intro gb166 hg w23 hbox hb
         have n0_ := Aside0.mk (Kd.R_below (Kd.R_elderB (by (with_reducible repeat first | apply Kd.R_alloc | apply Kd.R_drewN | apply Kd.R_drew); exact HO_158000.out) gb166 (Nat.le_of_eq hg.symm)) hb)
         have n1_ := Aside0.mk (Kd.R_below (by (with_reducible repeat first | apply Kd.R_alloc | apply Kd.R_drewN | apply Kd.R_drew); exact HO162.out) hb)
         have n2_ := Aside0.mk (blk_below (g := gb155) (o := .cells #[.slice (some ad158) l0_0.length c0_0] 24 (0, 0)) (by (with_reducible repeat first | apply bn | apply bd | apply ba); exact BK155.out) hb)
         have n3_ := Aside0.mk (blk_below (g := gb156) (o := .cells #[.slice none 0 0] 28 (0, 0)) (by (with_reducible repeat first | apply bn | apply bd | apply ba); exact BK156.out) hb)
         have n4_ := Aside0.mk (blk_below (g := gb157) (o := .cells #[u158000] 28 (0, 0)) (by (with_reducible repeat first | apply bn | apply bd | apply ba); exact BK157.out) hb)
         have n5_ := Aside0.mk (blk_below (g := gb159) (o := .cells #[.string ((rd_T44 l0_0 x4_1).f0), .string ((rd_T44 l0_0 x4_1).f1), .slice A158_2 ((rd_T44 l0_0 x4_1).f2).length c158_2, .slice A158_3 ((rd_T44 l0_0 x4_1).f3).length c158_3] 44 (0, 0)) (by (with_reducible repeat first | apply bn | apply bd | apply ba); exact BK159.out) hb)
         have n6_ := Aside0.mk (below_step (by repeat with_reducible first | exact HB.out | apply below_alloc | apply pw_below_drewN | apply below_drew1 | refine below_set ?_ GE155.out | refine below_set ?_ GE156.out | refine below_set ?_ GE157.out | refine below_set ?_ GE159.out) hb)
         have n7_ := Aside0.mk (hbox)
         have n8_ := Aside0.mk ((by rw [hg]; exact (below_size (by repeat with_reducible first | exact HB.out | apply below_alloc | apply pw_below_drewN | apply below_drew1 | refine below_set ?_ GE155.out | refine below_set ?_ GE156.out | refine below_set ?_ GE157.out | refine below_set ?_ GE159.out)) : w.heap.size ≤ gb166))
         have n9_ := Aside0.mk ((by rw [hg]; exact (below_size (by repeat with_reducible first | exact HB.out | apply below_alloc | apply pw_below_drewN | apply below_drew1 | refine below_set ?_ GE155.out | refine below_set ?_ GE156.out | refine below_set ?_ GE157.out | refine below_set ?_ GE159.out)) : w.heap.size ≤ gb166))
         have n10_ := Aside0.mk ((by rw [hg]; exact Nat.ne_of_lt (blk_lt (g := gb155) (o := .cells #[.slice (some ad158) l0_0.length c0_0] 24 (0, 0)) (by (with_reducible repeat first | apply bn | apply bd | apply ba); exact BK155.out)) : gb155 ≠ gb166))
         have n11_ := Aside0.mk ((by rw [hg]; exact Nat.ne_of_gt (blk_lt (g := gb155) (o := .cells #[.slice (some ad158) l0_0.length c0_0] 24 (0, 0)) (by (with_reducible repeat first | apply bn | apply bd | apply ba); exact BK155.out)) : gb166 ≠ gb155))
         have n12_ := Aside0.mk ((by rw [hg]; exact Nat.ne_of_lt (blk_lt (g := gb156) (o := .cells #[.slice none 0 0] 28 (0, 0)) (by (with_reducible repeat first | apply bn | apply bd | apply ba); exact BK156.out)) : gb156 ≠ gb166))
         have n13_ := Aside0.mk ((by rw [hg]; exact Nat.ne_of_gt (blk_lt (g := gb156) (o := .cells #[.slice none 0 0] 28 (0, 0)) (by (with_reducible repeat first | apply bn | apply bd | apply ba); exact BK156.out)) : gb166 ≠ gb156))
         have n14_ := Aside0.mk ((by rw [hg]; exact Nat.ne_of_lt (blk_lt (g := gb157) (o := .cells #[u158000] 28 (0, 0)) (by (with_reducible repeat first | apply bn | apply bd | apply ba); exact BK157.out)) : gb157 ≠ gb166))
         have n15_ := Aside0.mk ((by rw [hg]; exact Nat.ne_of_gt (blk_lt (g := gb157) (o := .cells #[u158000] 28 (0, 0)) (by (with_reducible repeat first | apply bn | apply bd | apply ba); exact BK157.out)) : gb166 ≠ gb157))
         have n16_ := Aside0.mk ((by rw [hg]; exact Nat.ne_of_lt (blk_lt (g := gb159) (o := .cells #[.string ((rd_T44 l0_0 x4_1).f0), .string ((rd_T44 l0_0 x4_1).f1), .slice A158_2 ((rd_T44 l0_0 x4_1).f2).length c158_2, .slice A158_3 ((rd_T44 l0_0 x4_1).f3).length c158_3] 44 (0, 0)) (by (with_reducible repeat first | apply bn | apply bd | apply ba); exact BK159.out)) : gb159 ≠ gb166))
         have n17_ := Aside0.mk ((by rw [hg]; exact Nat.ne_of_gt (blk_lt (g := gb159) (o := .cells #[.string ((rd_T44 l0_0 x4_1).f0), .string ((rd_T44 l0_0 x4_1).f1), .slice A158_2 ((rd_T44 l0_0 x4_1).f2).length c158_2, .slice A158_3 ((rd_T44 l0_0 x4_1).f3).length c158_3] 44 (0, 0)) (by (with_reducible repeat first | apply bn | apply bd | apply ba); exact BK159.out)) : gb166 ≠ gb159))
         clear HO_158000
         clear HO162
         clear BK155
         clear BK156
         clear BK157
         clear BK159
         clear HB
         have HO_158000 := n0_
         have HO162 := n1_
         have BK155 := n2_
         have BK156 := n3_
         have BK157 := n4_
         have BK159 := n5_
         have HB := n6_
         have BK166 := n7_
         have GW166 := n8_
         have GE166 := n9_
         have NB155_166 := n10_
         have NB166_155 := n11_
         have NB156_166 := n12_
         have NB166_156 := n13_
         have NB157_166 := n14_
         have NB166_157 := n15_
         have NB159_166 := n16_
         have NB166_159 := n17_
         clear n0_ n1_ n2_ n3_ n4_ n5_ n6_ n7_ n8_ n9_ n10_ n11_ n12_ n13_ n14_ n15_ n16_ n17_
         clear hb hbox hg
         refine hK.out _ _ ⟨(blk_cell BK159.out 0).trans rfl, (blk_cell BK159.out 1).trans rfl, (blk_cell BK159.out 2).trans rfl, (blk_cell BK159.out 3).trans rfl⟩ (fun hHeld => ?_)
         clear hK K
         refine norm_ (a' := ?_) ?_ ?_
         rotate_left
         ·show Act.put _ (some 6) _ = _
          simp only [Act.put, List.setIfInBounds_toArray, List.set_cons_zero, List.set_cons_succ, i64_w]
          rfl
         refine one_ (i := 7) (N := some 31) #[true, true, true, true, true, true, true, true, false, true, false] rfl rfl (one_of HT_.out (by kernel_rfl)) (by decide) (fun K hK => ?_)
         refine Kd.R_append_rows_step k37 (w0 := w) w.heap.size (by rfl) (.tmp 28) (.tmp 30) 32 37 (.agg #[(.string ⟨#[]⟩), (.string ⟨#[]⟩)]) 32 rfl Try.underlying32 info37 rfl (by decide) (by omega) v161 y160 ((rd_T44 l0_0 x4_1).f2) _ _ _ (fun _ => True) (fun _ => False) rfl rfl ?aO ?aR (fun _ _ h => h) (fun _ h => h.elim) ?aF ?aB ?aS ?aL ?_
         (case aR => repeat (first | exact (Kd.C_below HR158_2.out HB.out) | (with_reducible refine Kd.C_alloc ?_ _) | (with_reducible refine Kd.C_drewN ?_ _) | (with_reducible refine Kd.C_drew ?_)))
         (case aB => exact (by repeat with_reducible first | exact HB.out | apply below_alloc | apply pw_below_drewN | apply below_drew1 | refine below_set ?_ GE155.out | refine below_set ?_ GE156.out | refine below_set ?_ GE157.out | refine below_set ?_ GE159.out | refine below_set ?_ GE166.out))
         (case aF => exact (fun _ _ => trivial))
         (case aO => exact (by (with_reducible repeat first | apply Kd.R_alloc | apply Kd.R_drewN | apply Kd.R_drew); exact HO162.out))
         (case aS => exact (below_size (by repeat with_reducible first | exact HB.out | apply below_alloc | apply pw_below_drewN | apply below_drew1 | refine below_set ?_ GE155.out | refine below_set ?_ GE156.out | refine below_set ?_ GE157.out | refine below_set ?_ GE159.out | refine below_set ?_ GE166.out)))
         (case aL => have := LMc10.out; omega)
         intro v164 w24 ho hb hg hat
         rw [← Ny163.out] at ho
         have n0_ := Aside0.mk (Kd.R_after (ok := (fun k_ => k_ ≠ gb166)) (by (with_reducible repeat first | apply Kd.R_alloc | apply Kd.R_drewN | apply Kd.R_drew); exact Kd.R_mono HO_158000.out (fun _ hk => ⟨hk.2, hk.1.2⟩)) hg hat)
         have n1_ := Aside0.mk (blk_grown (g := gb155) (o := .cells #[.slice (some ad158) l0_0.length c0_0] 24 (0, 0)) (by (with_reducible repeat first | apply bn | apply bd | apply ba); exact BK155.out) hg (Kd.R_ne HO162.out BK155.out (by decide)))
         have n2_ := Aside0.mk (blk_grown (g := gb156) (o := .cells #[.slice none 0 0] 28 (0, 0)) (by (with_reducible repeat first | apply bn | apply bd | apply ba); exact BK156.out) hg (Kd.R_ne HO162.out BK156.out (by decide)))
         have n3_ := Aside0.mk (blk_grown (g := gb157) (o := .cells #[u158000] 28 (0, 0)) (by (with_reducible repeat first | apply bn | apply bd | apply ba); exact BK157.out) hg (Kd.R_ne HO162.out BK157.out (by decide)))
         have n4_ := Aside0.mk (blk_grown (g := gb159) (o := .cells #[.string ((rd_T44 l0_0 x4_1).f0), .string ((rd_T44 l0_0 x4_1).f1), .slice A158_2 ((rd_T44 l0_0 x4_1).f2).length c158_2, .slice A158_3 ((rd_T44 l0_0 x4_1).f3).length c158_3] 44 (0, 0)) (by (with_reducible repeat first | apply bn | apply bd | apply ba); exact BK159.out) hg (Kd.R_ne HO162.out BK159.out (by decide)))
         have n5_ := Aside0.mk (blk_grown (g := gb166) (o := .cells #[.string (⟨#[]⟩ : ByteArray), .string (⟨#[]⟩ : ByteArray), .slice none 0 0, .slice none 0 0] 35 (0, 0)) (by (with_reducible repeat first | apply bn | apply bd | apply ba); exact BK166.out) hg (Kd.R_ne HO162.out BK166.out (by decide)))
         have n6_ := Aside0.mk (hb)
         have n7_ := Aside0.mk (ho)
         clear HO_158000
         clear BK155
         clear BK156
         clear BK157
         clear BK159
         clear BK166
         clear HB
         clear HO162
         have HO_158000 := n0_
         have BK155 := n1_
         have BK156 := n2_
         have BK157 := n3_
         have BK159 := n4_
         have BK166 := n5_
         have HB := n6_
         have HO165 := n7_
         clear n0_ n1_ n2_ n3_ n4_ n5_ n6_ n7_
         clear ho hb hg hat
         obtain ⟨Ao25, co25, eo25⟩ := Kd.R_slice HO165.out
         (first | subst eo25 | (injection eo25 with f1_ f2_ f3_; have f4_ := f1_.symm; have f5_ := f3_.symm; clear f1_ f2_ f3_; subst f4_; subst f5_))
         refine hK.out _ _ ⟨(blk_cell BK159.out 0).trans rfl, (blk_cell BK159.out 1).trans rfl, (blk_cell BK159.out 2).trans rfl, (blk_cell BK159.out 3).trans rfl⟩ (fun hHeld => ?_)
         clear hK K
         refine norm_ (a' := ?_) ?_ ?_
         rotate_left
         ·show Act.put _ (some 31) _ = _
          simp only [Act.put, List.setIfInBounds_toArray, List.set_cons_zero, List.set_cons_succ, i64_w]
          rfl
         refine pure_ (i := 8) (N := some 32) (v := ?_) (a' := ?_) #[true, true, true, true, true, true, true, true, true, true, false] rfl rfl (any_of HT_.out (by kernel_rfl)) (fun _ _ _ h => h) (Or.inl ⟨by rfl, ?_⟩) ?_ ?_
         rotate_left
         ·intro w'
          go_simp
          with_reducible rfl
         rotate_left
         ·simp only [Act.put, List.setIfInBounds_toArray, List.set_cons_zero, List.set_cons_succ, i64_w]
          rfl
         exact norm_ (by simp only [putAll, Act.put, List.setIfInBounds_toArray, List.set_cons_zero, List.set_cons_succ]) (hCont (v161, .slice Ao25 y163.length co25, gb166) _ ⟨hHeld, (by (with_reducible repeat first | apply Kd.R_alloc | apply Kd.R_drewN | apply Kd.R_drew); exact HO165.out), (by (with_reducible repeat first | apply Kd.R_alloc | apply Kd.R_drewN | apply Kd.R_drew); exact Kd.R_mono HO_158000.out (fun _ hk => ⟨hk.2, hk.1⟩)), (by (with_reducible repeat first | apply bn | apply bd | apply ba); exact BK155.out), (by (with_reducible repeat first | apply bn | apply bd | apply ba); exact BK156.out), (by (with_reducible repeat first | apply bn | apply bd | apply ba); exact BK157.out), (by (with_reducible repeat first | apply bn | apply bd | apply ba); exact BK159.out), (by (with_reducible repeat first | apply bn | apply bd | apply ba); exact BK166.out), GW166.out, GE166.out, NB155_166.out, NB166_155.out, NB156_166.out, NB166_156.out, NB157_166.out, NB166_157.out, NB159_166.out, NB166_159.out, (by repeat with_reducible first | exact HB.out | apply below_alloc | apply pw_below_drewN | apply below_drew1 | refine below_set ?_ GE155.out | refine below_set ?_ GE156.out | refine below_set ?_ GE157.out | refine below_set ?_ GE159.out | refine below_set ?_ GE166.out)⟩)
       ·skip
        refine box_step ?hg (N := 6) ?hd (cs := #[.string (⟨#[]⟩ : ByteArray), .string (⟨#[]⟩ : ByteArray), .slice none 0 0, .slice none 0 0]) (t := 35) ?hr ?_; (case hd => rfl); (case hg => rfl); (case hr => first | (go_simp; done) | (go_simp; rfl))
        intro gb166 hg w21 hbox hb
        have n0_ := Aside0.mk (Kd.R_below (Kd.R_elderB (by (with_reducible repeat first | apply Kd.R_alloc | apply Kd.R_drewN | apply Kd.R_drew); exact HO_158000.out) gb166 (Nat.le_of_eq hg.symm)) hb)
        have n1_ := Aside0.mk (blk_below (g := gb155) (o := .cells #[.slice (some ad158) l0_0.length c0_0] 24 (0, 0)) (by (with_reducible repeat first | apply bn | apply bd | apply ba); exact BK155.out) hb)
        have n2_ := Aside0.mk (blk_below (g := gb156) (o := .cells #[.slice none 0 0] 28 (0, 0)) (by (with_reducible repeat first | apply bn | apply bd | apply ba); exact BK156.out) hb)
        have n3_ := Aside0.mk (blk_below (g := gb157) (o := .cells #[u158000] 28 (0, 0)) (by (with_reducible repeat first | apply bn | apply bd | apply ba); exact BK157.out) hb)
        have n4_ := Aside0.mk (blk_below (g := gb159) (o := .cells #[.string ((rd_T44 l0_0 x4_1).f0), .string ((rd_T44 l0_0 x4_1).f1), .slice A158_2 ((rd_T44 l0_0 x4_1).f2).length c158_2, .slice A158_3 ((rd_T44 l0_0 x4_1).f3).length c158_3] 44 (0, 0)) (by (with_reducible repeat first | apply bn | apply bd | apply ba); exact BK159.out) hb)
        have n5_ := Aside0.mk (below_step (by repeat with_reducible first | exact HB.out | apply below_alloc | apply pw_below_drewN | apply below_drew1 | refine below_set ?_ GE155.out | refine below_set ?_ GE156.out | refine below_set ?_ GE157.out | refine below_set ?_ GE159.out) hb)
        have n6_ := Aside0.mk (hbox)
        have n7_ := Aside0.mk ((by rw [hg]; exact (below_size (by repeat with_reducible first | exact HB.out | apply below_alloc | apply pw_below_drewN | apply below_drew1 | refine below_set ?_ GE155.out | refine below_set ?_ GE156.out | refine below_set ?_ GE157.out | refine below_set ?_ GE159.out)) : w.heap.size ≤ gb166))
        have n8_ := Aside0.mk ((by rw [hg]; exact (below_size (by repeat with_reducible first | exact HB.out | apply below_alloc | apply pw_below_drewN | apply below_drew1 | refine below_set ?_ GE155.out | refine below_set ?_ GE156.out | refine below_set ?_ GE157.out | refine below_set ?_ GE159.out)) : w.heap.size ≤ gb166))
        have n9_ := Aside0.mk ((by rw [hg]; exact Nat.ne_of_lt (blk_lt (g := gb155) (o := .cells #[.slice (some ad158) l0_0.length c0_0] 24 (0, 0)) (by (with_reducible repeat first | apply bn | apply bd | apply ba); exact BK155.out)) : gb155 ≠ gb166))
        have n10_ := Aside0.mk ((by rw [hg]; exact Nat.ne_of_gt (blk_lt (g := gb155) (o := .cells #[.slice (some ad158) l0_0.length c0_0] 24 (0, 0)) (by (with_reducible repeat first | apply bn | apply bd | apply ba); exact BK155.out)) : gb166 ≠ gb155))
        have n11_ := Aside0.mk ((by rw [hg]; exact Nat.ne_of_lt (blk_lt (g := gb156) (o := .cells #[.slice none 0 0] 28 (0, 0)) (by (with_reducible repeat first | apply bn | apply bd | apply ba); exact BK156.out)) : gb156 ≠ gb166))
        have n12_ := Aside0.mk ((by rw [hg]; exact Nat.ne_of_gt (blk_lt (g := gb156) (o := .cells #[.slice none 0 0] 28 (0, 0)) (by (with_reducible repeat first | apply bn | apply bd | apply ba); exact BK156.out)) : gb166 ≠ gb156))
        have n13_ := Aside0.mk ((by rw [hg]; exact Nat.ne_of_lt (blk_lt (g := gb157) (o := .cells #[u158000] 28 (0, 0)) (by (with_reducible repeat first | apply bn | apply bd | apply ba); exact BK157.out)) : gb157 ≠ gb166))
        have n14_ := Aside0.mk ((by rw [hg]; exact Nat.ne_of_gt (blk_lt (g := gb157) (o := .cells #[u158000] 28 (0, 0)) (by (with_reducible repeat first | apply bn | apply bd | apply ba); exact BK157.out)) : gb166 ≠ gb157))
        have n15_ := Aside0.mk ((by rw [hg]; exact Nat.ne_of_lt (blk_lt (g := gb159) (o := .cells #[.string ((rd_T44 l0_0 x4_1).f0), .string ((rd_T44 l0_0 x4_1).f1), .slice A158_2 ((rd_T44 l0_0 x4_1).f2).length c158_2, .slice A158_3 ((rd_T44 l0_0 x4_1).f3).length c158_3] 44 (0, 0)) (by (with_reducible repeat first | apply bn | apply bd | apply ba); exact BK159.out)) : gb159 ≠ gb166))
        have n16_ := Aside0.mk ((by rw [hg]; exact Nat.ne_of_gt (blk_lt (g := gb159) (o := .cells #[.string ((rd_T44 l0_0 x4_1).f0), .string ((rd_T44 l0_0 x4_1).f1), .slice A158_2 ((rd_T44 l0_0 x4_1).f2).length c158_2, .slice A158_3 ((rd_T44 l0_0 x4_1).f3).length c158_3] 44 (0, 0)) (by (with_reducible repeat first | apply bn | apply bd | apply ba); exact BK159.out)) : gb166 ≠ gb159))
        clear HO_158000
        clear BK155
        clear BK156
        clear BK157
        clear BK159
        clear HB
        have HO_158000 := n0_
        have BK155 := n1_
        have BK156 := n2_
        have BK157 := n3_
        have BK159 := n4_
        have HB := n5_
        have BK166 := n6_
        have GW166 := n7_
        have GE166 := n8_
        have NB155_166 := n9_
        have NB166_155 := n10_
        have NB156_166 := n11_
        have NB166_156 := n12_
        have NB157_166 := n13_
        have NB166_157 := n14_
        have NB159_166 := n15_
        have NB166_159 := n16_
        clear n0_ n1_ n2_ n3_ n4_ n5_ n6_ n7_ n8_ n9_ n10_ n11_ n12_ n13_ n14_ n15_ n16_
        clear hb hbox hg
        refine hK.out _ _ ⟨(blk_cell BK159.out 0).trans rfl, (blk_cell BK159.out 1).trans rfl, (blk_cell BK159.out 2).trans rfl, (blk_cell BK159.out 3).trans rfl⟩ (fun hHeld => ?_)
        clear hK K
        refine norm_ (a' := ?_) ?_ ?_
        rotate_left
        ·show Act.put _ (some 6) _ = _
         simp only [Act.put, List.setIfInBounds_toArray, List.set_cons_zero, List.set_cons_succ, i64_w]
         rfl
        refine one_ (i := 4) (N := some 28) #[true, true, true, true, true, true, true, false, false, true, false] rfl rfl (one_of HT_.out (by kernel_rfl)) (by decide) (fun K hK => ?_)
        refine Kd.R_lit_step k37 _ 37 ?hg (N := 28) ?hd (xs := ([] : List (S37))) (inner := []) (ok := fun _ => True) (okp := fun _ => True) ?hr ?hp (fun _ hk => hk) trivial (Below.refl _ _) (Nat.le_refl _) (by simp) ?_; (case hd => rfl); (case hg => rfl); (case hr => first | (go_simp; done) | (go_simp; rfl)); (case hp => exact (Reps.none _ _))
        intro v161 w22 ho23 hb hg_ hnew_
        clear hg_ hnew_
        (first | rw [← Ny160.out] at ho23 | (simp only [Int.reduceToNat] at ho23; rw [← Ny160.out] at ho23))
        have n0_ := Aside0.mk (Kd.R_elder' (by (with_reducible repeat first | apply Kd.R_alloc | apply Kd.R_drewN | apply Kd.R_drew); exact HO_158000.out) (Kd.R_base ho23) hb)
        have n1_ := Aside0.mk (Kd.R_lower ho23 (below_size (by repeat with_reducible first | exact HB.out | apply below_alloc | apply pw_below_drewN | apply below_drew1 | refine below_set ?_ GE155.out | refine below_set ?_ GE156.out | refine below_set ?_ GE157.out | refine below_set ?_ GE159.out | refine below_set ?_ GE166.out)))
        have n2_ := Aside0.mk (blk_below (g := gb155) (o := .cells #[.slice (some ad158) l0_0.length c0_0] 24 (0, 0)) (by (with_reducible repeat first | apply bn | apply bd | apply ba); exact BK155.out) hb)
        have n3_ := Aside0.mk (blk_below (g := gb156) (o := .cells #[.slice none 0 0] 28 (0, 0)) (by (with_reducible repeat first | apply bn | apply bd | apply ba); exact BK156.out) hb)
        have n4_ := Aside0.mk (blk_below (g := gb157) (o := .cells #[u158000] 28 (0, 0)) (by (with_reducible repeat first | apply bn | apply bd | apply ba); exact BK157.out) hb)
        have n5_ := Aside0.mk (blk_below (g := gb159) (o := .cells #[.string ((rd_T44 l0_0 x4_1).f0), .string ((rd_T44 l0_0 x4_1).f1), .slice A158_2 ((rd_T44 l0_0 x4_1).f2).length c158_2, .slice A158_3 ((rd_T44 l0_0 x4_1).f3).length c158_3] 44 (0, 0)) (by (with_reducible repeat first | apply bn | apply bd | apply ba); exact BK159.out) hb)
        have n6_ := Aside0.mk (blk_below (g := gb166) (o := .cells #[.string (⟨#[]⟩ : ByteArray), .string (⟨#[]⟩ : ByteArray), .slice none 0 0, .slice none 0 0] 35 (0, 0)) (by (with_reducible repeat first | apply bn | apply bd | apply ba); exact BK166.out) hb)
        have n7_ := Aside0.mk (below_step (by repeat with_reducible first | exact HB.out | apply below_alloc | apply pw_below_drewN | apply below_drew1 | refine below_set ?_ GE155.out | refine below_set ?_ GE156.out | refine below_set ?_ GE157.out | refine below_set ?_ GE159.out | refine below_set ?_ GE166.out) hb)
        clear HO_158000
        clear BK155
        clear BK156
        clear BK157
        clear BK159
        clear BK166
        clear HB
        have HO_158000 := n0_
        have HO162 := n1_
        have BK155 := n2_
        have BK156 := n3_
        have BK157 := n4_
        have BK159 := n5_
        have BK166 := n6_
        have HB := n7_
        clear n0_ n1_ n2_ n3_ n4_ n5_ n6_ n7_
        clear hb ho23
        refine hK.out _ _ ⟨(blk_cell BK159.out 0).trans rfl, (blk_cell BK159.out 1).trans rfl, (blk_cell BK159.out 2).trans rfl, (blk_cell BK159.out 3).trans rfl⟩ (fun hHeld => ?_)
        clear hK K
        refine norm_ (a' := ?_) ?_ ?_
        rotate_left
        ·show Act.put _ (some 28) _ = _
         simp only [Act.put, List.setIfInBounds_toArray, List.set_cons_zero, List.set_cons_succ, i64_w]
         rfl
        refine one_ (i := 7) (N := some 31) #[true, true, true, true, true, true, true, true, false, true, false] rfl rfl (one_of HT_.out (by kernel_rfl)) (by decide) (fun K hK => ?_)
        refine Kd.R_append_rows_step k37 (w0 := w) w.heap.size (by rfl) (.tmp 28) (.tmp 30) 32 37 (.agg #[(.string ⟨#[]⟩), (.string ⟨#[]⟩)]) 32 rfl Try.underlying32 info37 rfl (by decide) (by omega) v161 y160 ((rd_T44 l0_0 x4_1).f2) _ _ _ (fun _ => True) (fun _ => False) rfl rfl ?aO ?aR (fun _ _ h => h) (fun _ h => h.elim) ?aF ?aB ?aS ?aL ?_
        (case aR => repeat (first | exact (Kd.C_below HR158_2.out HB.out) | (with_reducible refine Kd.C_alloc ?_ _) | (with_reducible refine Kd.C_drewN ?_ _) | (with_reducible refine Kd.C_drew ?_)))
        (case aB => exact (by repeat with_reducible first | exact HB.out | apply below_alloc | apply pw_below_drewN | apply below_drew1 | refine below_set ?_ GE155.out | refine below_set ?_ GE156.out | refine below_set ?_ GE157.out | refine below_set ?_ GE159.out | refine below_set ?_ GE166.out))
        (case aF => exact (fun _ _ => trivial))
        (case aO => exact (by (with_reducible repeat first | apply Kd.R_alloc | apply Kd.R_drewN | apply Kd.R_drew); exact HO162.out))
        (case aS => exact (below_size (by repeat with_reducible first | exact HB.out | apply below_alloc | apply pw_below_drewN | apply below_drew1 | refine below_set ?_ GE155.out | refine below_set ?_ GE156.out | refine below_set ?_ GE157.out | refine below_set ?_ GE159.out | refine below_set ?_ GE166.out)))
        (case aL => have := LMc10.out; omega)
        intro v164 w24 ho hb hg hat
        rw [← Ny163.out] at ho
        have n0_ := Aside0.mk (Kd.R_after (ok := (fun k_ => k_ ≠ gb166)) (by (with_reducible repeat first | apply Kd.R_alloc | apply Kd.R_drewN | apply Kd.R_drew); exact Kd.R_mono HO_158000.out (fun _ hk => ⟨hk.1.2, hk.2⟩)) hg hat)
        have n1_ := Aside0.mk (blk_grown (g := gb155) (o := .cells #[.slice (some ad158) l0_0.length c0_0] 24 (0, 0)) (by (with_reducible repeat first | apply bn | apply bd | apply ba); exact BK155.out) hg (Kd.R_ne HO162.out BK155.out (by decide)))
        have n2_ := Aside0.mk (blk_grown (g := gb156) (o := .cells #[.slice none 0 0] 28 (0, 0)) (by (with_reducible repeat first | apply bn | apply bd | apply ba); exact BK156.out) hg (Kd.R_ne HO162.out BK156.out (by decide)))
        have n3_ := Aside0.mk (blk_grown (g := gb157) (o := .cells #[u158000] 28 (0, 0)) (by (with_reducible repeat first | apply bn | apply bd | apply ba); exact BK157.out) hg (Kd.R_ne HO162.out BK157.out (by decide)))
        have n4_ := Aside0.mk (blk_grown (g := gb159) (o := .cells #[.string ((rd_T44 l0_0 x4_1).f0), .string ((rd_T44 l0_0 x4_1).f1), .slice A158_2 ((rd_T44 l0_0 x4_1).f2).length c158_2, .slice A158_3 ((rd_T44 l0_0 x4_1).f3).length c158_3] 44 (0, 0)) (by (with_reducible repeat first | apply bn | apply bd | apply ba); exact BK159.out) hg (Kd.R_ne HO162.out BK159.out (by decide)))
        have n5_ := Aside0.mk (blk_grown (g := gb166) (o := .cells #[.string (⟨#[]⟩ : ByteArray), .string (⟨#[]⟩ : ByteArray), .slice none 0 0, .slice none 0 0] 35 (0, 0)) (by (with_reducible repeat first | apply bn | apply bd | apply ba); exact BK166.out) hg (Kd.R_ne HO162.out BK166.out (by decide)))
        have n6_ := Aside0.mk (hb)
        have n7_ := Aside0.mk (ho)
        clear HO_158000
        clear BK155
        clear BK156
        clear BK157
        clear BK159
        clear BK166
        clear HB
        clear HO162
        have HO_158000 := n0_
        have BK155 := n1_
        have BK156 := n2_
        have BK157 := n3_
        have BK159 := n4_
        have BK166 := n5_
        have HB := n6_
        have HO165 := n7_
        clear n0_ n1_ n2_ n3_ n4_ n5_ n6_ n7_
        clear ho hb hg hat
        obtain ⟨Ao25, co25, eo25⟩ := Kd.R_slice HO165.out
        (first | subst eo25 | (injection eo25 with f1_ f2_ f3_; have f4_ := f1_.symm; have f5_ := f3_.symm; clear f1_ f2_ f3_; subst f4_; subst f5_))
        refine hK.out _ _ ⟨(blk_cell BK159.out 0).trans rfl, (blk_cell BK159.out 1).trans rfl, (blk_cell BK159.out 2).trans rfl, (blk_cell BK159.out 3).trans rfl⟩ (fun hHeld => ?_)
        clear hK K
        refine norm_ (a' := ?_) ?_ ?_
        rotate_left
        ·show Act.put _ (some 31) _ = _
         simp only [Act.put, List.setIfInBounds_toArray, List.set_cons_zero, List.set_cons_succ, i64_w]
         rfl
        refine pure_ (i := 8) (N := some 32) (v := ?_) (a' := ?_) #[true, true, true, true, true, true, true, true, true, true, false] rfl rfl (any_of HT_.out (by kernel_rfl)) (fun _ _ _ h => h) (Or.inl ⟨by rfl, ?_⟩) ?_ ?_
        rotate_left
        ·intro w'
         go_simp
         with_reducible rfl
        rotate_left
        ·simp only [Act.put, List.setIfInBounds_toArray, List.set_cons_zero, List.set_cons_succ, i64_w]
         rfl
        exact norm_ (by simp only [putAll, Act.put, List.setIfInBounds_toArray, List.set_cons_zero, List.set_cons_succ]) (hCont (v161, .slice Ao25 y163.length co25, gb166) _ ⟨hHeld, (by (with_reducible repeat first | apply Kd.R_alloc | apply Kd.R_drewN | apply Kd.R_drew); exact HO165.out), (by (with_reducible repeat first | apply Kd.R_alloc | apply Kd.R_drewN | apply Kd.R_drew); exact Kd.R_mono HO_158000.out (fun _ hk => ⟨hk.2, hk.1⟩)), (by (with_reducible repeat first | apply bn | apply bd | apply ba); exact BK155.out), (by (with_reducible repeat first | apply bn | apply bd | apply ba); exact BK156.out), (by (with_reducible repeat first | apply bn | apply bd | apply ba); exact BK157.out), (by (with_reducible repeat first | apply bn | apply bd | apply ba); exact BK159.out), (by (with_reducible repeat first | apply bn | apply bd | apply ba); exact BK166.out), GW166.out, GE166.out, NB155_166.out, NB166_155.out, NB156_166.out, NB166_156.out, NB157_166.out, NB166_157.out, NB159_166.out, NB166_159.out, (by repeat with_reducible first | exact HB.out | apply below_alloc | apply pw_below_drewN | apply below_drew1 | refine below_set ?_ GE155.out | refine below_set ?_ GE156.out | refine below_set ?_ GE157.out | refine below_set ?_ GE159.out | refine below_set ?_ GE166.out)⟩)
      rintro ⟨v161, v164, gb166⟩ w26 ⟨hS_, h0_, h1_, h2_, h3_, h4_, h5_, h6_, h7_, h8_, h9_, h10_, h11_, h12_, h13_, h14_, h15_, h16_, h17_⟩
      have n0_ : Aside0 (Kd.R k37 37 w26 w.heap.size (fun _ => True) v164 y163) := ⟨h0_⟩
      have n1_ : Aside0 (Kd.R k35 35 w26 w.heap.size (fun k_ => some k_ ≠ (v164 : Value).ownBlock ∧ k_ ≠ gb166) u158000 x158000_1) := ⟨h1_⟩
      have n2_ : Aside0 (w26.heap[gb155]? = some (.cells #[.slice (some ad158) l0_0.length c0_0] 24 (0, 0))) := ⟨h2_⟩
      have n3_ : Aside0 (w26.heap[gb156]? = some (.cells #[.slice none 0 0] 28 (0, 0))) := ⟨h3_⟩
      have n4_ : Aside0 (w26.heap[gb157]? = some (.cells #[u158000] 28 (0, 0))) := ⟨h4_⟩
      have n5_ : Aside0 (w26.heap[gb159]? = some (.cells #[.string ((rd_T44 l0_0 x4_1).f0), .string ((rd_T44 l0_0 x4_1).f1), .slice A158_2 ((rd_T44 l0_0 x4_1).f2).length c158_2, .slice A158_3 ((rd_T44 l0_0 x4_1).f3).length c158_3] 44 (0, 0))) := ⟨h5_⟩
      have n6_ : Aside0 (w26.heap[gb166]? = some (.cells #[.string (⟨#[]⟩ : ByteArray), .string (⟨#[]⟩ : ByteArray), .slice none 0 0, .slice none 0 0] 35 (0, 0))) := ⟨h6_⟩
      have n7_ : Aside0 (w.heap.size ≤ gb166) := ⟨h7_⟩
      have n8_ : Aside0 (w.heap.size ≤ gb166) := ⟨h8_⟩
      have n9_ : Aside0 (gb155 ≠ gb166) := ⟨h9_⟩
      have n10_ : Aside0 (gb166 ≠ gb155) := ⟨h10_⟩
      have n11_ : Aside0 (gb156 ≠ gb166) := ⟨h11_⟩
      have n12_ : Aside0 (gb166 ≠ gb156) := ⟨h12_⟩
      have n13_ : Aside0 (gb157 ≠ gb166) := ⟨h13_⟩
      have n14_ : Aside0 (gb166 ≠ gb157) := ⟨h14_⟩
      have n15_ : Aside0 (gb159 ≠ gb166) := ⟨h15_⟩
      have n16_ : Aside0 (gb166 ≠ gb159) := ⟨h16_⟩
      have n17_ : Aside0 (Below w.heap.size w w26) := ⟨h17_⟩
      clear HO_158000
      clear BK155
      clear BK156
      clear BK157
      clear BK159
      clear HB
      clear h0_ h1_ h2_ h3_ h4_ h5_ h6_ h7_ h8_ h9_ h10_ h11_ h12_ h13_ h14_ h15_ h16_ h17_
      have HO165 := n0_
      have HO_158000 := n1_
      have BK155 := n2_
      have BK156 := n3_
      have BK157 := n4_
      have BK159 := n5_
      have BK166 := n6_
      have GW166 := n7_
      have GE166 := n8_
      have NB155_166 := n9_
      have NB166_155 := n10_
      have NB156_166 := n11_
      have NB166_156 := n12_
      have NB157_166 := n13_
      have NB166_157 := n14_
      have NB159_166 := n15_
      have NB166_159 := n16_
      have HB := n17_
      clear n0_ n1_ n2_ n3_ n4_ n5_ n6_ n7_ n8_ n9_ n10_ n11_ n12_ n13_ n14_ n15_ n16_ n17_
      have hHeld : w26.cell? ⟨gb159, 0, none⟩ = some (.string ((rd_T44 l0_0 x4_1).f0)) ∧ w26.cell? ⟨gb159, 1, none⟩ = some (.string ((rd_T44 l0_0 x4_1).f1)) ∧ w26.cell? ⟨gb159, 2, none⟩ = some (.slice A158_2 ((rd_T44 l0_0 x4_1).f2).length c158_2) ∧ w26.cell? ⟨gb159, 3, none⟩ = some (.slice A158_3 ((rd_T44 l0_0 x4_1).f3).length c158_3) := hS_
      obtain ⟨Ao27, co27, eo27⟩ := Kd.R_slice HO165.out
      (first | subst eo27 | (injection eo27 with f1_ f2_ f3_; have f4_ := f1_.symm; have f5_ := f3_.symm; clear f1_ f2_ f3_; subst f4_; subst f5_))
      refine norm_ (a' := ?_) ?_ ?_
      rotate_left
      ·simp only [putAll, Act.put, List.setIfInBounds_toArray, List.set_cons_zero, List.set_cons_succ]
       rfl
      refine one_ (i := 10) (N := none) #[true, true, true, true, true, true, true, true, true, true, true] rfl rfl (one_of HT_.out (by kernel_rfl)) (by decide) (fun K hK => ?_)
      have hs28 : w26.cell? ⟨gb166, 0, none⟩ = some (.string (⟨#[]⟩ : ByteArray)) := (blk_cell BK166.out 0).trans rfl
      have hfs28 := blk_frozen BK166.out 0
      have hns28_0 := NB155_166.out
      have hns28_1 := NB156_166.out
      have hns28_2 := NB157_166.out
      have hns28_3 := NB159_166.out
      have hms28_0 := NB166_155.out
      have hms28_1 := NB166_156.out
      have hms28_2 := NB166_157.out
      have hms28_3 := NB166_159.out
      have hs29 : w26.cell? ⟨gb166, 1, none⟩ = some (.string (⟨#[]⟩ : ByteArray)) := (blk_cell BK166.out 1).trans rfl
      have hfs29 := blk_frozen BK166.out 1
      have hns29_0 := NB155_166.out
      have hns29_1 := NB156_166.out
      have hns29_2 := NB157_166.out
      have hns29_3 := NB159_166.out
      have hms29_0 := NB166_155.out
      have hms29_1 := NB166_156.out
      have hms29_2 := NB166_157.out
      have hms29_3 := NB166_159.out
      have hs30 : w26.cell? ⟨gb166, 2, none⟩ = some (.slice none 0 0) := (blk_cell BK166.out 2).trans rfl
      have hfs30 := blk_frozen BK166.out 2
      have hns30_0 := NB155_166.out
      have hns30_1 := NB156_166.out
      have hns30_2 := NB157_166.out
      have hns30_3 := NB159_166.out
      have hms30_0 := NB166_155.out
      have hms30_1 := NB166_156.out
      have hms30_2 := NB166_157.out
      have hms30_3 := NB166_159.out
      have hs31 : w26.cell? ⟨gb166, 3, none⟩ = some (.slice none 0 0) := (blk_cell BK166.out 3).trans rfl
      have hfs31 := blk_frozen BK166.out 3
      have hns31_0 := NB155_166.out
      have hns31_1 := NB156_166.out
      have hns31_2 := NB157_166.out
      have hns31_3 := NB159_166.out
      have hms31_0 := NB166_155.out
      have hms31_1 := NB166_156.out
      have hms31_2 := NB166_157.out
      have hms31_3 := NB166_159.out
      refine skip_ (w1 := ?_) (by rfl) rfl ?_ ?_
      rotate_left
      ·go_simp
       rfl
      refine hK.out _ _ ⟨((cell_far (p := ⟨gb166, _, none⟩) NB159_166.out _).trans (((cell_far (p := ⟨gb166, _, none⟩) NB159_166.out _).trans (((cell_far (p := ⟨gb166, _, none⟩) NB159_166.out _).trans (((cell_far (p := ⟨gb166, _, none⟩) NB159_166.out _).trans (hHeld.1)))))))), ((cell_far (p := ⟨gb166, _, none⟩) NB159_166.out _).trans (((cell_far (p := ⟨gb166, _, none⟩) NB159_166.out _).trans (((cell_far (p := ⟨gb166, _, none⟩) NB159_166.out _).trans (((cell_far (p := ⟨gb166, _, none⟩) NB159_166.out _).trans (hHeld.2.1)))))))), ((cell_far (p := ⟨gb166, _, none⟩) NB159_166.out _).trans (((cell_far (p := ⟨gb166, _, none⟩) NB159_166.out _).trans (((cell_far (p := ⟨gb166, _, none⟩) NB159_166.out _).trans (((cell_far (p := ⟨gb166, _, none⟩) NB159_166.out _).trans (hHeld.2.2.1)))))))), ((cell_far (p := ⟨gb166, _, none⟩) NB159_166.out _).trans (((cell_far (p := ⟨gb166, _, none⟩) NB159_166.out _).trans (((cell_far (p := ⟨gb166, _, none⟩) NB159_166.out _).trans (((cell_far (p := ⟨gb166, _, none⟩) NB159_166.out _).trans (hHeld.2.2.2))))))))⟩ (fun hHeld => ?_)
      clear hK K
      refine done_ (done_of HT_.out (by kernel_rfl)) ?_
      try go_wp2
      go_loopg [7] k1 (fun kq v7 w' => ∃ (x7_2 : Int) (x167003_2 : List (S40)) (u167003 : Value), v7 = .int .i64 x7_2 ∧ Aside0 (dataflowref10_Of.l1 kq x4_1 x7_2 l0_0 x158000_1 ((rd_T44 l0_0 x4_1).f0) ((rd_T44 l0_0 x4_1).f1) ((rd_T44 l0_0 x4_1).f2) ((rd_T44 l0_0 x4_1).f3) ((rd_T44 l0_0 x4_1).f0) ((rd_T44 l0_0 x4_1).f1) y163 x167003_2 = some r) ∧ Aside0 (kq ≤ k1) ∧ Aside0 (Kd.R k35 35 w' w.heap.size (fun k_ => some k_ ≠ ((.slice Ao27 y163.length co27) : Value).ownBlock ∧ some k_ ≠ (u167003 : Value).ownBlock ∧ k_ ≠ gb166) u158000 x158000_1) ∧ Aside0 (Kd.R k37 37 w' w.heap.size (fun _ => True) (.slice Ao27 y163.length co27) y163) ∧ Aside0 (Kd.S k40 40 w' w.heap.size (fun _ => True) u167003 x167003_2) ∧ Aside0 (w'.heap[gb155]? = some (.cells #[(.slice (some ad158) l0_0.length c0_0)] 24 (0, 0))) ∧ Aside0 (w'.heap[gb156]? = some (.cells #[(.slice none 0 0)] 28 (0, 0))) ∧ Aside0 (w'.heap[gb157]? = some (.cells #[u158000] 28 (0, 0))) ∧ Aside0 (w'.heap[gb159]? = some (.cells #[.string ((rd_T44 l0_0 x4_1).f0), .string ((rd_T44 l0_0 x4_1).f1), (.slice A158_2 ((rd_T44 l0_0 x4_1).f2).length c158_2), (.slice A158_3 ((rd_T44 l0_0 x4_1).f3).length c158_3)] 44 (0, 0))) ∧ Aside0 (w'.heap[gb166]? = some (.cells #[.string ((rd_T44 l0_0 x4_1).f0), .string ((rd_T44 l0_0 x4_1).f1), (.slice Ao27 y163.length co27), u167003] 35 (0, 0))) ∧ Aside0 (Below w.heap.size w w'))
      case atStart => exact ⟨(0), (([] : List (S40))), (.slice none 0 0), (by first | rfl | (simp; done) | (simp [*]; done)), H', ⟨Nat.le_refl _⟩, ⟨by (with_reducible repeat first | apply Kd.R_alloc | apply Kd.R_drewN | apply Kd.R_drew); exact Kd.R_mono (Kd.R_far (p := ⟨gb166, 3, none⟩) (Kd.R_far (p := ⟨gb166, 2, none⟩) (Kd.R_far (p := ⟨gb166, 1, none⟩) (Kd.R_far (p := ⟨gb166, 0, none⟩) (Kd.R_mono HO_158000.out (fun k_ hk => (⟨hk, hk.2⟩ : _ ∧ k_ ≠ gb166))) (fun _ hk => hk.2) (.string ((rd_T44 l0_0 x4_1).f0))) (fun _ hk => hk.2) (.string ((rd_T44 l0_0 x4_1).f1))) (fun _ hk => hk.2) (.slice Ao27 y163.length co27)) (fun _ hk => hk.2) (.slice none 0 0)) (fun _ hk => ⟨hk.1.1, ⟨(by simp [Value.ownBlock]), hk.1.2⟩⟩)⟩, ⟨by (with_reducible repeat first | apply Kd.R_alloc | apply Kd.R_drewN | apply Kd.R_drew); exact Kd.R_mono (Kd.R_far (p := ⟨gb166, 3, none⟩) (Kd.R_far (p := ⟨gb166, 2, none⟩) (Kd.R_far (p := ⟨gb166, 1, none⟩) (Kd.R_far (p := ⟨gb166, 0, none⟩) (Kd.R_types HO165.out BK166.out (by decide)) (fun _ hk => hk.2) (.string ((rd_T44 l0_0 x4_1).f0))) (fun _ hk => hk.2) (.string ((rd_T44 l0_0 x4_1).f1))) (fun _ hk => hk.2) (.slice Ao27 y163.length co27)) (fun _ hk => hk.2) (.slice none 0 0)) (fun _ hk => trivial)⟩, ⟨by first | exact Kd.S_nil _ _ _ _ _ | exact Kd.N_nil _ _ _ _ _ | exact Kd.V_nil _ _ _ _ _ | exact Kd.Q_nil _ _ _ _ _ | exact Kd.R_nil _ _ _ _ _⟩, ⟨by (with_reducible repeat first | apply bn | apply bd | apply ba); refine blk_far ?_ NB155_166.out _; refine blk_far ?_ NB155_166.out _; refine blk_far ?_ NB155_166.out _; refine blk_far ?_ NB155_166.out _; (with_reducible repeat first | apply bn | apply bd | apply ba); exact BK155.out⟩, ⟨by (with_reducible repeat first | apply bn | apply bd | apply ba); refine blk_far ?_ NB156_166.out _; refine blk_far ?_ NB156_166.out _; refine blk_far ?_ NB156_166.out _; refine blk_far ?_ NB156_166.out _; (with_reducible repeat first | apply bn | apply bd | apply ba); exact BK156.out⟩, ⟨by (with_reducible repeat first | apply bn | apply bd | apply ba); refine blk_far ?_ NB157_166.out _; refine blk_far ?_ NB157_166.out _; refine blk_far ?_ NB157_166.out _; refine blk_far ?_ NB157_166.out _; (with_reducible repeat first | apply bn | apply bd | apply ba); exact BK157.out⟩, ⟨by (with_reducible repeat first | apply bn | apply bd | apply ba); refine blk_far ?_ NB159_166.out _; refine blk_far ?_ NB159_166.out _; refine blk_far ?_ NB159_166.out _; refine blk_far ?_ NB159_166.out _; (with_reducible repeat first | apply bn | apply bd | apply ba); exact BK159.out⟩, ⟨by (with_reducible repeat first | apply bn | apply bd | apply ba); refine blk_put (cs := #[.string ((rd_T44 l0_0 x4_1).f0), .string ((rd_T44 l0_0 x4_1).f1), .slice Ao27 y163.length co27, .slice none 0 0]) ?_ 3 _ rfl; refine blk_put (cs := #[.string ((rd_T44 l0_0 x4_1).f0), .string ((rd_T44 l0_0 x4_1).f1), .slice none 0 0, .slice none 0 0]) ?_ 2 _ rfl; refine blk_put (cs := #[.string ((rd_T44 l0_0 x4_1).f0), .string (⟨#[]⟩ : ByteArray), .slice none 0 0, .slice none 0 0]) ?_ 1 _ rfl; refine blk_put (cs := #[.string (⟨#[]⟩ : ByteArray), .string (⟨#[]⟩ : ByteArray), .slice none 0 0, .slice none 0 0]) ?_ 0 _ rfl; (with_reducible repeat first | apply bn | apply bd | apply ba); exact BK166.out⟩, ⟨by repeat with_reducible first | exact HB.out | apply below_alloc | apply pw_below_drewN | apply below_drew1 | refine below_set ?_ GE155.out | refine below_set ?_ GE156.out | refine below_set ?_ GE157.out | refine below_set ?_ GE159.out | refine below_set ?_ GE166.out⟩⟩
      case round =>
       clear H'
       try clear c1
       try clear p1
       try clear q1
       try clear p2
       try clear c10
       try clear c15
       try clear p15
       try clear q15
       try clear c16
       try clear c17
       try clear hcz18_0
       try clear hcz18_1
       try clear hcz18_2
       try clear hcz18_3
       try clear hfz18_0
       try clear hfz18_1
       try clear hfz18_2
       try clear hfz18_3
       try clear p158
       try clear q158
       obtain ⟨x7_2, x167003_2, u167003, rfl, HA, HK2, HO_158000, HO_167002, HO_167003, BK155, BK156, BK157, BK159, BK166, HB⟩ := hrel
       cases gk with
       | zero => exact absurd HA.out (by simp [dataflowref10_Of.l1])
       | succ k2 =>
        have H := HA.out
        clear HA
        simp only [dataflowref10_Of.l1] at H
        by_cases c32 : x7_2 < (((rd_T44 l0_0 x4_1).f3).length : Int)
        ·rw [if_pos c32] at H
         have c32b0 : decide (x7_2 < (((rd_T44 l0_0 x4_1).f3).length : Int)) = true := decide_eq_true c32
         clear c32
         by_cases c33 : 0 ≤ x7_2
         ·rw [if_pos c33] at H
          have c33b0 : decide (0 ≤ x7_2) = true := decide_eq_true c33
          clear c33
          have H' := Aside0.mk H
          clear H
          have hnb34 := NB159_155.out
          have hnc34 := NB155_159.out
          have hnb35 := NB159_156.out
          have hnc35 := NB156_159.out
          have hnb36 := NB159_157.out
          have hnc36 := NB157_159.out
          have hnb37 := NB159_166.out
          have hnc37 := NB166_159.out
          have hcz38_0 : wr.cell? ⟨gb159, 0, none⟩ = some (.string ((rd_T44 l0_0 x4_1).f0)) := (blk_cell BK159.out 0).trans rfl
          have hcz38_1 : wr.cell? ⟨gb159, 1, none⟩ = some (.string ((rd_T44 l0_0 x4_1).f1)) := (blk_cell BK159.out 1).trans rfl
          have hcz38_2 : wr.cell? ⟨gb159, 2, none⟩ = some (.slice A158_2 ((rd_T44 l0_0 x4_1).f2).length c158_2) := (blk_cell BK159.out 2).trans rfl
          have hcz38_3 : wr.cell? ⟨gb159, 3, none⟩ = some (.slice A158_3 ((rd_T44 l0_0 x4_1).f3).length c158_3) := (blk_cell BK159.out 3).trans rfl
          have hfz38_0 := blk_frozen BK159.out 0
          have hfz38_1 := blk_frozen BK159.out 1
          have hfz38_2 := blk_frozen BK159.out 2
          have hfz38_3 := blk_frozen BK159.out 3
          have p170 : 0 ≤ (x7_2 : Int) := of_decide_eq_true (by first | (with_reducible assumption) | assumption)
          have q170 : x7_2 < (((rd_T44 l0_0 x4_1).f3).length : Int) := of_decide_eq_true (by first | (with_reducible assumption) | assumption)
          obtain ⟨ad170, A170_2, c170_2, A170_4, c170_4, e170, hx170_0, hx170_1, hx170_2, hx170_3, hx170_4, hl170_2, hi170_2, hl170_4, hi170_4⟩ := at_T48 HR158_3.out x7_2 p170 q170
          cases e170
          replace hx170_0 := (HB.out.cell (World.block_lt_of_cell? w _ hx170_0)).trans hx170_0
          replace hx170_1 := (HB.out.cell (World.block_lt_of_cell? w _ hx170_1)).trans hx170_1
          replace hx170_2 := (HB.out.cell (World.block_lt_of_cell? w _ hx170_2)).trans hx170_2
          replace hx170_3 := (HB.out.cell (World.block_lt_of_cell? w _ hx170_3)).trans hx170_3
          replace hx170_4 := (HB.out.cell (World.block_lt_of_cell? w _ hx170_4)).trans hx170_4
          have HR170_2 := Aside0.mk hi170_2
          have HC170_2 := Aside0.mk hl170_2
          clear hi170_2 hl170_2
          have HR170_4 := Aside0.mk hi170_4
          have HC170_4 := Aside0.mk hl170_4
          clear hi170_4 hl170_4
          replace p170 := eq_true p170
          replace q170 := eq_true q170
          go_wp2_with (first | ((with_reducible refine gate_dst (N := 8) rfl ?_); refine box_event ?hg (N := 8) ?hd (cs := #[.string (⟨#[]⟩ : ByteArray), .bool false, .slice none 0 0, .string (⟨#[]⟩ : ByteArray), .slice none 0 0]) (t := 48) ?hr ?_; (case hd => rfl); (case hg => rfl); (case hr => first | (go_simp; done) | (go_simp; rfl)); intro gb171 hg w39 hbox hb; have n0_ := Aside0.mk (Kd.R_below (by (with_reducible repeat first | apply Kd.R_alloc | apply Kd.R_drewN | apply Kd.R_drew); exact HO_158000.out) hb); have n1_ := Aside0.mk (Kd.R_below (by (with_reducible repeat first | apply Kd.R_alloc | apply Kd.R_drewN | apply Kd.R_drew); exact HO_167002.out) hb); have n2_ := Aside0.mk (Kd.S_below (by (with_reducible repeat first | apply Kd.S_alloc | apply Kd.S_drewN | apply Kd.S_drew); exact HO_167003.out) hb); have n3_ := Aside0.mk (blk_below (g := gb155) (o := .cells #[.slice (some ad158) l0_0.length c0_0] 24 (0, 0)) (by (with_reducible repeat first | apply bn | apply bd | apply ba); exact BK155.out) hb); have n4_ := Aside0.mk (blk_below (g := gb156) (o := .cells #[.slice none 0 0] 28 (0, 0)) (by (with_reducible repeat first | apply bn | apply bd | apply ba); exact BK156.out) hb); have n5_ := Aside0.mk (blk_below (g := gb157) (o := .cells #[u158000] 28 (0, 0)) (by (with_reducible repeat first | apply bn | apply bd | apply ba); exact BK157.out) hb); have n6_ := Aside0.mk (blk_below (g := gb159) (o := .cells #[.string ((rd_T44 l0_0 x4_1).f0), .string ((rd_T44 l0_0 x4_1).f1), .slice A158_2 ((rd_T44 l0_0 x4_1).f2).length c158_2, .slice (some ad170) ((rd_T44 l0_0 x4_1).f3).length c158_3] 44 (0, 0)) (by (with_reducible repeat first | apply bn | apply bd | apply ba); exact BK159.out) hb); have n7_ := Aside0.mk (blk_below (g := gb166) (o := .cells #[.string ((rd_T44 l0_0 x4_1).f0), .string ((rd_T44 l0_0 x4_1).f1), .slice Ao27 y163.length co27, u167003] 35 (0, 0)) (by (with_reducible repeat first | apply bn | apply bd | apply ba); exact BK166.out) hb); have n8_ := Aside0.mk (below_step (by repeat with_reducible first | exact HB.out | apply below_alloc | apply pw_below_drewN | apply below_drew1 | refine below_set ?_ GE155.out | refine below_set ?_ GE156.out | refine below_set ?_ GE157.out | refine below_set ?_ GE159.out | refine below_set ?_ GE166.out) hb); have n9_ := Aside0.mk (hbox); have n10_ := Aside0.mk ((by rw [hg]; exact (below_size (by repeat with_reducible first | exact HB.out | apply below_alloc | apply pw_below_drewN | apply below_drew1 | refine below_set ?_ GE155.out | refine below_set ?_ GE156.out | refine below_set ?_ GE157.out | refine below_set ?_ GE159.out | refine below_set ?_ GE166.out)) : w.heap.size ≤ gb171)); have n11_ := Aside0.mk ((by rw [hg]; exact (below_size (by repeat with_reducible first | exact HB.out | apply below_alloc | apply pw_below_drewN | apply below_drew1 | refine below_set ?_ GE155.out | refine below_set ?_ GE156.out | refine below_set ?_ GE157.out | refine below_set ?_ GE159.out | refine below_set ?_ GE166.out)) : w.heap.size ≤ gb171)); have n12_ := Aside0.mk ((by rw [hg]; exact Nat.ne_of_lt (blk_lt (g := gb155) (o := .cells #[.slice (some ad158) l0_0.length c0_0] 24 (0, 0)) (by (with_reducible repeat first | apply bn | apply bd | apply ba); exact BK155.out)) : gb155 ≠ gb171)); have n13_ := Aside0.mk ((by rw [hg]; exact Nat.ne_of_gt (blk_lt (g := gb155) (o := .cells #[.slice (some ad158) l0_0.length c0_0] 24 (0, 0)) (by (with_reducible repeat first | apply bn | apply bd | apply ba); exact BK155.out)) : gb171 ≠ gb155)); have n14_ := Aside0.mk ((by rw [hg]; exact Nat.ne_of_lt (blk_lt (g := gb156) (o := .cells #[.slice none 0 0] 28 (0, 0)) (by (with_reducible repeat first | apply bn | apply bd | apply ba); exact BK156.out)) : gb156 ≠ gb171)); have n15_ := Aside0.mk ((by rw [hg]; exact Nat.ne_of_gt (blk_lt (g := gb156) (o := .cells #[.slice none 0 0] 28 (0, 0)) (by (with_reducible repeat first | apply bn | apply bd | apply ba); exact BK156.out)) : gb171 ≠ gb156)); have n16_ := Aside0.mk ((by rw [hg]; exact Nat.ne_of_lt (blk_lt (g := gb157) (o := .cells #[u158000] 28 (0, 0)) (by (with_reducible repeat first | apply bn | apply bd | apply ba); exact BK157.out)) : gb157 ≠ gb171)); have n17_ := Aside0.mk ((by rw [hg]; exact Nat.ne_of_gt (blk_lt (g := gb157) (o := .cells #[u158000] 28 (0, 0)) (by (with_reducible repeat first | apply bn | apply bd | apply ba); exact BK157.out)) : gb171 ≠ gb157)); have n18_ := Aside0.mk ((by rw [hg]; exact Nat.ne_of_lt (blk_lt (g := gb159) (o := .cells #[.string ((rd_T44 l0_0 x4_1).f0), .string ((rd_T44 l0_0 x4_1).f1), .slice A158_2 ((rd_T44 l0_0 x4_1).f2).length c158_2, .slice (some ad170) ((rd_T44 l0_0 x4_1).f3).length c158_3] 44 (0, 0)) (by (with_reducible repeat first | apply bn | apply bd | apply ba); exact BK159.out)) : gb159 ≠ gb171)); have n19_ := Aside0.mk ((by rw [hg]; exact Nat.ne_of_gt (blk_lt (g := gb159) (o := .cells #[.string ((rd_T44 l0_0 x4_1).f0), .string ((rd_T44 l0_0 x4_1).f1), .slice A158_2 ((rd_T44 l0_0 x4_1).f2).length c158_2, .slice (some ad170) ((rd_T44 l0_0 x4_1).f3).length c158_3] 44 (0, 0)) (by (with_reducible repeat first | apply bn | apply bd | apply ba); exact BK159.out)) : gb171 ≠ gb159)); have n20_ := Aside0.mk ((by rw [hg]; exact Nat.ne_of_lt (blk_lt (g := gb166) (o := .cells #[.string ((rd_T44 l0_0 x4_1).f0), .string ((rd_T44 l0_0 x4_1).f1), .slice Ao27 y163.length co27, u167003] 35 (0, 0)) (by (with_reducible repeat first | apply bn | apply bd | apply ba); exact BK166.out)) : gb166 ≠ gb171)); have n21_ := Aside0.mk ((by rw [hg]; exact Nat.ne_of_gt (blk_lt (g := gb166) (o := .cells #[.string ((rd_T44 l0_0 x4_1).f0), .string ((rd_T44 l0_0 x4_1).f1), .slice Ao27 y163.length co27, u167003] 35 (0, 0)) (by (with_reducible repeat first | apply bn | apply bd | apply ba); exact BK166.out)) : gb171 ≠ gb166)); clear HO_158000; clear HO_167002; clear HO_167003; clear BK155; clear BK156; clear BK157; clear BK159; clear BK166; clear HB; have HO_158000 := n0_; have HO_167002 := n1_; have HO_167003 := n2_; have BK155 := n3_; have BK156 := n4_; have BK157 := n5_; have BK159 := n6_; have BK166 := n7_; have HB := n8_; have BK171 := n9_; have GW171 := n10_; have GE171 := n11_; have NB155_171 := n12_; have NB171_155 := n13_; have NB156_171 := n14_; have NB171_156 := n15_; have NB157_171 := n16_; have NB171_157 := n17_; have NB159_171 := n18_; have NB171_159 := n19_; have NB166_171 := n20_; have NB171_166 := n21_; clear n0_ n1_ n2_ n3_ n4_ n5_ n6_ n7_ n8_ n9_ n10_ n11_ n12_ n13_ n14_ n15_ n16_ n17_ n18_ n19_ n20_ n21_; clear hb hbox hg; have hnb40 := NB171_155.out; have hnc40 := NB155_171.out; have hnb41 := NB171_156.out; have hnc41 := NB156_171.out; have hnb42 := NB171_157.out; have hnc42 := NB157_171.out; have hnb43 := NB171_159.out; have hnc43 := NB159_171.out; have hnb44 := NB171_166.out; have hnc44 := NB166_171.out; have hcz45_0 : w39.cell? ⟨gb171, 0, none⟩ = some (.string (⟨#[]⟩ : ByteArray)) := (blk_cell BK171.out 0).trans rfl; have hcz45_1 : w39.cell? ⟨gb171, 1, none⟩ = some (.bool false) := (blk_cell BK171.out 1).trans rfl; have hcz45_2 : w39.cell? ⟨gb171, 2, none⟩ = some (.slice none 0 0) := (blk_cell BK171.out 2).trans rfl; have hcz45_3 : w39.cell? ⟨gb171, 3, none⟩ = some (.string (⟨#[]⟩ : ByteArray)) := (blk_cell BK171.out 3).trans rfl; have hcz45_4 : w39.cell? ⟨gb171, 4, none⟩ = some (.slice none 0 0) := (blk_cell BK171.out 4).trans rfl; have hfz45_0 := blk_frozen BK171.out 0; have hfz45_1 := blk_frozen BK171.out 1; have hfz45_2 := blk_frozen BK171.out 2; have hfz45_3 := blk_frozen BK171.out 3; have hfz45_4 := blk_frozen BK171.out 4) | ((with_reducible refine gate_dst (N := 9) rfl ?_); refine box_event ?hg (N := 9) ?hd (cs := #[.string (⟨#[]⟩ : ByteArray), .bool false, .slice none 0 0, .string (⟨#[]⟩ : ByteArray)]) (t := 40) ?hr ?_; (case hd => rfl); (case hg => rfl); (case hr => first | (go_simp; done) | (go_simp; rfl)); intro gb172 hg w46 hbox hb; have n0_ := Aside0.mk (Kd.R_below (Kd.R_elderB (by (with_reducible repeat first | apply Kd.R_alloc | apply Kd.R_drewN | apply Kd.R_drew); exact (Kd.R_mono (Kd.R_far (p := ⟨gb171, 4, none⟩) (Kd.R_far (p := ⟨gb171, 3, none⟩) (Kd.R_far (p := ⟨gb171, 2, none⟩) (Kd.R_far (p := ⟨gb171, 1, none⟩) (Kd.R_far (p := ⟨gb171, 0, none⟩) (Kd.R_types HO_158000.out BK171.out (by decide)) (fun _ hk => hk.2) (.string ((rd_T48 ((rd_T44 l0_0 x4_1).f3) x7_2).f0))) (fun _ hk => hk.2) (.bool ((rd_T48 ((rd_T44 l0_0 x4_1).f3) x7_2).f1))) (fun _ hk => hk.2) (.slice A170_2 ((rd_T48 ((rd_T44 l0_0 x4_1).f3) x7_2).f2).length c170_2)) (fun _ hk => hk.2) (.string ((rd_T48 ((rd_T44 l0_0 x4_1).f3) x7_2).f3))) (fun _ hk => hk.2) (.slice A170_4 ((rd_T48 ((rd_T44 l0_0 x4_1).f3) x7_2).f4).length c170_4)) (fun _ h_ => h_.1))) gb172 (Nat.le_of_eq hg.symm)) hb); have n1_ := Aside0.mk (Kd.R_below (by (with_reducible repeat first | apply Kd.R_alloc | apply Kd.R_drewN | apply Kd.R_drew); exact (Kd.R_mono (Kd.R_far (p := ⟨gb171, 4, none⟩) (Kd.R_far (p := ⟨gb171, 3, none⟩) (Kd.R_far (p := ⟨gb171, 2, none⟩) (Kd.R_far (p := ⟨gb171, 1, none⟩) (Kd.R_far (p := ⟨gb171, 0, none⟩) (Kd.R_types HO_167002.out BK171.out (by decide)) (fun _ hk => hk.2) (.string ((rd_T48 ((rd_T44 l0_0 x4_1).f3) x7_2).f0))) (fun _ hk => hk.2) (.bool ((rd_T48 ((rd_T44 l0_0 x4_1).f3) x7_2).f1))) (fun _ hk => hk.2) (.slice A170_2 ((rd_T48 ((rd_T44 l0_0 x4_1).f3) x7_2).f2).length c170_2)) (fun _ hk => hk.2) (.string ((rd_T48 ((rd_T44 l0_0 x4_1).f3) x7_2).f3))) (fun _ hk => hk.2) (.slice A170_4 ((rd_T48 ((rd_T44 l0_0 x4_1).f3) x7_2).f4).length c170_4)) (fun _ h_ => h_.1))) hb); have n2_ := Aside0.mk (Kd.S_below (Kd.S_elderB (by (with_reducible repeat first | apply Kd.S_alloc | apply Kd.S_drewN | apply Kd.S_drew); exact (Kd.S_mono (Kd.S_far (p := ⟨gb171, 4, none⟩) (Kd.S_far (p := ⟨gb171, 3, none⟩) (Kd.S_far (p := ⟨gb171, 2, none⟩) (Kd.S_far (p := ⟨gb171, 1, none⟩) (Kd.S_far (p := ⟨gb171, 0, none⟩) (Kd.S_types HO_167003.out BK171.out (by decide)) (fun _ hk => hk.2) (.string ((rd_T48 ((rd_T44 l0_0 x4_1).f3) x7_2).f0))) (fun _ hk => hk.2) (.bool ((rd_T48 ((rd_T44 l0_0 x4_1).f3) x7_2).f1))) (fun _ hk => hk.2) (.slice A170_2 ((rd_T48 ((rd_T44 l0_0 x4_1).f3) x7_2).f2).length c170_2)) (fun _ hk => hk.2) (.string ((rd_T48 ((rd_T44 l0_0 x4_1).f3) x7_2).f3))) (fun _ hk => hk.2) (.slice A170_4 ((rd_T48 ((rd_T44 l0_0 x4_1).f3) x7_2).f4).length c170_4)) (fun _ h_ => h_.1))) gb172 (Nat.le_of_eq hg.symm)) hb); have n3_ := Aside0.mk (blk_below (g := gb155) (o := .cells #[.slice (some ad158) l0_0.length c0_0] 24 (0, 0)) (by (with_reducible repeat first | apply bn | apply bd | apply ba); refine blk_far ?_ NB155_171.out _; refine blk_far ?_ NB155_171.out _; refine blk_far ?_ NB155_171.out _; refine blk_far ?_ NB155_171.out _; refine blk_far ?_ NB155_171.out _; (with_reducible repeat first | apply bn | apply bd | apply ba); exact BK155.out) hb); have n4_ := Aside0.mk (blk_below (g := gb156) (o := .cells #[.slice none 0 0] 28 (0, 0)) (by (with_reducible repeat first | apply bn | apply bd | apply ba); refine blk_far ?_ NB156_171.out _; refine blk_far ?_ NB156_171.out _; refine blk_far ?_ NB156_171.out _; refine blk_far ?_ NB156_171.out _; refine blk_far ?_ NB156_171.out _; (with_reducible repeat first | apply bn | apply bd | apply ba); exact BK156.out) hb); have n5_ := Aside0.mk (blk_below (g := gb157) (o := .cells #[u158000] 28 (0, 0)) (by (with_reducible repeat first | apply bn | apply bd | apply ba); refine blk_far ?_ NB157_171.out _; refine blk_far ?_ NB157_171.out _; refine blk_far ?_ NB157_171.out _; refine blk_far ?_ NB157_171.out _; refine blk_far ?_ NB157_171.out _; (with_reducible repeat first | apply bn | apply bd | apply ba); exact BK157.out) hb); have n6_ := Aside0.mk (blk_below (g := gb159) (o := .cells #[.string ((rd_T44 l0_0 x4_1).f0), .string ((rd_T44 l0_0 x4_1).f1), .slice A158_2 ((rd_T44 l0_0 x4_1).f2).length c158_2, .slice (some ad170) ((rd_T44 l0_0 x4_1).f3).length c158_3] 44 (0, 0)) (by (with_reducible repeat first | apply bn | apply bd | apply ba); refine blk_far ?_ NB159_171.out _; refine blk_far ?_ NB159_171.out _; refine blk_far ?_ NB159_171.out _; refine blk_far ?_ NB159_171.out _; refine blk_far ?_ NB159_171.out _; (with_reducible repeat first | apply bn | apply bd | apply ba); exact BK159.out) hb); have n7_ := Aside0.mk (blk_below (g := gb166) (o := .cells #[.string ((rd_T44 l0_0 x4_1).f0), .string ((rd_T44 l0_0 x4_1).f1), .slice Ao27 y163.length co27, u167003] 35 (0, 0)) (by (with_reducible repeat first | apply bn | apply bd | apply ba); refine blk_far ?_ NB166_171.out _; refine blk_far ?_ NB166_171.out _; refine blk_far ?_ NB166_171.out _; refine blk_far ?_ NB166_171.out _; refine blk_far ?_ NB166_171.out _; (with_reducible repeat first | apply bn | apply bd | apply ba); exact BK166.out) hb); have n8_ := Aside0.mk (blk_below (g := gb171) (o := .cells #[.string ((rd_T48 ((rd_T44 l0_0 x4_1).f3) x7_2).f0), .bool ((rd_T48 ((rd_T44 l0_0 x4_1).f3) x7_2).f1), .slice A170_2 ((rd_T48 ((rd_T44 l0_0 x4_1).f3) x7_2).f2).length c170_2, .string ((rd_T48 ((rd_T44 l0_0 x4_1).f3) x7_2).f3), .slice A170_4 ((rd_T48 ((rd_T44 l0_0 x4_1).f3) x7_2).f4).length c170_4] 48 (0, 0)) (by (with_reducible repeat first | apply bn | apply bd | apply ba); refine blk_put (cs := #[.string ((rd_T48 ((rd_T44 l0_0 x4_1).f3) x7_2).f0), .bool ((rd_T48 ((rd_T44 l0_0 x4_1).f3) x7_2).f1), .slice A170_2 ((rd_T48 ((rd_T44 l0_0 x4_1).f3) x7_2).f2).length c170_2, .string ((rd_T48 ((rd_T44 l0_0 x4_1).f3) x7_2).f3), .slice none 0 0]) ?_ 4 _ rfl; refine blk_put (cs := #[.string ((rd_T48 ((rd_T44 l0_0 x4_1).f3) x7_2).f0), .bool ((rd_T48 ((rd_T44 l0_0 x4_1).f3) x7_2).f1), .slice A170_2 ((rd_T48 ((rd_T44 l0_0 x4_1).f3) x7_2).f2).length c170_2, .string (⟨#[]⟩ : ByteArray), .slice none 0 0]) ?_ 3 _ rfl; refine blk_put (cs := #[.string ((rd_T48 ((rd_T44 l0_0 x4_1).f3) x7_2).f0), .bool ((rd_T48 ((rd_T44 l0_0 x4_1).f3) x7_2).f1), .slice none 0 0, .string (⟨#[]⟩ : ByteArray), .slice none 0 0]) ?_ 2 _ rfl; refine blk_put (cs := #[.string ((rd_T48 ((rd_T44 l0_0 x4_1).f3) x7_2).f0), .bool false, .slice none 0 0, .string (⟨#[]⟩ : ByteArray), .slice none 0 0]) ?_ 1 _ rfl; refine blk_put (cs := #[.string (⟨#[]⟩ : ByteArray), .bool false, .slice none 0 0, .string (⟨#[]⟩ : ByteArray), .slice none 0 0]) ?_ 0 _ rfl; (with_reducible repeat first | apply bn | apply bd | apply ba); exact BK171.out) hb); have n9_ := Aside0.mk (below_step (by repeat with_reducible first | exact HB.out | apply below_alloc | apply pw_below_drewN | apply below_drew1 | refine below_set ?_ GE155.out | refine below_set ?_ GE156.out | refine below_set ?_ GE157.out | refine below_set ?_ GE159.out | refine below_set ?_ GE166.out | refine below_set ?_ GE171.out) hb); have n10_ := Aside0.mk (hbox); have n11_ := Aside0.mk ((by rw [hg]; exact (below_size (by repeat with_reducible first | exact HB.out | apply below_alloc | apply pw_below_drewN | apply below_drew1 | refine below_set ?_ GE155.out | refine below_set ?_ GE156.out | refine below_set ?_ GE157.out | refine below_set ?_ GE159.out | refine below_set ?_ GE166.out | refine below_set ?_ GE171.out)) : w.heap.size ≤ gb172)); have n12_ := Aside0.mk ((by rw [hg]; exact (below_size (by repeat with_reducible first | exact HB.out | apply below_alloc | apply pw_below_drewN | apply below_drew1 | refine below_set ?_ GE155.out | refine below_set ?_ GE156.out | refine below_set ?_ GE157.out | refine below_set ?_ GE159.out | refine below_set ?_ GE166.out | refine below_set ?_ GE171.out)) : w.heap.size ≤ gb172)); have n13_ := Aside0.mk ((by rw [hg]; exact Nat.ne_of_lt (blk_lt (g := gb155) (o := .cells #[.slice (some ad158) l0_0.length c0_0] 24 (0, 0)) (by (with_reducible repeat first | apply bn | apply bd | apply ba); refine blk_far ?_ NB155_171.out _; refine blk_far ?_ NB155_171.out _; refine blk_far ?_ NB155_171.out _; refine blk_far ?_ NB155_171.out _; refine blk_far ?_ NB155_171.out _; (with_reducible repeat first | apply bn | apply bd | apply ba); exact BK155.out)) : gb155 ≠ gb172)); have n14_ := Aside0.mk ((by rw [hg]; exact Nat.ne_of_gt (blk_lt (g := gb155) (o := .cells #[.slice (some ad158) l0_0.length c0_0] 24 (0, 0)) (by (with_reducible repeat first | apply bn | apply bd | apply ba); refine blk_far ?_ NB155_171.out _; refine blk_far ?_ NB155_171.out _; refine blk_far ?_ NB155_171.out _; refine blk_far ?_ NB155_171.out _; refine blk_far ?_ NB155_171.out _; (with_reducible repeat first | apply bn | apply bd | apply ba); exact BK155.out)) : gb172 ≠ gb155)); have n15_ := Aside0.mk ((by rw [hg]; exact Nat.ne_of_lt (blk_lt (g := gb156) (o := .cells #[.slice none 0 0] 28 (0, 0)) (by (with_reducible repeat first | apply bn | apply bd | apply ba); refine blk_far ?_ NB156_171.out _; refine blk_far ?_ NB156_171.out _; refine blk_far ?_ NB156_171.out _; refine blk_far ?_ NB156_171.out _; refine blk_far ?_ NB156_171.out _; (with_reducible repeat first | apply bn | apply bd | apply ba); exact BK156.out)) : gb156 ≠ gb172)); have n16_ := Aside0.mk ((by rw [hg]; exact Nat.ne_of_gt (blk_lt (g := gb156) (o := .cells #[.slice none 0 0] 28 (0, 0)) (by (with_reducible repeat first | apply bn | apply bd | apply ba); refine blk_far ?_ NB156_171.out _; refine blk_far ?_ NB156_171.out _; refine blk_far ?_ NB156_171.out _; refine blk_far ?_ NB156_171.out _; refine blk_far ?_ NB156_171.out _; (with_reducible repeat first | apply bn | apply bd | apply ba); exact BK156.out)) : gb172 ≠ gb156)); have n17_ := Aside0.mk ((by rw [hg]; exact Nat.ne_of_lt (blk_lt (g := gb157) (o := .cells #[u158000] 28 (0, 0)) (by (with_reducible repeat first | apply bn | apply bd | apply ba); refine blk_far ?_ NB157_171.out _; refine blk_far ?_ NB157_171.out _; refine blk_far ?_ NB157_171.out _; refine blk_far ?_ NB157_171.out _; refine blk_far ?_ NB157_171.out _; (with_reducible repeat first | apply bn | apply bd | apply ba); exact BK157.out)) : gb157 ≠ gb172)); have n18_ := Aside0.mk ((by rw [hg]; exact Nat.ne_of_gt (blk_lt (g := gb157) (o := .cells #[u158000] 28 (0, 0)) (by (with_reducible repeat first | apply bn | apply bd | apply ba); refine blk_far ?_ NB157_171.out _; refine blk_far ?_ NB157_171.out _; refine blk_far ?_ NB157_171.out _; refine blk_far ?_ NB157_171.out _; refine blk_far ?_ NB157_171.out _; (with_reducible repeat first | apply bn | apply bd | apply ba); exact BK157.out)) : gb172 ≠ gb157)); have n19_ := Aside0.mk ((by rw [hg]; exact Nat.ne_of_lt (blk_lt (g := gb159) (o := .cells #[.string ((rd_T44 l0_0 x4_1).f0), .string ((rd_T44 l0_0 x4_1).f1), .slice A158_2 ((rd_T44 l0_0 x4_1).f2).length c158_2, .slice (some ad170) ((rd_T44 l0_0 x4_1).f3).length c158_3] 44 (0, 0)) (by (with_reducible repeat first | apply bn | apply bd | apply ba); refine blk_far ?_ NB159_171.out _; refine blk_far ?_ NB159_171.out _; refine blk_far ?_ NB159_171.out _; refine blk_far ?_ NB159_171.out _; refine blk_far ?_ NB159_171.out _; (with_reducible repeat first | apply bn | apply bd | apply ba); exact BK159.out)) : gb159 ≠ gb172)); have n20_ := Aside0.mk ((by rw [hg]; exact Nat.ne_of_gt (blk_lt (g := gb159) (o := .cells #[.string ((rd_T44 l0_0 x4_1).f0), .string ((rd_T44 l0_0 x4_1).f1), .slice A158_2 ((rd_T44 l0_0 x4_1).f2).length c158_2, .slice (some ad170) ((rd_T44 l0_0 x4_1).f3).length c158_3] 44 (0, 0)) (by (with_reducible repeat first | apply bn | apply bd | apply ba); refine blk_far ?_ NB159_171.out _; refine blk_far ?_ NB159_171.out _; refine blk_far ?_ NB159_171.out _; refine blk_far ?_ NB159_171.out _; refine blk_far ?_ NB159_171.out _; (with_reducible repeat first | apply bn | apply bd | apply ba); exact BK159.out)) : gb172 ≠ gb159)); have n21_ := Aside0.mk ((by rw [hg]; exact Nat.ne_of_lt (blk_lt (g := gb166) (o := .cells #[.string ((rd_T44 l0_0 x4_1).f0), .string ((rd_T44 l0_0 x4_1).f1), .slice Ao27 y163.length co27, u167003] 35 (0, 0)) (by (with_reducible repeat first | apply bn | apply bd | apply ba); refine blk_far ?_ NB166_171.out _; refine blk_far ?_ NB166_171.out _; refine blk_far ?_ NB166_171.out _; refine blk_far ?_ NB166_171.out _; refine blk_far ?_ NB166_171.out _; (with_reducible repeat first | apply bn | apply bd | apply ba); exact BK166.out)) : gb166 ≠ gb172)); have n22_ := Aside0.mk ((by rw [hg]; exact Nat.ne_of_gt (blk_lt (g := gb166) (o := .cells #[.string ((rd_T44 l0_0 x4_1).f0), .string ((rd_T44 l0_0 x4_1).f1), .slice Ao27 y163.length co27, u167003] 35 (0, 0)) (by (with_reducible repeat first | apply bn | apply bd | apply ba); refine blk_far ?_ NB166_171.out _; refine blk_far ?_ NB166_171.out _; refine blk_far ?_ NB166_171.out _; refine blk_far ?_ NB166_171.out _; refine blk_far ?_ NB166_171.out _; (with_reducible repeat first | apply bn | apply bd | apply ba); exact BK166.out)) : gb172 ≠ gb166)); have n23_ := Aside0.mk ((by rw [hg]; exact Nat.ne_of_lt (blk_lt (g := gb171) (o := .cells #[.string ((rd_T48 ((rd_T44 l0_0 x4_1).f3) x7_2).f0), .bool ((rd_T48 ((rd_T44 l0_0 x4_1).f3) x7_2).f1), .slice A170_2 ((rd_T48 ((rd_T44 l0_0 x4_1).f3) x7_2).f2).length c170_2, .string ((rd_T48 ((rd_T44 l0_0 x4_1).f3) x7_2).f3), .slice A170_4 ((rd_T48 ((rd_T44 l0_0 x4_1).f3) x7_2).f4).length c170_4] 48 (0, 0)) (by (with_reducible repeat first | apply bn | apply bd | apply ba); refine blk_put (cs := #[.string ((rd_T48 ((rd_T44 l0_0 x4_1).f3) x7_2).f0), .bool ((rd_T48 ((rd_T44 l0_0 x4_1).f3) x7_2).f1), .slice A170_2 ((rd_T48 ((rd_T44 l0_0 x4_1).f3) x7_2).f2).length c170_2, .string ((rd_T48 ((rd_T44 l0_0 x4_1).f3) x7_2).f3), .slice none 0 0]) ?_ 4 _ rfl; refine blk_put (cs := #[.string ((rd_T48 ((rd_T44 l0_0 x4_1).f3) x7_2).f0), .bool ((rd_T48 ((rd_T44 l0_0 x4_1).f3) x7_2).f1), .slice A170_2 ((rd_T48 ((rd_T44 l0_0 x4_1).f3) x7_2).f2).length c170_2, .string (⟨#[]⟩ : ByteArray), .slice none 0 0]) ?_ 3 _ rfl; refine blk_put (cs := #[.string ((rd_T48 ((rd_T44 l0_0 x4_1).f3) x7_2).f0), .bool ((rd_T48 ((rd_T44 l0_0 x4_1).f3) x7_2).f1), .slice none 0 0, .string (⟨#[]⟩ : ByteArray), .slice none 0 0]) ?_ 2 _ rfl; refine blk_put (cs := #[.string ((rd_T48 ((rd_T44 l0_0 x4_1).f3) x7_2).f0), .bool false, .slice none 0 0, .string (⟨#[]⟩ : ByteArray), .slice none 0 0]) ?_ 1 _ rfl; refine blk_put (cs := #[.string (⟨#[]⟩ : ByteArray), .bool false, .slice none 0 0, .string (⟨#[]⟩ : ByteArray), .slice none 0 0]) ?_ 0 _ rfl; (with_reducible repeat first | apply bn | apply bd | apply ba); exact BK171.out)) : gb171 ≠ gb172)); have n24_ := Aside0.mk ((by rw [hg]; exact Nat.ne_of_gt (blk_lt (g := gb171) (o := .cells #[.string ((rd_T48 ((rd_T44 l0_0 x4_1).f3) x7_2).f0), .bool ((rd_T48 ((rd_T44 l0_0 x4_1).f3) x7_2).f1), .slice A170_2 ((rd_T48 ((rd_T44 l0_0 x4_1).f3) x7_2).f2).length c170_2, .string ((rd_T48 ((rd_T44 l0_0 x4_1).f3) x7_2).f3), .slice A170_4 ((rd_T48 ((rd_T44 l0_0 x4_1).f3) x7_2).f4).length c170_4] 48 (0, 0)) (by (with_reducible repeat first | apply bn | apply bd | apply ba); refine blk_put (cs := #[.string ((rd_T48 ((rd_T44 l0_0 x4_1).f3) x7_2).f0), .bool ((rd_T48 ((rd_T44 l0_0 x4_1).f3) x7_2).f1), .slice A170_2 ((rd_T48 ((rd_T44 l0_0 x4_1).f3) x7_2).f2).length c170_2, .string ((rd_T48 ((rd_T44 l0_0 x4_1).f3) x7_2).f3), .slice none 0 0]) ?_ 4 _ rfl; refine blk_put (cs := #[.string ((rd_T48 ((rd_T44 l0_0 x4_1).f3) x7_2).f0), .bool ((rd_T48 ((rd_T44 l0_0 x4_1).f3) x7_2).f1), .slice A170_2 ((rd_T48 ((rd_T44 l0_0 x4_1).f3) x7_2).f2).length c170_2, .string (⟨#[]⟩ : ByteArray), .slice none 0 0]) ?_ 3 _ rfl; refine blk_put (cs := #[.string ((rd_T48 ((rd_T44 l0_0 x4_1).f3) x7_2).f0), .bool ((rd_T48 ((rd_T44 l0_0 x4_1).f3) x7_2).f1), .slice none 0 0, .string (⟨#[]⟩ : ByteArray), .slice none 0 0]) ?_ 2 _ rfl; refine blk_put (cs := #[.string ((rd_T48 ((rd_T44 l0_0 x4_1).f3) x7_2).f0), .bool false, .slice none 0 0, .string (⟨#[]⟩ : ByteArray), .slice none 0 0]) ?_ 1 _ rfl; refine blk_put (cs := #[.string (⟨#[]⟩ : ByteArray), .bool false, .slice none 0 0, .string (⟨#[]⟩ : ByteArray), .slice none 0 0]) ?_ 0 _ rfl; (with_reducible repeat first | apply bn | apply bd | apply ba); exact BK171.out)) : gb172 ≠ gb171)); clear HO_158000; clear HO_167002; clear HO_167003; clear BK155; clear BK156; clear BK157; clear BK159; clear BK166; clear BK171; clear HB; have HO_158000 := n0_; have HO_167002 := n1_; have HO_167003 := n2_; have BK155 := n3_; have BK156 := n4_; have BK157 := n5_; have BK159 := n6_; have BK166 := n7_; have BK171 := n8_; have HB := n9_; have BK172 := n10_; have GW172 := n11_; have GE172 := n12_; have NB155_172 := n13_; have NB172_155 := n14_; have NB156_172 := n15_; have NB172_156 := n16_; have NB157_172 := n17_; have NB172_157 := n18_; have NB159_172 := n19_; have NB172_159 := n20_; have NB166_172 := n21_; have NB172_166 := n22_; have NB171_172 := n23_; have NB172_171 := n24_; clear n0_ n1_ n2_ n3_ n4_ n5_ n6_ n7_ n8_ n9_ n10_ n11_ n12_ n13_ n14_ n15_ n16_ n17_ n18_ n19_ n20_ n21_ n22_ n23_ n24_; clear hb hbox hg; have hnb47 := NB172_155.out; have hnc47 := NB155_172.out; have hnb48 := NB172_156.out; have hnc48 := NB156_172.out; have hnb49 := NB172_157.out; have hnc49 := NB157_172.out; have hnb50 := NB172_159.out; have hnc50 := NB159_172.out; have hnb51 := NB172_166.out; have hnc51 := NB166_172.out; have hnb52 := NB172_171.out; have hnc52 := NB171_172.out; have hcz53_0 : w46.cell? ⟨gb172, 0, none⟩ = some (.string (⟨#[]⟩ : ByteArray)) := (blk_cell BK172.out 0).trans rfl; have hcz53_1 : w46.cell? ⟨gb172, 1, none⟩ = some (.bool false) := (blk_cell BK172.out 1).trans rfl; have hcz53_2 : w46.cell? ⟨gb172, 2, none⟩ = some (.slice none 0 0) := (blk_cell BK172.out 2).trans rfl; have hcz53_3 : w46.cell? ⟨gb172, 3, none⟩ = some (.string (⟨#[]⟩ : ByteArray)) := (blk_cell BK172.out 3).trans rfl; have hfz53_0 := blk_frozen BK172.out 0; have hfz53_1 := blk_frozen BK172.out 1; have hfz53_2 := blk_frozen BK172.out 2; have hfz53_3 := blk_frozen BK172.out 3))
          go_loopg [10] k2 (fun kq v10 w' => ∃ (x10_3 : Int) (x173002_3 : List ByteArray) (u173002 : Value), v10 = .int .i64 x10_3 ∧ Aside0 (dataflowref10_Of.l2 kq x4_1 x7_2 x10_3 l0_0 x158000_1 ((rd_T44 l0_0 x4_1).f0) ((rd_T44 l0_0 x4_1).f1) ((rd_T44 l0_0 x4_1).f2) ((rd_T44 l0_0 x4_1).f3) ((rd_T44 l0_0 x4_1).f0) ((rd_T44 l0_0 x4_1).f1) y163 x167003_2 ((rd_T48 ((rd_T44 l0_0 x4_1).f3) x7_2).f0) ((rd_T48 ((rd_T44 l0_0 x4_1).f3) x7_2).f1) ((rd_T48 ((rd_T44 l0_0 x4_1).f3) x7_2).f2) ((rd_T48 ((rd_T44 l0_0 x4_1).f3) x7_2).f3) ((rd_T48 ((rd_T44 l0_0 x4_1).f3) x7_2).f4) ((rd_T48 ((rd_T44 l0_0 x4_1).f3) x7_2).f0) ((rd_T48 ((rd_T44 l0_0 x4_1).f3) x7_2).f1) x173002_3 ((rd_T48 ((rd_T44 l0_0 x4_1).f3) x7_2).f3) = some r) ∧ Aside0 (kq ≤ k2) ∧ Aside0 (Kd.R k35 35 w' w.heap.size (fun k_ => some k_ ≠ ((.slice Ao27 y163.length co27) : Value).ownBlock ∧ some k_ ≠ (u167003 : Value).ownBlock ∧ some k_ ≠ (u173002 : Value).ownBlock ∧ k_ ≠ gb166 ∧ k_ ≠ gb172) u158000 x158000_1) ∧ Aside0 (Kd.R k37 37 w' w.heap.size (fun _ => True) (.slice Ao27 y163.length co27) y163) ∧ Aside0 (Kd.S k40 40 w' w.heap.size (fun k_ => some k_ ≠ (u173002 : Value).ownBlock ∧ k_ ≠ gb172) u167003 x167003_2) ∧ Aside0 (Kd.R Kd.string 9 w' w.heap.size (fun _ => True) u173002 x173002_3) ∧ Aside0 (w'.heap[gb155]? = some (.cells #[(.slice (some ad158) l0_0.length c0_0)] 24 (0, 0))) ∧ Aside0 (w'.heap[gb156]? = some (.cells #[(.slice none 0 0)] 28 (0, 0))) ∧ Aside0 (w'.heap[gb157]? = some (.cells #[u158000] 28 (0, 0))) ∧ Aside0 (w'.heap[gb159]? = some (.cells #[.string ((rd_T44 l0_0 x4_1).f0), .string ((rd_T44 l0_0 x4_1).f1), (.slice A158_2 ((rd_T44 l0_0 x4_1).f2).length c158_2), (.slice (some ad170) ((rd_T44 l0_0 x4_1).f3).length c158_3)] 44 (0, 0))) ∧ Aside0 (w'.heap[gb166]? = some (.cells #[.string ((rd_T44 l0_0 x4_1).f0), .string ((rd_T44 l0_0 x4_1).f1), (.slice Ao27 y163.length co27), u167003] 35 (0, 0))) ∧ Aside0 (w'.heap[gb171]? = some (.cells #[.string ((rd_T48 ((rd_T44 l0_0 x4_1).f3) x7_2).f0), .bool ((rd_T48 ((rd_T44 l0_0 x4_1).f3) x7_2).f1), (.slice A170_2 ((rd_T48 ((rd_T44 l0_0 x4_1).f3) x7_2).f2).length c170_2), .string ((rd_T48 ((rd_T44 l0_0 x4_1).f3) x7_2).f3), (.slice A170_4 ((rd_T48 ((rd_T44 l0_0 x4_1).f3) x7_2).f4).length c170_4)] 48 (0, 0))) ∧ Aside0 (w'.heap[gb172]? = some (.cells #[.string ((rd_T48 ((rd_T44 l0_0 x4_1).f3) x7_2).f0), .bool ((rd_T48 ((rd_T44 l0_0 x4_1).f3) x7_2).f1), u173002, .string ((rd_T48 ((rd_T44 l0_0 x4_1).f3) x7_2).f3)] 40 (0, 0))) ∧ Aside0 (Below w.heap.size w w'))
          case atStart => exact ⟨(0), (([] : List ByteArray)), (.slice none 0 0), (by first | rfl | (simp; done) | (simp [*]; done)), H', ⟨Nat.le_refl _⟩, ⟨by (with_reducible repeat first | apply Kd.R_alloc | apply Kd.R_drewN | apply Kd.R_drew); exact Kd.R_mono (Kd.R_far (p := ⟨gb172, 3, none⟩) (Kd.R_far (p := ⟨gb172, 2, none⟩) (Kd.R_far (p := ⟨gb172, 1, none⟩) (Kd.R_far (p := ⟨gb172, 0, none⟩) (Kd.R_mono HO_158000.out (fun k_ hk => (⟨hk, hk.2⟩ : _ ∧ k_ ≠ gb172))) (fun _ hk => hk.2) (.string ((rd_T48 ((rd_T44 l0_0 x4_1).f3) x7_2).f0))) (fun _ hk => hk.2) (.bool ((rd_T48 ((rd_T44 l0_0 x4_1).f3) x7_2).f1))) (fun _ hk => hk.2) (.slice none 0 0)) (fun _ hk => hk.2) (.string ((rd_T48 ((rd_T44 l0_0 x4_1).f3) x7_2).f3))) (fun _ hk => ⟨hk.1.1.1, ⟨hk.1.1.2.1, ⟨(by simp [Value.ownBlock]), ⟨hk.1.1.2.2, hk.1.2⟩⟩⟩⟩)⟩, ⟨by (with_reducible repeat first | apply Kd.R_alloc | apply Kd.R_drewN | apply Kd.R_drew); exact Kd.R_mono (Kd.R_far (p := ⟨gb172, 3, none⟩) (Kd.R_far (p := ⟨gb172, 2, none⟩) (Kd.R_far (p := ⟨gb172, 1, none⟩) (Kd.R_far (p := ⟨gb172, 0, none⟩) (Kd.R_types HO_167002.out BK172.out (by decide)) (fun _ hk => hk.2) (.string ((rd_T48 ((rd_T44 l0_0 x4_1).f3) x7_2).f0))) (fun _ hk => hk.2) (.bool ((rd_T48 ((rd_T44 l0_0 x4_1).f3) x7_2).f1))) (fun _ hk => hk.2) (.slice none 0 0)) (fun _ hk => hk.2) (.string ((rd_T48 ((rd_T44 l0_0 x4_1).f3) x7_2).f3))) (fun _ hk => trivial)⟩, ⟨by (with_reducible repeat first | apply Kd.S_alloc | apply Kd.S_drewN | apply Kd.S_drew); exact Kd.S_mono (Kd.S_far (p := ⟨gb172, 3, none⟩) (Kd.S_far (p := ⟨gb172, 2, none⟩) (Kd.S_far (p := ⟨gb172, 1, none⟩) (Kd.S_far (p := ⟨gb172, 0, none⟩) (Kd.S_mono HO_167003.out (fun k_ hk => (⟨hk, hk.2⟩ : _ ∧ k_ ≠ gb172))) (fun _ hk => hk.2) (.string ((rd_T48 ((rd_T44 l0_0 x4_1).f3) x7_2).f0))) (fun _ hk => hk.2) (.bool ((rd_T48 ((rd_T44 l0_0 x4_1).f3) x7_2).f1))) (fun _ hk => hk.2) (.slice none 0 0)) (fun _ hk => hk.2) (.string ((rd_T48 ((rd_T44 l0_0 x4_1).f3) x7_2).f3))) (fun _ hk => ⟨(by simp [Value.ownBlock]), hk.1.2⟩)⟩, ⟨by first | exact Kd.R_nil _ _ _ _ _ | exact Kd.N_nil _ _ _ _ _ | exact Kd.V_nil _ _ _ _ _ | exact Kd.Q_nil _ _ _ _ _ | exact Kd.S_nil _ _ _ _ _⟩, ⟨by (with_reducible repeat first | apply bn | apply bd | apply ba); refine blk_far ?_ NB155_172.out _; refine blk_far ?_ NB155_172.out _; refine blk_far ?_ NB155_172.out _; refine blk_far ?_ NB155_172.out _; (with_reducible repeat first | apply bn | apply bd | apply ba); exact BK155.out⟩, ⟨by (with_reducible repeat first | apply bn | apply bd | apply ba); refine blk_far ?_ NB156_172.out _; refine blk_far ?_ NB156_172.out _; refine blk_far ?_ NB156_172.out _; refine blk_far ?_ NB156_172.out _; (with_reducible repeat first | apply bn | apply bd | apply ba); exact BK156.out⟩, ⟨by (with_reducible repeat first | apply bn | apply bd | apply ba); refine blk_far ?_ NB157_172.out _; refine blk_far ?_ NB157_172.out _; refine blk_far ?_ NB157_172.out _; refine blk_far ?_ NB157_172.out _; (with_reducible repeat first | apply bn | apply bd | apply ba); exact BK157.out⟩, ⟨by (with_reducible repeat first | apply bn | apply bd | apply ba); refine blk_far ?_ NB159_172.out _; refine blk_far ?_ NB159_172.out _; refine blk_far ?_ NB159_172.out _; refine blk_far ?_ NB159_172.out _; (with_reducible repeat first | apply bn | apply bd | apply ba); exact BK159.out⟩, ⟨by (with_reducible repeat first | apply bn | apply bd | apply ba); refine blk_far ?_ NB166_172.out _; refine blk_far ?_ NB166_172.out _; refine blk_far ?_ NB166_172.out _; refine blk_far ?_ NB166_172.out _; (with_reducible repeat first | apply bn | apply bd | apply ba); exact BK166.out⟩, ⟨by (with_reducible repeat first | apply bn | apply bd | apply ba); refine blk_far ?_ NB171_172.out _; refine blk_far ?_ NB171_172.out _; refine blk_far ?_ NB171_172.out _; refine blk_far ?_ NB171_172.out _; (with_reducible repeat first | apply bn | apply bd | apply ba); exact BK171.out⟩, ⟨by (with_reducible repeat first | apply bn | apply bd | apply ba); refine blk_put (cs := #[.string ((rd_T48 ((rd_T44 l0_0 x4_1).f3) x7_2).f0), .bool ((rd_T48 ((rd_T44 l0_0 x4_1).f3) x7_2).f1), .slice none 0 0, .string (⟨#[]⟩ : ByteArray)]) ?_ 3 _ rfl; refine blk_put (cs := #[.string ((rd_T48 ((rd_T44 l0_0 x4_1).f3) x7_2).f0), .bool ((rd_T48 ((rd_T44 l0_0 x4_1).f3) x7_2).f1), .slice none 0 0, .string (⟨#[]⟩ : ByteArray)]) ?_ 2 _ rfl; refine blk_put (cs := #[.string ((rd_T48 ((rd_T44 l0_0 x4_1).f3) x7_2).f0), .bool false, .slice none 0 0, .string (⟨#[]⟩ : ByteArray)]) ?_ 1 _ rfl; refine blk_put (cs := #[.string (⟨#[]⟩ : ByteArray), .bool false, .slice none 0 0, .string (⟨#[]⟩ : ByteArray)]) ?_ 0 _ rfl; (with_reducible repeat first | apply bn | apply bd | apply ba); exact BK172.out⟩, ⟨by repeat with_reducible first | exact HB.out | apply below_alloc | apply pw_below_drewN | apply below_drew1 | refine below_set ?_ GE155.out | refine below_set ?_ GE156.out | refine below_set ?_ GE157.out | refine below_set ?_ GE159.out | refine below_set ?_ GE166.out | refine below_set ?_ GE171.out | refine below_set ?_ GE172.out⟩⟩
          case round =>
           clear H'
           try clear c1
           try clear p1
           try clear q1
           try clear hx1
           try clear p2
           try clear c3
           try clear c4
           try clear c5
           try clear c10
           try clear c15
           try clear p15
           try clear q15
           try clear c16
           try clear c17
           try clear p17
           try clear q17
           try clear hx17
           try clear c32
           try clear c32b0
           try clear c33
           try clear c33b0
           try clear c34
           try clear c35
           try clear c36
           try clear c37
           try clear c40
           try clear c41
           try clear c42
           try clear c43
           try clear c44
           try clear c47
           try clear c48
           try clear c49
           try clear c50
           try clear c51
           try clear c52
           try clear hcz18_0
           try clear hcz18_1
           try clear hcz18_2
           try clear hcz18_3
           try clear hcz38_0
           try clear hcz38_1
           try clear hcz38_2
           try clear hcz38_3
           try clear hcz45_0
           try clear hcz45_1
           try clear hcz45_2
           try clear hcz45_3
           try clear hcz45_4
           try clear hcz53_0
           try clear hcz53_1
           try clear hcz53_2
           try clear hcz53_3
           try clear hfz18_0
           try clear hfz18_1
           try clear hfz18_2
           try clear hfz18_3
           try clear hfz38_0
           try clear hfz38_1
           try clear hfz38_2
           try clear hfz38_3
           try clear hfz45_0
           try clear hfz45_1
           try clear hfz45_2
           try clear hfz45_3
           try clear hfz45_4
           try clear hfz53_0
           try clear hfz53_1
           try clear hfz53_2
           try clear hfz53_3
           try clear hx170_0
           try clear hx170_1
           try clear hx170_2
           try clear hx170_3
           try clear hx170_4
           try clear p1
           try clear p15
           try clear p158
           try clear p170
           try clear p2
           try clear q1
           try clear q15
           try clear q158
           try clear q170
           obtain ⟨x10_3, x173002_3, u173002, rfl, HA, HK3, HO_158000, HO_167002, HO_167003, HO_173002, BK155, BK156, BK157, BK159, BK166, BK171, BK172, HB⟩ := hrel
           cases gk with
           | zero => exact absurd HA.out (by simp [dataflowref10_Of.l2])
           | succ k3 =>
            have H := HA.out
            clear HA
            simp only [dataflowref10_Of.l2] at H
            by_cases c54 : x10_3 < (((rd_T48 ((rd_T44 l0_0 x4_1).f3) x7_2).f2).length : Int)
            ·rw [if_pos c54] at H
             have c54b0 : decide (x10_3 < (((rd_T48 ((rd_T44 l0_0 x4_1).f3) x7_2).f2).length : Int)) = true := decide_eq_true c54
             clear c54
             by_cases c55 : 0 ≤ x10_3
             ·rw [if_pos c55] at H
              have c55b0 : decide (0 ≤ x10_3) = true := decide_eq_true c55
              clear c55
              by_cases c56 : x173002_3.length < 8796093022208
              ·rw [if_pos c56] at H
               have LMc56 := Aside0.mk c56
               clear c56
               obtain ⟨y174, hy174⟩ : ∃ y_ : List ByteArray, y_ = (x173002_3 ++ [(rd_T37 ((rd_T48 ((rd_T44 l0_0 x4_1).f3) x7_2).f2) x10_3).f1]) := ⟨_, rfl⟩
               replace H : (dataflowref10_Of.l2 k3 x4_1 x7_2 (wrap64 (x10_3 + 1)) l0_0 x158000_1 ((rd_T44 l0_0 x4_1).f0) ((rd_T44 l0_0 x4_1).f1) ((rd_T44 l0_0 x4_1).f2) ((rd_T44 l0_0 x4_1).f3) ((rd_T44 l0_0 x4_1).f0) ((rd_T44 l0_0 x4_1).f1) y163 x167003_2 ((rd_T48 ((rd_T44 l0_0 x4_1).f3) x7_2).f0) ((rd_T48 ((rd_T44 l0_0 x4_1).f3) x7_2).f1) ((rd_T48 ((rd_T44 l0_0 x4_1).f3) x7_2).f2) ((rd_T48 ((rd_T44 l0_0 x4_1).f3) x7_2).f3) ((rd_T48 ((rd_T44 l0_0 x4_1).f3) x7_2).f4) ((rd_T48 ((rd_T44 l0_0 x4_1).f3) x7_2).f0) ((rd_T48 ((rd_T44 l0_0 x4_1).f3) x7_2).f1) y174 ((rd_T48 ((rd_T44 l0_0 x4_1).f3) x7_2).f3)) = some r := by first | (rw [hy174]; with_reducible exact H) | (have H2_ := (Option.bind_some _ _).symm.trans H; rw [hy174]; with_reducible exact H2_) | (have H2_ := (Option.bind_some _ _).symm.trans H; with_reducible exact H2_) | with_reducible exact H | (rw [hy174]; exact H) | exact H
               have Ny174 := Aside0.mk hy174
               clear hy174
               have H' := Aside0.mk H
               clear H
               have hnb57 := NB171_155.out
               have hnc57 := NB155_171.out
               have hnb58 := NB171_156.out
               have hnc58 := NB156_171.out
               have hnb59 := NB171_157.out
               have hnc59 := NB157_171.out
               have hnb60 := NB171_159.out
               have hnc60 := NB159_171.out
               have hnb61 := NB171_166.out
               have hnc61 := NB166_171.out
               have hnb62 := NB171_172.out
               have hnc62 := NB172_171.out
               have hcz63_0 : wr.cell? ⟨gb171, 0, none⟩ = some (.string ((rd_T48 ((rd_T44 l0_0 x4_1).f3) x7_2).f0)) := (blk_cell BK171.out 0).trans rfl
               have hcz63_1 : wr.cell? ⟨gb171, 1, none⟩ = some (.bool ((rd_T48 ((rd_T44 l0_0 x4_1).f3) x7_2).f1)) := (blk_cell BK171.out 1).trans rfl
               have hcz63_2 : wr.cell? ⟨gb171, 2, none⟩ = some (.slice A170_2 ((rd_T48 ((rd_T44 l0_0 x4_1).f3) x7_2).f2).length c170_2) := (blk_cell BK171.out 2).trans rfl
               have hcz63_3 : wr.cell? ⟨gb171, 3, none⟩ = some (.string ((rd_T48 ((rd_T44 l0_0 x4_1).f3) x7_2).f3)) := (blk_cell BK171.out 3).trans rfl
               have hcz63_4 : wr.cell? ⟨gb171, 4, none⟩ = some (.slice A170_4 ((rd_T48 ((rd_T44 l0_0 x4_1).f3) x7_2).f4).length c170_4) := (blk_cell BK171.out 4).trans rfl
               have hfz63_0 := blk_frozen BK171.out 0
               have hfz63_1 := blk_frozen BK171.out 1
               have hfz63_2 := blk_frozen BK171.out 2
               have hfz63_3 := blk_frozen BK171.out 3
               have hfz63_4 := blk_frozen BK171.out 4
               try go_wp2
               have n0_ := Aside0.mk (Kd.R_drew HO_158000.out)
               have n1_ := Aside0.mk (Kd.R_drew HO_167002.out)
               have n2_ := Aside0.mk (Kd.S_drew HO_167003.out)
               have n3_ := Aside0.mk (Kd.R_drew HO_173002.out)
               have n4_ := Aside0.mk (blk_drew BK155.out)
               have n5_ := Aside0.mk (blk_drew BK156.out)
               have n6_ := Aside0.mk (blk_drew BK157.out)
               have n7_ := Aside0.mk (blk_drew BK159.out)
               have n8_ := Aside0.mk (blk_drew BK166.out)
               have n9_ := Aside0.mk (blk_drew BK171.out)
               have n10_ := Aside0.mk (blk_drew BK172.out)
               have n11_ := Aside0.mk (below_drew1 HB.out)
               clear HO_158000
               clear HO_167002
               clear HO_167003
               clear HO_173002
               clear BK155
               clear BK156
               clear BK157
               clear BK159
               clear BK166
               clear BK171
               clear BK172
               clear HB
               have HO_158000 := n0_
               have HO_167002 := n1_
               have HO_167003 := n2_
               have HO_173002 := n3_
               have BK155 := n4_
               have BK156 := n5_
               have BK157 := n6_
               have BK159 := n7_
               have BK166 := n8_
               have BK171 := n9_
               have BK172 := n10_
               have HB := n11_
               clear n0_ n1_ n2_ n3_ n4_ n5_ n6_ n7_ n8_ n9_ n10_ n11_
               have p173 : 0 ≤ (x10_3 : Int) := of_decide_eq_true (by first | (with_reducible assumption) | assumption)
               have q173 : x10_3 < (((rd_T48 ((rd_T44 l0_0 x4_1).f3) x7_2).f2).length : Int) := of_decide_eq_true (by first | (with_reducible assumption) | assumption)
               obtain ⟨ad173, e173, hx173_0, hx173_1⟩ := at_T37 HR170_2.out x10_3 p173 q173
               have hw173_1 := hx173_1
               have hw173_0 := hx173_0
               cases e173
               replace hx173_0 := (HB.out.cell (World.block_lt_of_cell? w _ hx173_0)).trans hx173_0
               replace hx173_1 := (HB.out.cell (World.block_lt_of_cell? w _ hx173_1)).trans hx173_1
               replace p173 := eq_true p173
               replace q173 := eq_true q173
               refine start_ (n := 12) (S := fun w' => w'.cell? ⟨gb172, 0, none⟩ = some (.string ((rd_T48 ((rd_T44 l0_0 x4_1).f3) x7_2).f0)) ∧ w'.cell? ⟨gb172, 1, none⟩ = some (.bool ((rd_T48 ((rd_T44 l0_0 x4_1).f3) x7_2).f1)) ∧ w'.cell? ⟨gb172, 2, none⟩ = some (u173002) ∧ w'.cell? ⟨gb172, 3, none⟩ = some (.string ((rd_T48 ((rd_T44 l0_0 x4_1).f3) x7_2).f3)) ∧ w'.cell? ⟨gb171, 0, none⟩ = some (.string ((rd_T48 ((rd_T44 l0_0 x4_1).f3) x7_2).f0)) ∧ w'.cell? ⟨gb171, 1, none⟩ = some (.bool ((rd_T48 ((rd_T44 l0_0 x4_1).f3) x7_2).f1)) ∧ w'.cell? ⟨gb171, 2, none⟩ = some (.slice (some ad173) ((rd_T48 ((rd_T44 l0_0 x4_1).f3) x7_2).f2).length c170_2) ∧ w'.cell? ⟨gb171, 3, none⟩ = some (.string ((rd_T48 ((rd_T44 l0_0 x4_1).f3) x7_2).f3)) ∧ w'.cell? ⟨gb171, 4, none⟩ = some (.slice A170_4 ((rd_T48 ((rd_T44 l0_0 x4_1).f3) x7_2).f4).length c170_4) ∧ w'.cell? (ad173.add ((x10_3).toNat * 2)) = some (.string ((rd_T37 ((rd_T48 ((rd_T44 l0_0 x4_1).f3) x7_2).f2) x10_3).f0)) ∧ w'.cell? ⟨(ad173.add ((x10_3).toNat * 2)).block, (ad173.add ((x10_3).toNat * 2)).off + 1, none⟩ = some (.string ((rd_T37 ((rd_T48 ((rd_T44 l0_0 x4_1).f3) x7_2).f2) x10_3).f1))) (ds := [11]) #[false, false, false, false, false, false, false, false, false, false, false, false] (by kernel_rfl) rfl rfl ⟨(blk_cell BK172.out 0).trans rfl, (blk_cell BK172.out 1).trans rfl, (blk_cell BK172.out 2).trans rfl, (blk_cell BK172.out 3).trans rfl, (blk_cell BK171.out 0).trans rfl, (blk_cell BK171.out 1).trans rfl, (blk_cell BK171.out 2).trans rfl, (blk_cell BK171.out 3).trans rfl, (blk_cell BK171.out 4).trans rfl, ((HB.out.cell (World.block_lt_of_cell? w _ hw173_0)).trans hw173_0), ((HB.out.cell (World.block_lt_of_cell? w _ hw173_1)).trans hw173_1)⟩ (fun hHeld => ?_); refine with_tabW dataflowref10_Of.tab15 dataflowref10_Of.bits15 (fun HT_ HW_ => ?_)
               generalize wr.drew = w64 at HO_158000 HO_167002 HO_167003 HO_173002 BK155 BK156 BK157 BK159 BK166 BK171 BK172 HB hx173_0 hx173_1 hHeld ⊢
               refine pure_ (i := 0) (N := some 59) (v := ?_) (a' := ?_) #[true, false, false, false, false, false, false, false, false, false, false, false] rfl rfl (any_of HT_.out (by kernel_rfl)) (fun _ _ _ h => h) (Or.inl ⟨by rfl, ?_⟩) ?_ ?_
               rotate_left
               ·intro w'
                go_simp
                with_reducible rfl
               rotate_left
               ·simp only [Act.put, List.setIfInBounds_toArray, List.set_cons_zero, List.set_cons_succ, i64_w]
                rfl
               refine pure_ (i := 2) (N := some 61) (v := ?_) (a' := ?_) #[true, false, true, false, false, false, false, false, false, false, false, false] rfl rfl (any_of HT_.out (by kernel_rfl)) (fun _ _ _ h => h) (Or.inl ⟨by rfl, ?_⟩) ?_ ?_
               rotate_left
               ·intro w'
                go_simp
                with_reducible rfl
               rotate_left
               ·simp only [Act.put, List.setIfInBounds_toArray, List.set_cons_zero, List.set_cons_succ, i64_w]
                rfl
               refine pure_ (i := 4) (N := some 63) (v := ?_) (a' := ?_) #[true, false, true, false, true, false, false, false, false, false, false, false] rfl rfl (any_of HT_.out (by kernel_rfl)) (fun _ _ _ h => h) (Or.inl ⟨by rfl, ?_⟩) ?_ ?_
               rotate_left
               ·intro w'
                go_simp
                with_reducible rfl
               rotate_left
               ·simp only [Act.put, List.setIfInBounds_toArray, List.set_cons_zero, List.set_cons_succ, i64_w]
                rfl
               refine take_ (i := 1) (N := some 60) (v := ?_) (a' := ?_) #[true, true, true, false, true, false, false, false, false, false, false, false] rfl rfl (take_ofW HT_.out HW_.out (by kernel_rfl)) (fun _ _ _ h => h) (Or.inl ⟨by rfl, ?_⟩) hHeld ?_ ?_
               rotate_left
               ·rintro w' ⟨s0, s1, s2, s3, s4, s5, s6, s7, s8, s9, s10⟩
                go_simp
                with_reducible rfl
               rotate_left
               ·simp only [Act.put, List.setIfInBounds_toArray, List.set_cons_zero, List.set_cons_succ, i64_w]
                rfl
               refine take_ (i := 3) (N := some 62) (v := ?_) (a' := ?_) #[true, true, true, true, true, false, false, false, false, false, false, false] rfl rfl (take_ofW HT_.out HW_.out (by kernel_rfl)) (fun _ _ _ h => h) (Or.inl ⟨by rfl, ?_⟩) hHeld ?_ ?_
               rotate_left
               ·rintro w' ⟨s0, s1, s2, s3, s4, s5, s6, s7, s8, s9, s10⟩
                go_simp
                with_reducible rfl
               rotate_left
               ·simp only [Act.put, List.setIfInBounds_toArray, List.set_cons_zero, List.set_cons_succ, i64_w]
                rfl
               refine pure_ (i := 5) (N := some 64) (v := ?_) (a' := ?_) #[true, true, true, true, true, true, false, false, false, false, false, false] rfl rfl (any_of HT_.out (by kernel_rfl)) (fun _ _ _ h => h) (Or.inl ⟨by rfl, ?_⟩) ?_ ?_
               rotate_left
               ·intro w'
                go_simp
                with_reducible rfl
               rotate_left
               ·simp only [Act.put, List.setIfInBounds_toArray, List.set_cons_zero, List.set_cons_succ, i64_w]
                rfl
               refine pure_ (i := 6) (N := some 65) (v := ?_) (a' := ?_) #[true, true, true, true, true, true, true, false, false, false, false, false] rfl rfl (any_of HT_.out (by kernel_rfl)) (fun _ _ _ h => h) (Or.inl ⟨by rfl, ?_⟩) ?_ ?_
               rotate_left
               ·intro w'
                go_simp
                with_reducible rfl
               rotate_left
               ·simp only [Act.put, List.setIfInBounds_toArray, List.set_cons_zero, List.set_cons_succ, i64_w]
                rfl
               refine take_ (i := 7) (N := some 66) (v := ?_) (a' := ?_) #[true, true, true, true, true, true, true, true, false, false, false, false] rfl rfl (take_ofW HT_.out HW_.out (by kernel_rfl)) (fun _ _ _ h => h) (Or.inl ⟨by rfl, ?_⟩) hHeld ?_ ?_
               rotate_left
               ·rintro w' ⟨s0, s1, s2, s3, s4, s5, s6, s7, s8, s9, s10⟩
                go_simp
                with_reducible rfl
               rotate_left
               ·simp only [Act.put, List.setIfInBounds_toArray, List.set_cons_zero, List.set_cons_succ, i64_w]
                rfl
               refine one_ (i := 8) (N := some 67) #[true, true, true, true, true, true, true, true, true, false, false, false] rfl rfl (one_of HT_.out (by kernel_rfl)) (by decide) (fun K hK => ?_)
               refine value_ (w1 := ?_) (v := ?_) (by rfl) rfl ?_ ?_
               rotate_left 2
               ·go_simp
                constructor
                ·rfl
                ·rfl
               refine hK.out _ _ ⟨(blk_cell (blk_alloc BK172.out _) 0).trans rfl, (blk_cell (blk_alloc BK172.out _) 1).trans rfl, (blk_cell (blk_alloc BK172.out _) 2).trans rfl, (blk_cell (blk_alloc BK172.out _) 3).trans rfl, (blk_cell (blk_alloc BK171.out _) 0).trans rfl, (blk_cell (blk_alloc BK171.out _) 1).trans rfl, (blk_cell (blk_alloc BK171.out _) 2).trans rfl, (blk_cell (blk_alloc BK171.out _) 3).trans rfl, (blk_cell (blk_alloc BK171.out _) 4).trans rfl, (World.cell?_alloc_lt _ _ _ (World.block_lt_of_cell? _ _ (((HB.out.cell (World.block_lt_of_cell? w _ hw173_0)).trans hw173_0)))).trans (((HB.out.cell (World.block_lt_of_cell? w _ hw173_0)).trans hw173_0)), (World.cell?_alloc_lt _ _ _ (World.block_lt_of_cell? _ _ (((HB.out.cell (World.block_lt_of_cell? w _ hw173_1)).trans hw173_1)))).trans (((HB.out.cell (World.block_lt_of_cell? w _ hw173_1)).trans hw173_1))⟩ (fun hHeld => ?_)
               clear hK K
               refine norm_ (a' := ?_) ?_ ?_
               rotate_left
               ·show Act.put _ (some 67) _ = _
                simp only [Act.put, List.setIfInBounds_toArray, List.set_cons_zero, List.set_cons_succ, i64_w]
                rfl
               refine one_ (i := 9) (N := some 68) #[true, true, true, true, true, true, true, true, true, true, false, false] rfl rfl (one_of HT_.out (by kernel_rfl)) (by decide) (fun K hK => ?_)
               refine Kd.R_append_step Kd.string (w0 := w) w.heap.size (by rfl) (.tmp 60) (.tmp 67) 38 9 (.string ⟨#[]⟩) 16 rfl Try.underlying38 info9 rfl (by decide) (by omega) u173002 x173002_3 ((rd_T37 ((rd_T48 ((rd_T44 l0_0 x4_1).f3) x7_2).f2) x10_3).f1) [.string ((rd_T37 ((rd_T48 ((rd_T44 l0_0 x4_1).f3) x7_2).f2) x10_3).f1)] (fun _ => True) (fun _ => False) rfl rfl ?aP (fun _ hk => hk.elim) ?aF ?aO ?aB ?aS ?aL ?_
               (case aP => exact rfl)
               (case aB => exact (by repeat with_reducible first | exact HB.out | apply below_alloc | apply pw_below_drewN | apply below_drew1 | refine below_set ?_ GE155.out | refine below_set ?_ GE156.out | refine below_set ?_ GE157.out | refine below_set ?_ GE159.out | refine below_set ?_ GE166.out | refine below_set ?_ GE171.out | refine below_set ?_ GE172.out))
               (case aF => exact (fun _ _ => trivial))
               (case aO => exact (by (with_reducible repeat first | apply Kd.R_alloc | apply Kd.R_drewN | apply Kd.R_drew); exact HO_173002.out))
               (case aS => exact (below_size (by repeat with_reducible first | exact HB.out | apply below_alloc | apply pw_below_drewN | apply below_drew1 | refine below_set ?_ GE155.out | refine below_set ?_ GE156.out | refine below_set ?_ GE157.out | refine below_set ?_ GE159.out | refine below_set ?_ GE166.out | refine below_set ?_ GE171.out | refine below_set ?_ GE172.out)))
               (case aL => have := LMc56.out; omega)
               intro v175 w65 ho hb hg hat
               rw [← Ny174.out] at ho
               have n0_ := Aside0.mk (Kd.R_after (ok := (fun k_ => some k_ ≠ (.slice Ao27 y163.length co27 : Value).ownBlock ∧ some k_ ≠ (u167003 : Value).ownBlock ∧ k_ ≠ gb166 ∧ k_ ≠ gb172)) (by (with_reducible repeat first | apply Kd.R_alloc | apply Kd.R_drewN | apply Kd.R_drew); exact Kd.R_mono HO_158000.out (fun _ hk => ⟨⟨hk.1, ⟨hk.2.1, ⟨hk.2.2.2.1, hk.2.2.2.2⟩⟩⟩, hk.2.2.1⟩)) hg hat)
               have n1_ := Aside0.mk (Kd.R_over' (by (with_reducible repeat first | apply Kd.R_alloc | apply Kd.R_drewN | apply Kd.R_drew); exact HO_167002.out) (Kd.R_typed (by (with_reducible repeat first | apply Kd.R_alloc | apply Kd.R_drewN | apply Kd.R_drew); exact HO_173002.out)) (by decide) hg)
               have n2_ := Aside0.mk (Kd.S_after (ok := (fun k_ => k_ ≠ gb172)) (by (with_reducible repeat first | apply Kd.S_alloc | apply Kd.S_drewN | apply Kd.S_drew); exact Kd.S_mono HO_167003.out (fun _ hk => ⟨hk.2, hk.1⟩)) hg hat)
               have n3_ := Aside0.mk (blk_grown (g := gb155) (o := .cells #[.slice (some ad158) l0_0.length c0_0] 24 (0, 0)) (by (with_reducible repeat first | apply bn | apply bd | apply ba); exact BK155.out) hg (Kd.R_ne HO_173002.out BK155.out (by decide)))
               have n4_ := Aside0.mk (blk_grown (g := gb156) (o := .cells #[.slice none 0 0] 28 (0, 0)) (by (with_reducible repeat first | apply bn | apply bd | apply ba); exact BK156.out) hg (Kd.R_ne HO_173002.out BK156.out (by decide)))
               have n5_ := Aside0.mk (blk_grown (g := gb157) (o := .cells #[u158000] 28 (0, 0)) (by (with_reducible repeat first | apply bn | apply bd | apply ba); exact BK157.out) hg (Kd.R_ne HO_173002.out BK157.out (by decide)))
               have n6_ := Aside0.mk (blk_grown (g := gb159) (o := .cells #[.string ((rd_T44 l0_0 x4_1).f0), .string ((rd_T44 l0_0 x4_1).f1), .slice A158_2 ((rd_T44 l0_0 x4_1).f2).length c158_2, .slice (some ad170) ((rd_T44 l0_0 x4_1).f3).length c158_3] 44 (0, 0)) (by (with_reducible repeat first | apply bn | apply bd | apply ba); exact BK159.out) hg (Kd.R_ne HO_173002.out BK159.out (by decide)))
               have n7_ := Aside0.mk (blk_grown (g := gb166) (o := .cells #[.string ((rd_T44 l0_0 x4_1).f0), .string ((rd_T44 l0_0 x4_1).f1), .slice Ao27 y163.length co27, u167003] 35 (0, 0)) (by (with_reducible repeat first | apply bn | apply bd | apply ba); exact BK166.out) hg (Kd.R_ne HO_173002.out BK166.out (by decide)))
               have n8_ := Aside0.mk (blk_grown (g := gb171) (o := .cells #[.string ((rd_T48 ((rd_T44 l0_0 x4_1).f3) x7_2).f0), .bool ((rd_T48 ((rd_T44 l0_0 x4_1).f3) x7_2).f1), .slice (some ad173) ((rd_T48 ((rd_T44 l0_0 x4_1).f3) x7_2).f2).length c170_2, .string ((rd_T48 ((rd_T44 l0_0 x4_1).f3) x7_2).f3), .slice A170_4 ((rd_T48 ((rd_T44 l0_0 x4_1).f3) x7_2).f4).length c170_4] 48 (0, 0)) (by (with_reducible repeat first | apply bn | apply bd | apply ba); exact BK171.out) hg (Kd.R_ne HO_173002.out BK171.out (by decide)))
               have n9_ := Aside0.mk (blk_grown (g := gb172) (o := .cells #[.string ((rd_T48 ((rd_T44 l0_0 x4_1).f3) x7_2).f0), .bool ((rd_T48 ((rd_T44 l0_0 x4_1).f3) x7_2).f1), u173002, .string ((rd_T48 ((rd_T44 l0_0 x4_1).f3) x7_2).f3)] 40 (0, 0)) (by (with_reducible repeat first | apply bn | apply bd | apply ba); exact BK172.out) hg (Kd.R_ne HO_173002.out BK172.out (by decide)))
               have n10_ := Aside0.mk (hb)
               have n11_ := Aside0.mk (ho)
               clear HO_158000
               clear HO_167002
               clear HO_167003
               clear BK155
               clear BK156
               clear BK157
               clear BK159
               clear BK166
               clear BK171
               clear BK172
               clear HB
               clear HO_173002
               have HO_158000 := n0_
               have HO_167002 := n1_
               have HO_167003 := n2_
               have BK155 := n3_
               have BK156 := n4_
               have BK157 := n5_
               have BK159 := n6_
               have BK166 := n7_
               have BK171 := n8_
               have BK172 := n9_
               have HB := n10_
               have HO176 := n11_
               clear n0_ n1_ n2_ n3_ n4_ n5_ n6_ n7_ n8_ n9_ n10_ n11_
               clear ho hb hg hat
               obtain ⟨Ao66, co66, eo66⟩ := Kd.R_slice HO176.out
               (first | subst eo66 | (injection eo66 with f1_ f2_ f3_; have f4_ := f1_.symm; have f5_ := f3_.symm; clear f1_ f2_ f3_; subst f4_; subst f5_))
               refine hK.out _ _ ⟨(blk_cell BK172.out 0).trans rfl, (blk_cell BK172.out 1).trans rfl, (blk_cell BK172.out 2).trans rfl, (blk_cell BK172.out 3).trans rfl, (blk_cell BK171.out 0).trans rfl, (blk_cell BK171.out 1).trans rfl, (blk_cell BK171.out 2).trans rfl, (blk_cell BK171.out 3).trans rfl, (blk_cell BK171.out 4).trans rfl, ((HB.out.cell (World.block_lt_of_cell? w _ hw173_0)).trans hw173_0), ((HB.out.cell (World.block_lt_of_cell? w _ hw173_1)).trans hw173_1)⟩ (fun hHeld => ?_)
               clear hK K
               refine norm_ (a' := ?_) ?_ ?_
               rotate_left
               ·show Act.put _ (some 68) _ = _
                simp only [Act.put, List.setIfInBounds_toArray, List.set_cons_zero, List.set_cons_succ, i64_w]
                rfl
               refine pure_ (i := 10) (N := some 69) (v := ?_) (a' := ?_) #[true, true, true, true, true, true, true, true, true, true, true, false] rfl rfl (any_of HT_.out (by kernel_rfl)) (fun _ _ _ h => h) (Or.inl ⟨by rfl, ?_⟩) ?_ ?_
               rotate_left
               ·intro w'
                go_simp
                with_reducible rfl
               rotate_left
               ·simp only [Act.put, List.setIfInBounds_toArray, List.set_cons_zero, List.set_cons_succ, i64_w]
                rfl
               refine last_ (i := 11) (N := none) #[true, true, true, true, true, true, true, true, true, true, true, true] rfl rfl (one_of HT_.out (by kernel_rfl)) (by decide) (fun K hK => ?_)
               have hs67 : w65.cell? ⟨gb172, 2, none⟩ = some (u173002) := (blk_cell BK172.out 2).trans rfl
               have hfs67 := blk_frozen BK172.out 2
               have hns67_0 := NB155_172.out
               have hns67_1 := NB156_172.out
               have hns67_2 := NB157_172.out
               have hns67_3 := NB159_172.out
               have hns67_4 := NB166_172.out
               have hns67_5 := NB171_172.out
               have hms67_0 := NB172_155.out
               have hms67_1 := NB172_156.out
               have hms67_2 := NB172_157.out
               have hms67_3 := NB172_159.out
               have hms67_4 := NB172_166.out
               have hms67_5 := NB172_171.out
               refine skip_ (w1 := ?_) (by rfl) rfl ?_ ?_
               rotate_left
               ·go_simp
                rfl
               refine hK.out _ _ ?_
               clear hK K
               refine done_ (done_of HT_.out (by kernel_rfl)) ?_
               try go_wp2
               go_roundg k3
               case measure => have := HK1.out; have := HK2.out; have := HK3.out; omega
               case rel => exact ⟨(wrap64 (x10_3 + 1)), (y174), (.slice Ao66 y174.length co66), (by first | rfl | (simp; done) | (simp [*]; done)), H', ⟨by have := HK1.out; have := HK2.out; have := HK3.out; omega⟩, ⟨by (with_reducible repeat first | apply Kd.R_alloc | apply Kd.R_drewN | apply Kd.R_drew); exact Kd.R_mono (Kd.R_far (p := ⟨gb172, 2, none⟩) (Kd.R_mono HO_158000.out (fun k_ hk => (⟨hk, hk.1.2.2.2⟩ : _ ∧ k_ ≠ gb172))) (fun _ hk => hk.2) (.slice Ao66 y174.length co66)) (fun _ hk => ⟨hk.1.1.1, ⟨hk.1.1.2.1, ⟨hk.1.2, ⟨hk.1.1.2.2.1, hk.1.1.2.2.2⟩⟩⟩⟩)⟩, ⟨by (with_reducible repeat first | apply Kd.R_alloc | apply Kd.R_drewN | apply Kd.R_drew); exact Kd.R_mono (Kd.R_far (p := ⟨gb172, 2, none⟩) (Kd.R_types HO_167002.out BK172.out (by decide)) (fun _ hk => hk.2) (.slice Ao66 y174.length co66)) (fun _ hk => trivial)⟩, ⟨by (with_reducible repeat first | apply Kd.S_alloc | apply Kd.S_drewN | apply Kd.S_drew); exact Kd.S_mono (Kd.S_far (p := ⟨gb172, 2, none⟩) (Kd.S_mono HO_167003.out (fun k_ hk => (⟨hk, hk.1⟩ : _ ∧ k_ ≠ gb172))) (fun _ hk => hk.2) (.slice Ao66 y174.length co66)) (fun _ hk => ⟨hk.1.2, hk.1.1⟩)⟩, ⟨by (with_reducible repeat first | apply Kd.R_alloc | apply Kd.R_drewN | apply Kd.R_drew); exact Kd.R_mono (Kd.R_far (p := ⟨gb172, 2, none⟩) (Kd.R_types HO176.out BK172.out (by decide)) (fun _ hk => hk.2) (.slice Ao66 y174.length co66)) (fun _ hk => trivial)⟩, ⟨by (with_reducible repeat first | apply bn | apply bd | apply ba); refine blk_far ?_ NB155_172.out _; (with_reducible repeat first | apply bn | apply bd | apply ba); exact BK155.out⟩, ⟨by (with_reducible repeat first | apply bn | apply bd | apply ba); refine blk_far ?_ NB156_172.out _; (with_reducible repeat first | apply bn | apply bd | apply ba); exact BK156.out⟩, ⟨by (with_reducible repeat first | apply bn | apply bd | apply ba); refine blk_far ?_ NB157_172.out _; (with_reducible repeat first | apply bn | apply bd | apply ba); exact BK157.out⟩, ⟨by (with_reducible repeat first | apply bn | apply bd | apply ba); refine blk_far ?_ NB159_172.out _; (with_reducible repeat first | apply bn | apply bd | apply ba); exact BK159.out⟩, ⟨by (with_reducible repeat first | apply bn | apply bd | apply ba); refine blk_far ?_ NB166_172.out _; (with_reducible repeat first | apply bn | apply bd | apply ba); exact BK166.out⟩, ⟨by (with_reducible repeat first | apply bn | apply bd | apply ba); refine blk_far ?_ NB171_172.out _; (with_reducible repeat first | apply bn | apply bd | apply ba); exact BK171.out⟩, ⟨by (with_reducible repeat first | apply bn | apply bd | apply ba); refine blk_put (cs := #[.string ((rd_T48 ((rd_T44 l0_0 x4_1).f3) x7_2).f0), .bool ((rd_T48 ((rd_T44 l0_0 x4_1).f3) x7_2).f1), u173002, .string ((rd_T48 ((rd_T44 l0_0 x4_1).f3) x7_2).f3)]) ?_ 2 _ rfl; (with_reducible repeat first | apply bn | apply bd | apply ba); exact BK172.out⟩, ⟨by repeat with_reducible first | exact HB.out | apply below_alloc | apply pw_below_drewN | apply below_drew1 | refine below_set ?_ GE155.out | refine below_set ?_ GE156.out | refine below_set ?_ GE157.out | refine below_set ?_ GE159.out | refine below_set ?_ GE166.out | refine below_set ?_ GE171.out | refine below_set ?_ GE172.out⟩⟩
              ·rw [if_neg c56] at H
               exact absurd H (by simp)
             ·rw [if_neg c55] at H
              exact absurd H (by simp)
            ·rw [if_neg c54] at H
             have c54b0 : decide (x10_3 < (((rd_T48 ((rd_T44 l0_0 x4_1).f3) x7_2).f2).length : Int)) = false := decide_eq_false c54
             clear c54
             by_cases c68 : x167003_2.length < 2199023255552
             ·rw [if_pos c68] at H
              have LMc68 := Aside0.mk c68
              clear c68
              obtain ⟨y177, hy177⟩ : ∃ y_ : List (S40), y_ = (x167003_2 ++ [(⟨((rd_T48 ((rd_T44 l0_0 x4_1).f3) x7_2).f0), ((rd_T48 ((rd_T44 l0_0 x4_1).f3) x7_2).f1), x173002_3, ((rd_T48 ((rd_T44 l0_0 x4_1).f3) x7_2).f3)⟩ : S40)]) := ⟨_, rfl⟩
              replace H : (dataflowref10_Of.l1 k3 x4_1 (wrap64 (x7_2 + 1)) l0_0 x158000_1 ((rd_T44 l0_0 x4_1).f0) ((rd_T44 l0_0 x4_1).f1) ((rd_T44 l0_0 x4_1).f2) ((rd_T44 l0_0 x4_1).f3) ((rd_T44 l0_0 x4_1).f0) ((rd_T44 l0_0 x4_1).f1) y163 y177) = some r := by first | (rw [hy177]; with_reducible exact H) | (have H2_ := (Option.bind_some _ _).symm.trans H; rw [hy177]; with_reducible exact H2_) | (have H2_ := (Option.bind_some _ _).symm.trans H; with_reducible exact H2_) | with_reducible exact H | (rw [hy177]; exact H) | exact H
              have Ny177 := Aside0.mk hy177
              clear hy177
              have H' := Aside0.mk H
              clear H
              have hnb69 := NB171_155.out
              have hnc69 := NB155_171.out
              have hnb70 := NB171_156.out
              have hnc70 := NB156_171.out
              have hnb71 := NB171_157.out
              have hnc71 := NB157_171.out
              have hnb72 := NB171_159.out
              have hnc72 := NB159_171.out
              have hnb73 := NB171_166.out
              have hnc73 := NB166_171.out
              have hnb74 := NB171_172.out
              have hnc74 := NB172_171.out
              have hcz75_0 : wr.cell? ⟨gb171, 0, none⟩ = some (.string ((rd_T48 ((rd_T44 l0_0 x4_1).f3) x7_2).f0)) := (blk_cell BK171.out 0).trans rfl
              have hcz75_1 : wr.cell? ⟨gb171, 1, none⟩ = some (.bool ((rd_T48 ((rd_T44 l0_0 x4_1).f3) x7_2).f1)) := (blk_cell BK171.out 1).trans rfl
              have hcz75_2 : wr.cell? ⟨gb171, 2, none⟩ = some (.slice A170_2 ((rd_T48 ((rd_T44 l0_0 x4_1).f3) x7_2).f2).length c170_2) := (blk_cell BK171.out 2).trans rfl
              have hcz75_3 : wr.cell? ⟨gb171, 3, none⟩ = some (.string ((rd_T48 ((rd_T44 l0_0 x4_1).f3) x7_2).f3)) := (blk_cell BK171.out 3).trans rfl
              have hcz75_4 : wr.cell? ⟨gb171, 4, none⟩ = some (.slice A170_4 ((rd_T48 ((rd_T44 l0_0 x4_1).f3) x7_2).f4).length c170_4) := (blk_cell BK171.out 4).trans rfl
              have hfz75_0 := blk_frozen BK171.out 0
              have hfz75_1 := blk_frozen BK171.out 1
              have hfz75_2 := blk_frozen BK171.out 2
              have hfz75_3 := blk_frozen BK171.out 3
              have hfz75_4 := blk_frozen BK171.out 4
              have hnb76 := NB166_155.out
              have hnc76 := NB155_166.out
              have hnb77 := NB166_156.out
              have hnc77 := NB156_166.out
              have hnb78 := NB166_157.out
              have hnc78 := NB157_166.out
              have hnb79 := NB166_159.out
              have hnc79 := NB159_166.out
              have hnb80 := NB166_172.out
              have hnc80 := NB172_166.out
              have hcz81_0 : wr.cell? ⟨gb166, 0, none⟩ = some (.string ((rd_T44 l0_0 x4_1).f0)) := (blk_cell BK166.out 0).trans rfl
              have hcz81_1 : wr.cell? ⟨gb166, 1, none⟩ = some (.string ((rd_T44 l0_0 x4_1).f1)) := (blk_cell BK166.out 1).trans rfl
              have hcz81_2 : wr.cell? ⟨gb166, 2, none⟩ = some (.slice Ao27 y163.length co27) := (blk_cell BK166.out 2).trans rfl
              have hcz81_3 : wr.cell? ⟨gb166, 3, none⟩ = some (u167003) := (blk_cell BK166.out 3).trans rfl
              have hfz81_0 := blk_frozen BK166.out 0
              have hfz81_1 := blk_frozen BK166.out 1
              have hfz81_2 := blk_frozen BK166.out 2
              have hfz81_3 := blk_frozen BK166.out 3
              have hnb82 := NB172_155.out
              have hnc82 := NB155_172.out
              have hnb83 := NB172_156.out
              have hnc83 := NB156_172.out
              have hnb84 := NB172_157.out
              have hnc84 := NB157_172.out
              have hnb85 := NB172_159.out
              have hnc85 := NB159_172.out
              have hcz86_0 : wr.cell? ⟨gb172, 0, none⟩ = some (.string ((rd_T48 ((rd_T44 l0_0 x4_1).f3) x7_2).f0)) := (blk_cell BK172.out 0).trans rfl
              have hcz86_1 : wr.cell? ⟨gb172, 1, none⟩ = some (.bool ((rd_T48 ((rd_T44 l0_0 x4_1).f3) x7_2).f1)) := (blk_cell BK172.out 1).trans rfl
              have hcz86_2 : wr.cell? ⟨gb172, 2, none⟩ = some (u173002) := (blk_cell BK172.out 2).trans rfl
              have hcz86_3 : wr.cell? ⟨gb172, 3, none⟩ = some (.string ((rd_T48 ((rd_T44 l0_0 x4_1).f3) x7_2).f3)) := (blk_cell BK172.out 3).trans rfl
              have hfz86_0 := blk_frozen BK172.out 0
              have hfz86_1 := blk_frozen BK172.out 1
              have hfz86_2 := blk_frozen BK172.out 2
              have hfz86_3 := blk_frozen BK172.out 3
              obtain ⟨Ao88, co88, eo88⟩ := Kd.R_slice HO_173002.out
              subst eo88
              go_wp2_with (first | ((with_reducible refine gate_builtin (b := .append) (xs := #[.tmp 71, .tmp 73]) rfl ?_); at_builtin; refine Kd.S_append k40 (w0 := w) w.heap.size rfl (.tmp 71) (.tmp 73) 33 40 (.agg #[(.string ⟨#[]⟩), (.bool false), (.slice none 0 0), (.string ⟨#[]⟩)]) 64 rfl Try.underlying33 info40 rfl (by decide) (by omega) u167003 x167003_2 (⟨((rd_T48 ((rd_T44 l0_0 x4_1).f3) x7_2).f0), ((rd_T48 ((rd_T44 l0_0 x4_1).f3) x7_2).f1), x173002_3, ((rd_T48 ((rd_T44 l0_0 x4_1).f3) x7_2).f3)⟩ : S40) [.string ((rd_T48 ((rd_T44 l0_0 x4_1).f3) x7_2).f0), .bool ((rd_T48 ((rd_T44 l0_0 x4_1).f3) x7_2).f1), .slice Ao88 x173002_3.length co88, .string ((rd_T48 ((rd_T44 l0_0 x4_1).f3) x7_2).f3)] (fun k_ => k_ ≠ gb172) (fun k_ => some k_ = (.slice Ao88 x173002_3.length co88 : Value).ownBlock) rfl rfl ?aP (fun k_ hk_ => ((Kd.R_mono (ok' := fun k_ => ((fun k_ => k_ ≠ gb172)) k_ ∧ some k_ ≠ (u167003 : Value).ownBlock) (Kd.R_types (Kd.R_apart' (HO_173002.out) (Kd.S_typed HO_167003.out) (by decide)) BK172.out (by decide)) (fun k_ hk => ⟨hk.2, hk.1.2⟩))).1 k_ hk_.symm) ?aF ?aO ?aB ?aS ?aL ?_; (case aP => exact k40_mkM _ _ _ (⟨((rd_T48 ((rd_T44 l0_0 x4_1).f3) x7_2).f0), ((rd_T48 ((rd_T44 l0_0 x4_1).f3) x7_2).f1), x173002_3, ((rd_T48 ((rd_T44 l0_0 x4_1).f3) x7_2).f3)⟩ : S40) (Kd.R_mono (Kd.R_tight rfl (Kd.R_mono (ok' := fun k_ => ((fun k_ => k_ ≠ gb172)) k_ ∧ some k_ ≠ (u167003 : Value).ownBlock) (Kd.R_types (Kd.R_apart' (HO_173002.out) (Kd.S_typed HO_167003.out) (by decide)) BK172.out (by decide)) (fun k_ hk => ⟨hk.2, hk.1.2⟩))) (fun _ h_ => h_))); (case aB => exact (by repeat with_reducible first | exact HB.out | apply below_alloc | apply pw_below_drewN | apply below_drew1 | refine below_set ?_ GE155.out | refine below_set ?_ GE156.out | refine below_set ?_ GE157.out | refine below_set ?_ GE159.out | refine below_set ?_ GE166.out | refine below_set ?_ GE171.out | refine below_set ?_ GE172.out)); (case aF => exact (fun k_ hk => Kd.freshB (g := gb172) (o := .cells #[.string ((rd_T48 ((rd_T44 l0_0 x4_1).f3) x7_2).f0), .bool ((rd_T48 ((rd_T44 l0_0 x4_1).f3) x7_2).f1), .slice Ao88 x173002_3.length co88, .string ((rd_T48 ((rd_T44 l0_0 x4_1).f3) x7_2).f3)] 40 (0, 0)) (by (with_reducible repeat first | apply bn | apply bd | apply ba); exact BK172.out) k_ hk)); (case aO => exact (by (with_reducible repeat first | apply Kd.S_alloc | apply Kd.S_drewN | apply Kd.S_drew); exact Kd.S_mono HO_167003.out (fun k_ hk => ⟨hk.2, fun e_ => hk.1 e_⟩))); (case aS => exact (below_size (by repeat with_reducible first | exact HB.out | apply below_alloc | apply pw_below_drewN | apply below_drew1 | refine below_set ?_ GE155.out | refine below_set ?_ GE156.out | refine below_set ?_ GE157.out | refine below_set ?_ GE159.out | refine below_set ?_ GE166.out | refine below_set ?_ GE171.out | refine below_set ?_ GE172.out))); (case aL => have := LMc68.out; omega); intro v178 w87 ho hb hg hat; rw [← Ny177.out] at ho; have n0_ := Aside0.mk (Kd.R_after (ok := (fun k_ => some k_ ≠ (.slice Ao27 y163.length co27 : Value).ownBlock ∧ some k_ ≠ (.slice Ao88 x173002_3.length co88 : Value).ownBlock ∧ k_ ≠ gb166 ∧ k_ ≠ gb172)) (by (with_reducible repeat first | apply Kd.R_alloc | apply Kd.R_drewN | apply Kd.R_drew); exact Kd.R_mono HO_158000.out (fun _ hk => ⟨⟨hk.1, ⟨hk.2.2.1, ⟨hk.2.2.2.1, hk.2.2.2.2⟩⟩⟩, hk.2.1⟩)) hg hat); have n1_ := Aside0.mk (Kd.R_over' (by (with_reducible repeat first | apply Kd.R_alloc | apply Kd.R_drewN | apply Kd.R_drew); exact HO_167002.out) (Kd.S_typed (by (with_reducible repeat first | apply Kd.S_alloc | apply Kd.S_drewN | apply Kd.S_drew); exact HO_167003.out)) (by decide) hg); have n2_ := Aside0.mk (blk_grown (g := gb155) (o := .cells #[.slice (some ad158) l0_0.length c0_0] 24 (0, 0)) (by (with_reducible repeat first | apply bn | apply bd | apply ba); exact BK155.out) hg (Kd.S_ne HO_167003.out BK155.out (by decide))); have n3_ := Aside0.mk (blk_grown (g := gb156) (o := .cells #[.slice none 0 0] 28 (0, 0)) (by (with_reducible repeat first | apply bn | apply bd | apply ba); exact BK156.out) hg (Kd.S_ne HO_167003.out BK156.out (by decide))); have n4_ := Aside0.mk (blk_grown (g := gb157) (o := .cells #[u158000] 28 (0, 0)) (by (with_reducible repeat first | apply bn | apply bd | apply ba); exact BK157.out) hg (Kd.S_ne HO_167003.out BK157.out (by decide))); have n5_ := Aside0.mk (blk_grown (g := gb159) (o := .cells #[.string ((rd_T44 l0_0 x4_1).f0), .string ((rd_T44 l0_0 x4_1).f1), .slice A158_2 ((rd_T44 l0_0 x4_1).f2).length c158_2, .slice (some ad170) ((rd_T44 l0_0 x4_1).f3).length c158_3] 44 (0, 0)) (by (with_reducible repeat first | apply bn | apply bd | apply ba); exact BK159.out) hg (Kd.S_ne HO_167003.out BK159.out (by decide))); have n6_ := Aside0.mk (blk_grown (g := gb166) (o := .cells #[.string ((rd_T44 l0_0 x4_1).f0), .string ((rd_T44 l0_0 x4_1).f1), .slice Ao27 y163.length co27, u167003] 35 (0, 0)) (by (with_reducible repeat first | apply bn | apply bd | apply ba); exact BK166.out) hg (Kd.S_ne HO_167003.out BK166.out (by decide))); have n7_ := Aside0.mk (blk_grown (g := gb171) (o := .cells #[.string ((rd_T48 ((rd_T44 l0_0 x4_1).f3) x7_2).f0), .bool ((rd_T48 ((rd_T44 l0_0 x4_1).f3) x7_2).f1), .slice A170_2 ((rd_T48 ((rd_T44 l0_0 x4_1).f3) x7_2).f2).length c170_2, .string ((rd_T48 ((rd_T44 l0_0 x4_1).f3) x7_2).f3), .slice A170_4 ((rd_T48 ((rd_T44 l0_0 x4_1).f3) x7_2).f4).length c170_4] 48 (0, 0)) (by (with_reducible repeat first | apply bn | apply bd | apply ba); exact BK171.out) hg (Kd.S_ne HO_167003.out BK171.out (by decide))); have n8_ := Aside0.mk (blk_grown (g := gb172) (o := .cells #[.string ((rd_T48 ((rd_T44 l0_0 x4_1).f3) x7_2).f0), .bool ((rd_T48 ((rd_T44 l0_0 x4_1).f3) x7_2).f1), .slice Ao88 x173002_3.length co88, .string ((rd_T48 ((rd_T44 l0_0 x4_1).f3) x7_2).f3)] 40 (0, 0)) (by (with_reducible repeat first | apply bn | apply bd | apply ba); exact BK172.out) hg (Kd.S_away HO_167003.out (fun _ hk => hk.2))); have n9_ := Aside0.mk (hb); have n10_ := Aside0.mk (ho); clear HO_158000; clear HO_167002; clear BK155; clear BK156; clear BK157; clear BK159; clear BK166; clear BK171; clear BK172; clear HB; clear HO_167003; clear HO_173002; have HO_158000 := n0_; have HO_167002 := n1_; have BK155 := n2_; have BK156 := n3_; have BK157 := n4_; have BK159 := n5_; have BK166 := n6_; have BK171 := n7_; have BK172 := n8_; have HB := n9_; have HO179 := n10_; clear n0_ n1_ n2_ n3_ n4_ n5_ n6_ n7_ n8_ n9_ n10_; clear ho hb hg hat; obtain ⟨Ao89, co89, eo89⟩ := Kd.S_slice HO179.out; subst eo89; have hcz90_0 : w87.cell? ⟨gb166, 0, none⟩ = some (.string ((rd_T44 l0_0 x4_1).f0)) := (blk_cell BK166.out 0).trans rfl; have hcz90_1 : w87.cell? ⟨gb166, 1, none⟩ = some (.string ((rd_T44 l0_0 x4_1).f1)) := (blk_cell BK166.out 1).trans rfl; have hcz90_2 : w87.cell? ⟨gb166, 2, none⟩ = some (.slice Ao27 y163.length co27) := (blk_cell BK166.out 2).trans rfl; have hcz90_3 : w87.cell? ⟨gb166, 3, none⟩ = some (u167003) := (blk_cell BK166.out 3).trans rfl; have hfz90_0 := blk_frozen BK166.out 0; have hfz90_1 := blk_frozen BK166.out 1; have hfz90_2 := blk_frozen BK166.out 2; have hfz90_3 := blk_frozen BK166.out 3))
              go_roundg k3
              case measure => have := HK1.out; have := HK2.out; have := HK3.out; omega
              case rel => exact ⟨(wrap64 (x7_2 + 1)), (y177), (.slice Ao89 y177.length co89), (by first | rfl | (simp; done) | (simp [*]; done)), H', ⟨by have := HK1.out; have := HK2.out; have := HK3.out; omega⟩, ⟨by (with_reducible repeat first | apply Kd.R_alloc | apply Kd.R_drewN | apply Kd.R_drew); exact Kd.R_mono (Kd.R_far (p := ⟨gb166, 3, none⟩) (Kd.R_mono HO_158000.out (fun k_ hk => (⟨hk, hk.1.2.2.1⟩ : _ ∧ k_ ≠ gb166))) (fun _ hk => hk.2) (.slice Ao89 y177.length co89)) (fun _ hk => ⟨hk.1.1.1, ⟨hk.1.2, hk.1.1.2.2.1⟩⟩)⟩, ⟨by (with_reducible repeat first | apply Kd.R_alloc | apply Kd.R_drewN | apply Kd.R_drew); exact Kd.R_mono (Kd.R_far (p := ⟨gb166, 3, none⟩) (Kd.R_types HO_167002.out BK166.out (by decide)) (fun _ hk => hk.2) (.slice Ao89 y177.length co89)) (fun _ hk => trivial)⟩, ⟨by (with_reducible repeat first | apply Kd.S_alloc | apply Kd.S_drewN | apply Kd.S_drew); exact Kd.S_mono (Kd.S_far (p := ⟨gb166, 3, none⟩) (Kd.S_types HO179.out BK166.out (by decide)) (fun _ hk => hk.2) (.slice Ao89 y177.length co89)) (fun _ hk => trivial)⟩, ⟨by (with_reducible repeat first | apply bn | apply bd | apply ba); refine blk_far ?_ NB155_166.out _; (with_reducible repeat first | apply bn | apply bd | apply ba); exact BK155.out⟩, ⟨by (with_reducible repeat first | apply bn | apply bd | apply ba); refine blk_far ?_ NB156_166.out _; (with_reducible repeat first | apply bn | apply bd | apply ba); exact BK156.out⟩, ⟨by (with_reducible repeat first | apply bn | apply bd | apply ba); refine blk_far ?_ NB157_166.out _; (with_reducible repeat first | apply bn | apply bd | apply ba); exact BK157.out⟩, ⟨by (with_reducible repeat first | apply bn | apply bd | apply ba); refine blk_far ?_ NB159_166.out _; (with_reducible repeat first | apply bn | apply bd | apply ba); exact BK159.out⟩, ⟨by (with_reducible repeat first | apply bn | apply bd | apply ba); refine blk_put (cs := #[.string ((rd_T44 l0_0 x4_1).f0), .string ((rd_T44 l0_0 x4_1).f1), .slice Ao27 y163.length co27, u167003]) ?_ 3 _ rfl; (with_reducible repeat first | apply bn | apply bd | apply ba); exact BK166.out⟩, ⟨by repeat with_reducible first | exact HB.out | apply below_alloc | apply pw_below_drewN | apply below_drew1 | refine below_set ?_ GE155.out | refine below_set ?_ GE156.out | refine below_set ?_ GE157.out | refine below_set ?_ GE159.out | refine below_set ?_ GE166.out | refine below_set ?_ GE171.out | refine below_set ?_ GE172.out⟩⟩
             ·rw [if_neg c68] at H
              exact absurd H (by simp)
         ·rw [if_neg c33] at H
          exact absurd H (by simp)
        ·rw [if_neg c32] at H
         have c32b0 : decide (x7_2 < (((rd_T44 l0_0 x4_1).f3).length : Int)) = false := decide_eq_false c32
         clear c32
         by_cases c91 : x158000_1.length < 1759218604441
         ·rw [if_pos c91] at H
          have LMc91 := Aside0.mk c91
          clear c91
          obtain ⟨y167, hy167⟩ : ∃ y_ : List (S35), y_ = (x158000_1 ++ [(⟨((rd_T44 l0_0 x4_1).f0), ((rd_T44 l0_0 x4_1).f1), y163, x167003_2⟩ : S35)]) := ⟨_, rfl⟩
          replace H : (dataflowref10_Of.l0 k2 (wrap64 (x4_1 + 1)) l0_0 y167) = some r := by first | (rw [hy167]; with_reducible exact H) | (have H2_ := (Option.bind_some _ _).symm.trans H; rw [hy167]; with_reducible exact H2_) | (have H2_ := (Option.bind_some _ _).symm.trans H; with_reducible exact H2_) | with_reducible exact H | (rw [hy167]; exact H) | exact H
          have Ny167 := Aside0.mk hy167
          clear hy167
          have H' := Aside0.mk H
          clear H
          have hnb92 := NB159_155.out
          have hnc92 := NB155_159.out
          have hnb93 := NB159_156.out
          have hnc93 := NB156_159.out
          have hnb94 := NB159_157.out
          have hnc94 := NB157_159.out
          have hnb95 := NB159_166.out
          have hnc95 := NB166_159.out
          have hcz96_0 : wr.cell? ⟨gb159, 0, none⟩ = some (.string ((rd_T44 l0_0 x4_1).f0)) := (blk_cell BK159.out 0).trans rfl
          have hcz96_1 : wr.cell? ⟨gb159, 1, none⟩ = some (.string ((rd_T44 l0_0 x4_1).f1)) := (blk_cell BK159.out 1).trans rfl
          have hcz96_2 : wr.cell? ⟨gb159, 2, none⟩ = some (.slice A158_2 ((rd_T44 l0_0 x4_1).f2).length c158_2) := (blk_cell BK159.out 2).trans rfl
          have hcz96_3 : wr.cell? ⟨gb159, 3, none⟩ = some (.slice A158_3 ((rd_T44 l0_0 x4_1).f3).length c158_3) := (blk_cell BK159.out 3).trans rfl
          have hfz96_0 := blk_frozen BK159.out 0
          have hfz96_1 := blk_frozen BK159.out 1
          have hfz96_2 := blk_frozen BK159.out 2
          have hfz96_3 := blk_frozen BK159.out 3
          have hnb97 := NB157_155.out
          have hnc97 := NB155_157.out
          have hnb98 := NB157_156.out
          have hnc98 := NB156_157.out
          have hnb99 := NB157_166.out
          have hnc99 := NB166_157.out
          have hcz100_0 : wr.cell? ⟨gb157, 0, none⟩ = some (u158000) := (blk_cell BK157.out 0).trans rfl
          have hfz100_0 := blk_frozen BK157.out 0
          have hnb101 := NB166_155.out
          have hnc101 := NB155_166.out
          have hnb102 := NB166_156.out
          have hnc102 := NB156_166.out
          have hcz103_0 : wr.cell? ⟨gb166, 0, none⟩ = some (.string ((rd_T44 l0_0 x4_1).f0)) := (blk_cell BK166.out 0).trans rfl
          have hcz103_1 : wr.cell? ⟨gb166, 1, none⟩ = some (.string ((rd_T44 l0_0 x4_1).f1)) := (blk_cell BK166.out 1).trans rfl
          have hcz103_2 : wr.cell? ⟨gb166, 2, none⟩ = some (.slice Ao27 y163.length co27) := (blk_cell BK166.out 2).trans rfl
          have hcz103_3 : wr.cell? ⟨gb166, 3, none⟩ = some (u167003) := (blk_cell BK166.out 3).trans rfl
          have hfz103_0 := blk_frozen BK166.out 0
          have hfz103_1 := blk_frozen BK166.out 1
          have hfz103_2 := blk_frozen BK166.out 2
          have hfz103_3 := blk_frozen BK166.out 3
          obtain ⟨Ao105, co105, eo105⟩ := Kd.S_slice HO_167003.out
          subst eo105
          go_wp2_with (first | ((with_reducible refine gate_builtin (b := .append) (xs := #[.tmp 77, .tmp 79]) rfl ?_); at_builtin; refine Kd.R_append k35 (w0 := w) w.heap.size rfl (.tmp 77) (.tmp 79) 26 35 (.agg #[(.string ⟨#[]⟩), (.string ⟨#[]⟩), (.slice none 0 0), (.slice none 0 0)]) 80 rfl Try.underlying26 info35 rfl (by decide) (by omega) u158000 x158000_1 (⟨((rd_T44 l0_0 x4_1).f0), ((rd_T44 l0_0 x4_1).f1), y163, x167003_2⟩ : S35) [.string ((rd_T44 l0_0 x4_1).f0), .string ((rd_T44 l0_0 x4_1).f1), .slice Ao27 y163.length co27, .slice Ao105 x167003_2.length co105] (fun k_ => k_ ≠ gb166) (fun k_ => ((fun k_ => k_ ≠ gb166)) k_ ∧ some k_ ≠ (u158000 : Value).ownBlock) rfl rfl ?aP (fun _ hk => hk) ?aF ?aO ?aB ?aS ?aL ?_; (case aP => exact k35_mkM _ _ _ (⟨((rd_T44 l0_0 x4_1).f0), ((rd_T44 l0_0 x4_1).f1), y163, x167003_2⟩ : S35) (Kd.R_mono (Kd.R_types (Kd.R_apart' (HO_167002.out) (Kd.R_typed HO_158000.out) (by decide)) BK166.out (by decide)) (fun k_ hk => ⟨hk.2, hk.1.2⟩)) (Kd.R_mono (Kd.R_types (Kd.R_apart' ((Kd.S_R HO_167003.out)) (Kd.R_typed HO_158000.out) (by decide)) BK166.out (by decide)) (fun k_ hk => ⟨hk.2, hk.1.2⟩))); (case aB => exact (by repeat with_reducible first | exact HB.out | apply below_alloc | apply pw_below_drewN | apply below_drew1 | refine below_set ?_ GE155.out | refine below_set ?_ GE156.out | refine below_set ?_ GE157.out | refine below_set ?_ GE159.out | refine below_set ?_ GE166.out)); (case aF => exact (fun k_ hk => Kd.freshB (g := gb166) (o := .cells #[.string ((rd_T44 l0_0 x4_1).f0), .string ((rd_T44 l0_0 x4_1).f1), .slice Ao27 y163.length co27, .slice Ao105 x167003_2.length co105] 35 (0, 0)) (by (with_reducible repeat first | apply bn | apply bd | apply ba); exact BK166.out) k_ hk)); (case aO => exact (by (with_reducible repeat first | apply Kd.R_alloc | apply Kd.R_drewN | apply Kd.R_drew); exact Kd.R_mono HO_158000.out (fun _ hk => hk.2.2))); (case aS => exact (below_size (by repeat with_reducible first | exact HB.out | apply below_alloc | apply pw_below_drewN | apply below_drew1 | refine below_set ?_ GE155.out | refine below_set ?_ GE156.out | refine below_set ?_ GE157.out | refine below_set ?_ GE159.out | refine below_set ?_ GE166.out))); (case aL => have := LMc91.out; omega); intro v168 w104 ho hb hg hat; rw [← Ny167.out] at ho; have n0_ := Aside0.mk (blk_grown (g := gb155) (o := .cells #[.slice (some ad158) l0_0.length c0_0] 24 (0, 0)) (by (with_reducible repeat first | apply bn | apply bd | apply ba); exact BK155.out) hg (Kd.R_ne HO_158000.out BK155.out (by decide))); have n1_ := Aside0.mk (blk_grown (g := gb156) (o := .cells #[.slice none 0 0] 28 (0, 0)) (by (with_reducible repeat first | apply bn | apply bd | apply ba); exact BK156.out) hg (Kd.R_ne HO_158000.out BK156.out (by decide))); have n2_ := Aside0.mk (blk_grown (g := gb157) (o := .cells #[u158000] 28 (0, 0)) (by (with_reducible repeat first | apply bn | apply bd | apply ba); exact BK157.out) hg (Kd.R_ne HO_158000.out BK157.out (by decide))); have n3_ := Aside0.mk (blk_grown (g := gb159) (o := .cells #[.string ((rd_T44 l0_0 x4_1).f0), .string ((rd_T44 l0_0 x4_1).f1), .slice A158_2 ((rd_T44 l0_0 x4_1).f2).length c158_2, .slice A158_3 ((rd_T44 l0_0 x4_1).f3).length c158_3] 44 (0, 0)) (by (with_reducible repeat first | apply bn | apply bd | apply ba); exact BK159.out) hg (Kd.R_ne HO_158000.out BK159.out (by decide))); have n4_ := Aside0.mk (blk_grown (g := gb166) (o := .cells #[.string ((rd_T44 l0_0 x4_1).f0), .string ((rd_T44 l0_0 x4_1).f1), .slice Ao27 y163.length co27, .slice Ao105 x167003_2.length co105] 35 (0, 0)) (by (with_reducible repeat first | apply bn | apply bd | apply ba); exact BK166.out) hg (Kd.R_away HO_158000.out (fun _ hk => hk.2.2))); have n5_ := Aside0.mk (hb); have n6_ := Aside0.mk (ho); clear BK155; clear BK156; clear BK157; clear BK159; clear BK166; clear HB; clear HO_158000; clear HO_167002; clear HO_167003; have BK155 := n0_; have BK156 := n1_; have BK157 := n2_; have BK159 := n3_; have BK166 := n4_; have HB := n5_; have HO169 := n6_; clear n0_ n1_ n2_ n3_ n4_ n5_ n6_; clear ho hb hg hat; obtain ⟨Ao106, co106, eo106⟩ := Kd.R_slice HO169.out; subst eo106; have hcz107_0 : w104.cell? ⟨gb157, 0, none⟩ = some (u158000) := (blk_cell BK157.out 0).trans rfl; have hfz107_0 := blk_frozen BK157.out 0))
          go_roundg k2
          case measure => have := HK1.out; have := HK2.out; omega
          case rel => exact ⟨(wrap64 (x4_1 + 1)), (y167), (.slice Ao106 y167.length co106), (by first | rfl | (simp; done) | (simp [*]; done)), H', ⟨by have := HK1.out; have := HK2.out; omega⟩, ⟨by (with_reducible repeat first | apply Kd.R_alloc | apply Kd.R_drewN | apply Kd.R_drew); exact Kd.R_mono (Kd.R_far (p := ⟨gb157, 0, none⟩) (Kd.R_types HO169.out BK157.out (by decide)) (fun _ hk => hk.2) (.slice Ao106 y167.length co106)) (fun _ hk => trivial)⟩, ⟨by (with_reducible repeat first | apply bn | apply bd | apply ba); refine blk_far ?_ NB155_157.out _; (with_reducible repeat first | apply bn | apply bd | apply ba); exact BK155.out⟩, ⟨by (with_reducible repeat first | apply bn | apply bd | apply ba); refine blk_far ?_ NB156_157.out _; (with_reducible repeat first | apply bn | apply bd | apply ba); exact BK156.out⟩, ⟨by (with_reducible repeat first | apply bn | apply bd | apply ba); refine blk_put (cs := #[u158000]) ?_ 0 _ rfl; (with_reducible repeat first | apply bn | apply bd | apply ba); exact BK157.out⟩, ⟨by repeat with_reducible first | exact HB.out | apply below_alloc | apply pw_below_drewN | apply below_drew1 | refine below_set ?_ GE155.out | refine below_set ?_ GE156.out | refine below_set ?_ GE157.out | refine below_set ?_ GE159.out | refine below_set ?_ GE166.out⟩⟩
         ·rw [if_neg c91] at H
          exact absurd H (by simp)
     ·rw [if_neg c10] at H
      exact absurd H (by simp)
    ·rw [if_neg c9] at H
     exact absurd H (by simp)
   ·rw [if_neg c8] at H
    have c8b0 : decide (x4_1 < (l0_0.length : Int)) = false := decide_eq_false c8
    clear c8
    obtain rfl := Option.some.inj H
    have hnb108 := NB155_156.out
    have hnc108 := NB156_155.out
    have hnb109 := NB155_157.out
    have hnc109 := NB157_155.out
    have hcz110_0 : wr.cell? ⟨gb155, 0, none⟩ = some (.slice A0_0 l0_0.length c0_0) := (blk_cell BK155.out 0).trans rfl
    have hfz110_0 := blk_frozen BK155.out 0
    have hnb111 := NB157_156.out
    have hnc111 := NB156_157.out
    have hcz112_0 : wr.cell? ⟨gb157, 0, none⟩ = some (u158000) := (blk_cell BK157.out 0).trans rfl
    have hfz112_0 := blk_frozen BK157.out 0
    obtain ⟨Ao113, co113, eo113⟩ := Kd.R_slice HO_158000.out
    subst eo113
    have hcz114_0 : wr.cell? ⟨gb156, 0, none⟩ = some (.slice none 0 0) := (blk_cell BK156.out 0).trans rfl
    have hfz114_0 := blk_frozen BK156.out 0
    go_wp2
    refine bodyPost_ret (results_cell_row rfl _ _ gb156 28 #[.slice Ao113 x158000_1.length co113] (0, 0) _ rfl (by (with_reducible repeat first | apply bn | apply bd | apply ba); refine blk_put (cs := #[.slice none 0 0]) ?_ 0 _ rfl; (with_reducible repeat first | apply bn | apply bd | apply ba); exact BK156.out) Try.underlying28 rfl (by kernel_rfl)) rfl ?_
    exact ⟨_, by first | rfl | (simp [errW_none, errW_some] <;> rfl) | (simp [*, errW_none, errW_some] <;> rfl), by (with_reducible repeat first | apply Kd.R_alloc | apply Kd.R_drewN | apply Kd.R_drew); exact Kd.R_mono (Kd.R_far (p := ⟨gb156, 0, none⟩) (Kd.R_types HO_158000.out BK156.out (by decide)) (fun _ hk => hk.2) (.slice Ao113 x158000_1.length co113)) (fun _ hk => trivial), by repeat with_reducible first | exact HB.out | apply below_alloc | apply pw_below_drewN | apply below_drew1 | refine below_set ?_ GE155.out | refine below_set ?_ GE156.out | refine below_set ?_ GE157.out⟩

end Go.Proofs.Ytkbclcecmcdlfaa.PH
