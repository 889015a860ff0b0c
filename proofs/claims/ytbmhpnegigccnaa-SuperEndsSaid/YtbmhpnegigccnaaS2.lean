/- Printed by a program of this session out of the translation: plain functions with the answers of the Go functions, and the proofs that they have them. -/
import Derived.Test.YtbmhpnegigccnaaS1
namespace Go.Proofs.Ytbmhpnegigccnaa.PS
open Go.RowKit Go.Proofs.YtbmhpnegigccnaaW.PrintWords Go.Proofs.YtbmhpnegigccnaaW.PrintLast Go.Proofs.YtbmhpnegigccnaaW.PrintMore
attribute [local go_sem] max2_int min2_int max_two min_two max_three min_three max_four min_four   -- for this text's walks alone
set_option linter.unusedVariables false
set_option linter.unusedSimpArgs false

/-! ### dataflowref27_nodes: function 11 -/
mutual
def dataflowref27_nodes.l0 : Nat → Int → List (S36) → List (S33) → Int → Option (Int)
 | 0, _, _, _, _ => none
 | k + 1, x3, x112000, x112001, x112002 => if x3 < (x112000.length : Int) then (if 0 ≤ x3 then (if ((rd_T36 x112000 x3).f1) < 1 then (dataflowref27_nodes.j1 k x3 true x112000 x112001 x112002 ((rd_T36 x112000 x3).f0) ((rd_T36 x112000 x3).f1) ((rd_T36 x112000 x3).f2)) else (dataflowref27_nodes.j1 k x3 (decide (((rd_T36 x112000 x3).f1) > 4)) x112000 x112001 x112002 ((rd_T36 x112000 x3).f0) ((rd_T36 x112000 x3).f1) ((rd_T36 x112000 x3).f2))) else (none)) else (dataflowref27_nodes.l1 k 0 x112000 x112001 x112002)
def dataflowref27_nodes.j1 : Nat → Int → Bool → List (S36) → List (S33) → Int → Int → Int → Int → Option (Int)
 | 0, _, _, _, _, _, _, _, _ => none
 | k + 1, x3, x21, x112000, x112001, x112002, x114000, x114001, x114002 => if x21 = true then (some 12) else (if x114000 < 0 then (dataflowref27_nodes.j2 k x3 true x112000 x112001 x112002 x114000 x114001 x114002) else (if x114001 = 2 then (if x114002 < 0 then (dataflowref27_nodes.j2 k x3 true x112000 x112001 x112002 x114000 x114001 x114002) else (dataflowref27_nodes.j2 k x3 false x112000 x112001 x112002 x114000 x114001 x114002)) else (dataflowref27_nodes.j2 k x3 (x114002 != (-1)) x112000 x112001 x112002 x114000 x114001 x114002)))
def dataflowref27_nodes.j2 : Nat → Int → Bool → List (S36) → List (S33) → Int → Int → Int → Int → Option (Int)
 | 0, _, _, _, _, _, _, _, _ => none
 | k + 1, x3, x30, x112000, x112001, x112002, x114000, x114001, x114002 => if x30 = true then (some 4) else (if x3 > 0 then (if 0 ≤ (wrap64 (x3 - 1)) then (if (wrap64 (x3 - 1)) < (x112000.length : Int) then ((dataflowref27_less.f ((rd_T36 x112000 (wrap64 (x3 - 1))).f0) ((rd_T36 x112000 (wrap64 (x3 - 1))).f1) ((rd_T36 x112000 (wrap64 (x3 - 1))).f2) x114000 x114001 x114002).bind fun t115 => (if t115 = true then (dataflowref27_nodes.l0 k (wrap64 (x3 + 1)) x112000 x112001 x112002) else (some 13))) else (none)) else (none)) else (dataflowref27_nodes.l0 k (wrap64 (x3 + 1)) x112000 x112001 x112002))
def dataflowref27_nodes.l1 : Nat → Int → List (S36) → List (S33) → Int → Option (Int)
 | 0, _, _, _, _ => none
 | k + 1, x5, x112000, x112001, x112002 => if x5 < (x112000.length : Int) then (if 0 ≤ x5 then ((dataflowref27_Exit.f k x112000 x112001 x112002 ((rd_T36 x112000 x5).f0)).bind fun bt118 => ((dataflowref27_Start.f k x112000 x112001 x112002 ((rd_T36 x112000 x5).f0)).bind fun t120 => (if t120 < 0 then (some 1) else (if bt118.1 < 0 then (some 1) else (if bt118.2 < 0 then (some 1) else (dataflowref27_nodes.l1 k (wrap64 (x5 + 1)) x112000 x112001 x112002)))))) else (none)) else (if x112002 < 0 then (some 14) else (if x112002 ≥ (x112000.length : Int) then (some 14) else (if 0 ≤ x112002 then (if x112002 < (x112000.length : Int) then (if ((rd_T36 x112000 x112002).f1) = 1 then (some 0) else (some 14)) else (none)) else (none))))
end
def dataflowref27_nodes.f (k : Nat) (l0_0 : List (S36)) (l0_1 : List (S33)) (a0_2 : Int) : Option (Int) := dataflowref27_nodes.l0 k 0 l0_0 l0_1 a0_2
theorem dataflowref27_nodes.mono_l : ∀ k, (∀ y0 y1 y2 y3, LeO (dataflowref27_nodes.l0 k y0 y1 y2 y3) (dataflowref27_nodes.l0 (k + 1) y0 y1 y2 y3)) ∧ (∀ y0 y1 y2 y3 y4 y5 y6 y7, LeO (dataflowref27_nodes.j1 k y0 y1 y2 y3 y4 y5 y6 y7) (dataflowref27_nodes.j1 (k + 1) y0 y1 y2 y3 y4 y5 y6 y7)) ∧ (∀ y0 y1 y2 y3 y4 y5 y6 y7, LeO (dataflowref27_nodes.j2 k y0 y1 y2 y3 y4 y5 y6 y7) (dataflowref27_nodes.j2 (k + 1) y0 y1 y2 y3 y4 y5 y6 y7)) ∧ (∀ y0 y1 y2 y3, LeO (dataflowref27_nodes.l1 k y0 y1 y2 y3) (dataflowref27_nodes.l1 (k + 1) y0 y1 y2 y3))
 | 0 => ⟨fun _ _ _ _ r h => by simp [dataflowref27_nodes.l0] at h, fun _ _ _ _ _ _ _ _ r h => by simp [dataflowref27_nodes.j1] at h, fun _ _ _ _ _ _ _ _ r h => by simp [dataflowref27_nodes.j2] at h, fun _ _ _ _ r h => by simp [dataflowref27_nodes.l1] at h⟩
 | k + 1 => by
  obtain ⟨ih0, ih1, ih2, ih3⟩ := dataflowref27_nodes.mono_l k
  refine ⟨?_, ?_, ?_, ?_⟩
  ·intro y0 y1 y2 y3
   unfold dataflowref27_nodes.l0
   repeat' first
   | (with_reducible exact ih0 _ _ _ _)
   | (with_reducible exact ih1 _ _ _ _ _ _ _ _)
   | (with_reducible exact ih2 _ _ _ _ _ _ _ _)
   | (with_reducible exact ih3 _ _ _ _)
   | (with_reducible exact dataflowref27_Exit.mono _ _ _ _ _)
   | (with_reducible exact dataflowref27_Start.mono _ _ _ _ _)
   | (with_reducible exact LeO.refl _)
   | (with_reducible exact LeO.none _)
   | (with_reducible refine LeO.ite ?_ ?_)
   | (with_reducible refine LeO.bind ?_ (fun _ => ?_))
   | exact ih0 _ _ _ _
   | exact ih1 _ _ _ _ _ _ _ _
   | exact ih2 _ _ _ _ _ _ _ _
   | exact ih3 _ _ _ _
   | exact dataflowref27_Exit.mono _ _ _ _ _
   | exact dataflowref27_Start.mono _ _ _ _ _
   | exact LeO.none _
   | refine LeO.ite ?_ ?_
   | refine LeO.bind ?_ (fun _ => ?_)
  ·intro y0 y1 y2 y3 y4 y5 y6 y7
   unfold dataflowref27_nodes.j1
   repeat' first
   | (with_reducible exact ih0 _ _ _ _)
   | (with_reducible exact ih1 _ _ _ _ _ _ _ _)
   | (with_reducible exact ih2 _ _ _ _ _ _ _ _)
   | (with_reducible exact ih3 _ _ _ _)
   | (with_reducible exact dataflowref27_Exit.mono _ _ _ _ _)
   | (with_reducible exact dataflowref27_Start.mono _ _ _ _ _)
   | (with_reducible exact LeO.refl _)
   | (with_reducible exact LeO.none _)
   | (with_reducible refine LeO.ite ?_ ?_)
   | (with_reducible refine LeO.bind ?_ (fun _ => ?_))
   | exact ih0 _ _ _ _
   | exact ih1 _ _ _ _ _ _ _ _
   | exact ih2 _ _ _ _ _ _ _ _
   | exact ih3 _ _ _ _
   | exact dataflowref27_Exit.mono _ _ _ _ _
   | exact dataflowref27_Start.mono _ _ _ _ _
   | exact LeO.none _
   | refine LeO.ite ?_ ?_
   | refine LeO.bind ?_ (fun _ => ?_)
  ·intro y0 y1 y2 y3 y4 y5 y6 y7
   unfold dataflowref27_nodes.j2
   repeat' first
   | (with_reducible exact ih0 _ _ _ _)
   | (with_reducible exact ih1 _ _ _ _ _ _ _ _)
   | (with_reducible exact ih2 _ _ _ _ _ _ _ _)
   | (with_reducible exact ih3 _ _ _ _)
   | (with_reducible exact dataflowref27_Exit.mono _ _ _ _ _)
   | (with_reducible exact dataflowref27_Start.mono _ _ _ _ _)
   | (with_reducible exact LeO.refl _)
   | (with_reducible exact LeO.none _)
   | (with_reducible refine LeO.ite ?_ ?_)
   | (with_reducible refine LeO.bind ?_ (fun _ => ?_))
   | exact ih0 _ _ _ _
   | exact ih1 _ _ _ _ _ _ _ _
   | exact ih2 _ _ _ _ _ _ _ _
   | exact ih3 _ _ _ _
   | exact dataflowref27_Exit.mono _ _ _ _ _
   | exact dataflowref27_Start.mono _ _ _ _ _
   | exact LeO.none _
   | refine LeO.ite ?_ ?_
   | refine LeO.bind ?_ (fun _ => ?_)
  ·intro y0 y1 y2 y3
   unfold dataflowref27_nodes.l1
   repeat' first
   | (with_reducible exact ih0 _ _ _ _)
   | (with_reducible exact ih1 _ _ _ _ _ _ _ _)
   | (with_reducible exact ih2 _ _ _ _ _ _ _ _)
   | (with_reducible exact ih3 _ _ _ _)
   | (with_reducible exact dataflowref27_Exit.mono _ _ _ _ _)
   | (with_reducible exact dataflowref27_Start.mono _ _ _ _ _)
   | (with_reducible exact LeO.refl _)
   | (with_reducible exact LeO.none _)
   | (with_reducible refine LeO.ite ?_ ?_)
   | (with_reducible refine LeO.bind ?_ (fun _ => ?_))
   | exact ih0 _ _ _ _
   | exact ih1 _ _ _ _ _ _ _ _
   | exact ih2 _ _ _ _ _ _ _ _
   | exact ih3 _ _ _ _
   | exact dataflowref27_Exit.mono _ _ _ _ _
   | exact dataflowref27_Start.mono _ _ _ _ _
   | exact LeO.none _
   | refine LeO.ite ?_ ?_
   | refine LeO.bind ?_ (fun _ => ?_)
theorem dataflowref27_nodes.mono : ∀ a0 a1 a2 k, LeO (dataflowref27_nodes.f k a0 a1 a2) (dataflowref27_nodes.f (k + 1) a0 a1 a2) := by
 intro a0 a1 a2 k
 obtain ⟨ih0, ih1, ih2, ih3⟩ := dataflowref27_nodes.mono_l k
 unfold dataflowref27_nodes.f
 repeat' first
   | (with_reducible exact ih0 _ _ _ _)
   | (with_reducible exact ih1 _ _ _ _ _ _ _ _)
   | (with_reducible exact ih2 _ _ _ _ _ _ _ _)
   | (with_reducible exact ih3 _ _ _ _)
   | (with_reducible exact dataflowref27_Exit.mono _ _ _ _ _)
   | (with_reducible exact dataflowref27_Start.mono _ _ _ _ _)
   | (with_reducible exact LeO.refl _)
   | (with_reducible exact LeO.none _)
   | (with_reducible refine LeO.ite ?_ ?_)
   | (with_reducible refine LeO.bind ?_ (fun _ => ?_))
   | exact ih0 _ _ _ _
   | exact ih1 _ _ _ _ _ _ _ _
   | exact ih2 _ _ _ _ _ _ _ _
   | exact ih3 _ _ _ _
   | exact dataflowref27_Exit.mono _ _ _ _ _
   | exact dataflowref27_Start.mono _ _ _ _ _
   | exact LeO.none _
   | refine LeO.ite ?_ ?_
   | refine LeO.bind ?_ (fun _ => ?_)
def dataflowref27_nodes.T9 : Bool × List (List Nat × List Nat) := (true, [([], []), ([0], [0]), ([1], [1]), ([2], [2]), ([3, 2], [2, 3]), ([2], [2]), ([5, 2], [2, 5]), ([4, 6, 2], [2, 4, 6]), ([7, 2], [2, 7]), ([2], [2]), ([8, 9, 2, 2], [2, 8, 9]), ([10, 2], [2, 10]), ([2, 11], [2, 11]), ([12, 10], [12])])
def dataflowref27_nodes.B9 : List Nat := [0, 1, 3, 7, 15, 7, 39, 127, 255, 7, 1023, 2047, 4095, 8191]
theorem dataflowref27_nodes.tab9 : rtab .any (opsOf Try.f11 9) = dataflowref27_nodes.T9 := by kernel_rfl
theorem dataflowref27_nodes.bits9 : waitsOk dataflowref27_nodes.T9.2 dataflowref27_nodes.B9 = true := by kernel_rfl
set_option maxHeartbeats 8000000 in
set_option maxRecDepth 100000 in
theorem dataflowref27_nodes.calls (k : Nat) (A0_0 : Option Addr) (c0_0 : Nat) (l0_0 : List (S36)) (A0_1 : Option Addr) (c0_1 : Nat) (l0_1 : List (S33)) (a0_2 : Int) (r : Int) (w : World) (hr0_0 : Kd.C k36 w A0_0 l0_0.length l0_0) (hc0_0 : l0_0.length ≤ c0_0) (hr0_1 : Kd.C k33 w A0_1 l0_1.length l0_1) (hc0_1 : l0_1.length ≤ c0_1) (h : dataflowref27_nodes.f k l0_0 l0_1 a0_2 = some r) :
  Calls Try.prog 11 #[.agg #[.slice A0_0 l0_0.length c0_0, .slice A0_1 l0_1.length c0_1, .int .i64 a0_2]] w fun e w' => e = .returned (.int .i64 r) ∧ Below w.heap.size w w' := by
 have hu25 := Try.underlying25
 have hu36 := Try.underlying36
 have HR0_0 := Aside0.mk hr0_0
 have HC0_0 := Aside0.mk hc0_0
 clear hr0_0 hc0_0
 have HR0_1 := Aside0.mk hr0_1
 have HC0_1 := Aside0.mk hc0_1
 clear hr0_1 hc0_1
 have HB := Aside0.mk (Below.refl w.heap.size w)
 have H : (dataflowref27_nodes.l0 k 0 l0_0 l0_1 a0_2) = some r := h
 clear h
 have H' := Aside0.mk H
 clear H
 go_enter Try.func11, Try.ntmps11
 go_wp2_with (first | ((with_reducible refine gate_dst (N := 1) rfl ?_); (try (refine gate_guard (by rfl) ?_; dsimp only)); refine box_event ?hg (N := 1) ?hd (cs := #[.slice A0_0 l0_0.length c0_0, .slice A0_1 l0_1.length c0_1, .int .i64 a0_2]) (t := 25) ?hr ?_; (case hd => rfl); (case hg => rfl); (case hr => first | (go_simp; done) | (go_simp; rfl)); intro gb111 hg w2 hbox hb; have n0_ := Aside0.mk (below_step (by repeat with_reducible first | exact HB.out | apply below_alloc | apply pw_below_drewN | apply below_drew1) hb); have n1_ := Aside0.mk (hbox); have n2_ := Aside0.mk ((by rw [hg]; exact (below_size (by repeat with_reducible first | exact HB.out | apply below_alloc | apply pw_below_drewN | apply below_drew1)) : w.heap.size ≤ gb111)); have n3_ := Aside0.mk ((by rw [hg]; exact (below_size (by repeat with_reducible first | exact HB.out | apply below_alloc | apply pw_below_drewN | apply below_drew1)) : w.heap.size ≤ gb111)); clear HB; have HB := n0_; have BK111 := n1_; have GW111 := n2_; have GE111 := n3_; clear n0_ n1_ n2_ n3_; clear hb hbox hg))
 go_loopg [3] k (fun kq v3 w' => ∃ (x3_1 : Int), v3 = .int .i64 x3_1 ∧ Aside0 (dataflowref27_nodes.l0 kq x3_1 l0_0 l0_1 a0_2 = some r) ∧ Aside0 (kq ≤ k) ∧ Aside0 (w'.heap[gb111]? = some (.cells #[(.slice A0_0 l0_0.length c0_0), (.slice A0_1 l0_1.length c0_1), .int .i64 a0_2] 25 (0, 0))) ∧ Aside0 (Below w.heap.size w w'))
 case atStart => exact ⟨(0), (by first | rfl | (simp; done) | (simp [*]; done)), H', ⟨Nat.le_refl _⟩, ⟨by (with_reducible repeat first | apply bn | apply bd | apply ba); exact BK111.out⟩, ⟨by repeat with_reducible first | exact HB.out | apply below_alloc | apply pw_below_drewN | apply below_drew1 | refine below_set ?_ GE111.out⟩⟩
 case round =>
  clear H'
  (try clear c1);(try clear p2)
  obtain ⟨x3_1, rfl, HA, HK1, BK111, HB⟩ := hrel
  cases gk with
  | zero => exact absurd HA.out (by simp [dataflowref27_nodes.l0])
  | succ k1 =>
   have H := HA.out
   clear HA
   simp only [dataflowref27_nodes.l0] at H
   by_cases c3 : x3_1 < (l0_0.length : Int)
   ·rw [if_pos c3] at H
    have c3b0 : decide (x3_1 < (l0_0.length : Int)) = true := decide_eq_true c3
    clear c3
    by_cases c4 : 0 ≤ x3_1
    ·rw [if_pos c4] at H
     have c4b0 : decide (0 ≤ x3_1) = true := decide_eq_true c4
     clear c4
     have HC5 := Aside0.mk H
     clear H
     have hcz6_0 : wr.cell? ⟨gb111, 0, none⟩ = some (.slice A0_0 l0_0.length c0_0) := (blk_cell BK111.out 0).trans rfl
     have hcz6_1 : wr.cell? ⟨gb111, 1, none⟩ = some (.slice A0_1 l0_1.length c0_1) := (blk_cell BK111.out 1).trans rfl
     have hcz6_2 : wr.cell? ⟨gb111, 2, none⟩ = some (.int .i64 a0_2) := (blk_cell BK111.out 2).trans rfl
     have hfz6_0 := blk_frozen BK111.out 0
     have hfz6_1 := blk_frozen BK111.out 1
     have hfz6_2 := blk_frozen BK111.out 2
     have p112 : 0 ≤ (x3_1 : Int) := of_decide_eq_true (by first | (with_reducible assumption) | assumption)
     have q112 : x3_1 < (l0_0.length : Int) := of_decide_eq_true (by first | (with_reducible assumption) | assumption)
     obtain ⟨ad112, e112, hx112_0, hx112_1, hx112_2⟩ := at_T36 HR0_0.out x3_1 p112 q112
     cases e112
     replace hx112_0 := (HB.out.cell (World.block_lt_of_cell? w _ hx112_0)).trans hx112_0
     replace hx112_1 := (HB.out.cell (World.block_lt_of_cell? w _ hx112_1)).trans hx112_1
     replace hx112_2 := (HB.out.cell (World.block_lt_of_cell? w _ hx112_2)).trans hx112_2
     replace p112 := eq_true p112
     replace q112 := eq_true q112
     go_upto_region 5 with (first | ((with_reducible refine gate_dst (N := 4) rfl ?_); (try (refine gate_guard (by rfl) ?_; dsimp only)); refine box_event ?hg (N := 4) ?hd (cs := #[.int .i64 0, .int .i64 0, .int .i64 0]) (t := 36) ?hr ?_; (case hd => rfl); (case hg => rfl); (case hr => first | (go_simp; done) | (go_simp; rfl)); intro gb113 hg w7 hbox hb; have n0_ := Aside0.mk (blk_below (g := gb111) (o := .cells #[.slice (some ad112) l0_0.length c0_0, .slice A0_1 l0_1.length c0_1, .int .i64 a0_2] 25 (0, 0)) (by (with_reducible repeat first | apply bn | apply bd | apply ba); exact BK111.out) hb); have n1_ := Aside0.mk (below_step (by repeat with_reducible first | exact HB.out | apply below_alloc | apply pw_below_drewN | apply below_drew1 | refine below_set ?_ GE111.out) hb); have n2_ := Aside0.mk (hbox); have n3_ := Aside0.mk ((by rw [hg]; exact (below_size (by repeat with_reducible first | exact HB.out | apply below_alloc | apply pw_below_drewN | apply below_drew1 | refine below_set ?_ GE111.out)) : w.heap.size ≤ gb113)); have n4_ := Aside0.mk ((by rw [hg]; exact (below_size (by repeat with_reducible first | exact HB.out | apply below_alloc | apply pw_below_drewN | apply below_drew1 | refine below_set ?_ GE111.out)) : w.heap.size ≤ gb113)); have n5_ := Aside0.mk ((by rw [hg]; exact Nat.ne_of_lt (blk_lt (g := gb111) (o := .cells #[.slice (some ad112) l0_0.length c0_0, .slice A0_1 l0_1.length c0_1, .int .i64 a0_2] 25 (0, 0)) (by (with_reducible repeat first | apply bn | apply bd | apply ba); exact BK111.out)) : gb111 ≠ gb113)); have n6_ := Aside0.mk ((by rw [hg]; exact Nat.ne_of_gt (blk_lt (g := gb111) (o := .cells #[.slice (some ad112) l0_0.length c0_0, .slice A0_1 l0_1.length c0_1, .int .i64 a0_2] 25 (0, 0)) (by (with_reducible repeat first | apply bn | apply bd | apply ba); exact BK111.out)) : gb113 ≠ gb111)); clear BK111; clear HB; have BK111 := n0_; have HB := n1_; have BK113 := n2_; have GW113 := n3_; have GE113 := n4_; have NB111_113 := n5_; have NB113_111 := n6_; clear n0_ n1_ n2_ n3_ n4_ n5_ n6_; clear hb hbox hg; have hnb8 := NB113_111.out; have hnc8 := NB111_113.out; have hcz9_0 : w7.cell? ⟨gb113, 0, none⟩ = some (.int .i64 0) := (blk_cell BK113.out 0).trans rfl; have hcz9_1 : w7.cell? ⟨gb113, 1, none⟩ = some (.int .i64 0) := (blk_cell BK113.out 1).trans rfl; have hcz9_2 : w7.cell? ⟨gb113, 2, none⟩ = some (.int .i64 0) := (blk_cell BK113.out 2).trans rfl; have hfz9_0 := blk_frozen BK113.out 0; have hfz9_1 := blk_frozen BK113.out 1; have hfz9_2 := blk_frozen BK113.out 2))
     (try simp only [Act.put, List.setIfInBounds_toArray, List.set_cons_zero, List.set_cons_succ])
     go_cut [21] (fun v21 wc => ∃ (kq : Nat) (x21_4 : Bool), v21 = .bool x21_4 ∧ Aside0 (dataflowref27_nodes.j1 kq x3_1 x21_4 l0_0 l0_1 a0_2 ((rd_T36 l0_0 x3_1).f0) ((rd_T36 l0_0 x3_1).f1) ((rd_T36 l0_0 x3_1).f2) = some r) ∧ Aside0 (kq ≤ k1) ∧ Aside0 (wc.heap[gb111]? = some (.cells #[(.slice (some ad112) l0_0.length c0_0), (.slice A0_1 l0_1.length c0_1), .int .i64 a0_2] 25 (0, 0))) ∧ Aside0 (wc.heap[gb113]? = some (.cells #[.int .i64 ((rd_T36 l0_0 x3_1).f0), .int .i64 ((rd_T36 l0_0 x3_1).f1), .int .i64 ((rd_T36 l0_0 x3_1).f2)] 36 (0, 0))) ∧ Aside0 (Below w.heap.size w wc))
     case first =>
      have H := HC5.out
      clear HC5
      by_cases c10 : ((rd_T36 l0_0 x3_1).f1) < 1
      ·rw [if_pos c10] at H
       have c10b0 : decide (((rd_T36 l0_0 x3_1).f1) < 1) = true := decide_eq_true c10
       clear c10
       (first | rw [c10b0] | (simp only [i64_w, i32_w]; rw [c10b0]) | skip)
       have H' := Aside0.mk H
       clear H
       have hnb11 := NB113_111.out
       have hnc11 := NB111_113.out
       have hcz12_0 : w7.cell? ⟨gb113, 0, none⟩ = some (.int .i64 0) := (blk_cell BK113.out 0).trans rfl
       have hcz12_1 : w7.cell? ⟨gb113, 1, none⟩ = some (.int .i64 0) := (blk_cell BK113.out 1).trans rfl
       have hcz12_2 : w7.cell? ⟨gb113, 2, none⟩ = some (.int .i64 0) := (blk_cell BK113.out 2).trans rfl
       have hfz12_0 := blk_frozen BK113.out 0
       have hfz12_1 := blk_frozen BK113.out 1
       have hfz12_2 := blk_frozen BK113.out 2
       go_wp2
       go_meet
       case rel => exact ⟨_, (true), (by first | rfl | (simp; done) | (simp [*]; done)), H', ⟨by have := HK1.out; first | omega | exact Nat.le_refl _⟩, ⟨by (with_reducible repeat first | apply bn | apply bd | apply ba); refine blk_far ?_ NB111_113.out _; refine blk_far ?_ NB111_113.out _; refine blk_far ?_ NB111_113.out _; (with_reducible repeat first | apply bn | apply bd | apply ba); exact BK111.out⟩, ⟨by (with_reducible repeat first | apply bn | apply bd | apply ba); refine blk_put (cs := #[.int .i64 ((rd_T36 l0_0 x3_1).f0), .int .i64 ((rd_T36 l0_0 x3_1).f1), .int .i64 0]) ?_ 2 _ rfl; refine blk_put (cs := #[.int .i64 ((rd_T36 l0_0 x3_1).f0), .int .i64 0, .int .i64 0]) ?_ 1 _ rfl; refine blk_put (cs := #[.int .i64 0, .int .i64 0, .int .i64 0]) ?_ 0 _ rfl; (with_reducible repeat first | apply bn | apply bd | apply ba); exact BK113.out⟩, ⟨by repeat with_reducible first | exact HB.out | apply below_alloc | apply pw_below_drewN | apply below_drew1 | refine below_set ?_ GE111.out | refine below_set ?_ GE113.out⟩⟩
      ·rw [if_neg c10] at H
       have c10b0 : decide (((rd_T36 l0_0 x3_1).f1) < 1) = false := decide_eq_false c10
       clear c10
       (first | rw [c10b0] | (simp only [i64_w, i32_w]; rw [c10b0]) | skip)
       have H' := Aside0.mk H
       clear H
       have hnb13 := NB113_111.out
       have hnc13 := NB111_113.out
       have hcz14_0 : w7.cell? ⟨gb113, 0, none⟩ = some (.int .i64 0) := (blk_cell BK113.out 0).trans rfl
       have hcz14_1 : w7.cell? ⟨gb113, 1, none⟩ = some (.int .i64 0) := (blk_cell BK113.out 1).trans rfl
       have hcz14_2 : w7.cell? ⟨gb113, 2, none⟩ = some (.int .i64 0) := (blk_cell BK113.out 2).trans rfl
       have hfz14_0 := blk_frozen BK113.out 0
       have hfz14_1 := blk_frozen BK113.out 1
       have hfz14_2 := blk_frozen BK113.out 2
       go_wp2
       go_meet
       case rel => exact ⟨_, (decide (((rd_T36 l0_0 x3_1).f1) > 4)), (by first | rfl | (simp; done) | (simp [*]; done)), H', ⟨by have := HK1.out; first | omega | exact Nat.le_refl _⟩, ⟨by (with_reducible repeat first | apply bn | apply bd | apply ba); refine blk_far ?_ NB111_113.out _; refine blk_far ?_ NB111_113.out _; refine blk_far ?_ NB111_113.out _; (with_reducible repeat first | apply bn | apply bd | apply ba); exact BK111.out⟩, ⟨by (with_reducible repeat first | apply bn | apply bd | apply ba); refine blk_put (cs := #[.int .i64 ((rd_T36 l0_0 x3_1).f0), .int .i64 ((rd_T36 l0_0 x3_1).f1), .int .i64 0]) ?_ 2 _ rfl; refine blk_put (cs := #[.int .i64 ((rd_T36 l0_0 x3_1).f0), .int .i64 0, .int .i64 0]) ?_ 1 _ rfl; refine blk_put (cs := #[.int .i64 0, .int .i64 0, .int .i64 0]) ?_ 0 _ rfl; (with_reducible repeat first | apply bn | apply bd | apply ba); exact BK113.out⟩, ⟨by repeat with_reducible first | exact HB.out | apply below_alloc | apply pw_below_drewN | apply below_drew1 | refine below_set ?_ GE111.out | refine below_set ?_ GE113.out⟩⟩
     case rest =>
      clear HC5
      (try clear c1);(try clear p1);(try clear q1);(try clear hx1);(try clear p2);(try clear c3);(try clear c3b0);(try clear c4);(try clear c4b0);(try clear c8);(try clear c10);(try clear c10b0);(try clear c11);(try clear p11);(try clear q11);(try clear hx11);(try clear c13);(try clear hcz12_0);(try clear hcz12_1);(try clear hcz12_2);(try clear hcz14_0);(try clear hcz14_1);(try clear hcz14_2);(try clear hcz6_0);(try clear hcz6_1);(try clear hcz6_2);(try clear hcz9_0);(try clear hcz9_1);(try clear hcz9_2);(try clear hfz12_0);(try clear hfz12_1);(try clear hfz12_2);(try clear hfz14_0);(try clear hfz14_1);(try clear hfz14_2);(try clear hfz6_0);(try clear hfz6_1);(try clear hfz6_2);(try clear hfz9_0);(try clear hfz9_1);(try clear hfz9_2);(try clear hx112_0);(try clear hx112_1);(try clear hx112_2);(try clear p112);(try clear p2);(try clear q112)
      obtain ⟨kq, x21_4, rfl, HA, HJ4, BK111, BK113, HB⟩ := hcut
      cases kq with
      | zero => exact absurd HA.out (by simp [dataflowref27_nodes.j1])
      | succ kj4 =>
       have H := HA.out
       clear HA
       simp only [dataflowref27_nodes.j1] at H
       by_cases c15 : x21_4 = true
       ·subst c15
        have H1 : (some 12) = some r := by rw [if_pos rfl] at H; exact H
        clear H
        have H := H1
        clear H1
        obtain rfl := Option.some.inj H
        go_wp2
        go_ret
        exact ⟨by first | rfl | (simp [errW_none, errW_some] <;> rfl) | (simp [*, errW_none, errW_some] <;> rfl), by repeat with_reducible first | exact HB.out | apply below_alloc | apply pw_below_drewN | apply below_drew1 | refine below_set ?_ GE111.out | refine below_set ?_ GE113.out⟩
       ·replace c15 := Bool.eq_false_iff.mpr c15
        subst c15
        have H1 : (if ((rd_T36 l0_0 x3_1).f0) < 0 then (dataflowref27_nodes.j2 kj4 x3_1 true l0_0 l0_1 a0_2 ((rd_T36 l0_0 x3_1).f0) ((rd_T36 l0_0 x3_1).f1) ((rd_T36 l0_0 x3_1).f2)) else (if ((rd_T36 l0_0 x3_1).f1) = 2 then (if ((rd_T36 l0_0 x3_1).f2) < 0 then (dataflowref27_nodes.j2 kj4 x3_1 true l0_0 l0_1 a0_2 ((rd_T36 l0_0 x3_1).f0) ((rd_T36 l0_0 x3_1).f1) ((rd_T36 l0_0 x3_1).f2)) else (dataflowref27_nodes.j2 kj4 x3_1 false l0_0 l0_1 a0_2 ((rd_T36 l0_0 x3_1).f0) ((rd_T36 l0_0 x3_1).f1) ((rd_T36 l0_0 x3_1).f2))) else (dataflowref27_nodes.j2 kj4 x3_1 (((rd_T36 l0_0 x3_1).f2) != (-1)) l0_0 l0_1 a0_2 ((rd_T36 l0_0 x3_1).f0) ((rd_T36 l0_0 x3_1).f1) ((rd_T36 l0_0 x3_1).f2)))) = some r := by rw [if_neg (show ¬ (false = true) by decide)] at H; exact H
        clear H
        have H := H1
        clear H1
        have HC16 := Aside0.mk H
        clear H
        go_upto_region 7 with (fail)
        go_cut [30] (fun v30 wc => ∃ (kq : Nat) (x30_15 : Bool), v30 = .bool x30_15 ∧ Aside0 (dataflowref27_nodes.j2 kq x3_1 x30_15 l0_0 l0_1 a0_2 ((rd_T36 l0_0 x3_1).f0) ((rd_T36 l0_0 x3_1).f1) ((rd_T36 l0_0 x3_1).f2) = some r) ∧ Aside0 (kq ≤ kj4) ∧ Aside0 (wc.heap[gb111]? = some (.cells #[(.slice (some ad112) l0_0.length c0_0), (.slice A0_1 l0_1.length c0_1), .int .i64 a0_2] 25 (0, 0))) ∧ Aside0 (wc.heap[gb113]? = some (.cells #[.int .i64 ((rd_T36 l0_0 x3_1).f0), .int .i64 ((rd_T36 l0_0 x3_1).f1), .int .i64 ((rd_T36 l0_0 x3_1).f2)] 36 (0, 0))) ∧ Aside0 (Below w.heap.size w wc))
        case first =>
         have H := HC16.out
         clear HC16
         by_cases c17 : ((rd_T36 l0_0 x3_1).f0) < 0
         ·rw [if_pos c17] at H
          have c17b0 : decide (((rd_T36 l0_0 x3_1).f0) < 0) = true := decide_eq_true c17
          clear c17
          (first | rw [c17b0] | (simp only [i64_w, i32_w]; rw [c17b0]) | skip)
          have H' := Aside0.mk H
          clear H
          have hnb18 := NB113_111.out
          have hnc18 := NB111_113.out
          have hcz19_0 : wc.cell? ⟨gb113, 0, none⟩ = some (.int .i64 ((rd_T36 l0_0 x3_1).f0)) := (blk_cell BK113.out 0).trans rfl
          have hcz19_1 : wc.cell? ⟨gb113, 1, none⟩ = some (.int .i64 ((rd_T36 l0_0 x3_1).f1)) := (blk_cell BK113.out 1).trans rfl
          have hcz19_2 : wc.cell? ⟨gb113, 2, none⟩ = some (.int .i64 ((rd_T36 l0_0 x3_1).f2)) := (blk_cell BK113.out 2).trans rfl
          have hfz19_0 := blk_frozen BK113.out 0
          have hfz19_1 := blk_frozen BK113.out 1
          have hfz19_2 := blk_frozen BK113.out 2
          go_wp2
          go_meet
          case rel => exact ⟨_, (true), (by first | rfl | (simp; done) | (simp [*]; done)), H', ⟨by have := HK1.out; have := HJ4.out; first | omega | exact Nat.le_refl _⟩, ⟨by (with_reducible repeat first | apply bn | apply bd | apply ba); exact BK111.out⟩, ⟨by (with_reducible repeat first | apply bn | apply bd | apply ba); exact BK113.out⟩, ⟨by repeat with_reducible first | exact HB.out | apply below_alloc | apply pw_below_drewN | apply below_drew1 | refine below_set ?_ GE111.out | refine below_set ?_ GE113.out⟩⟩
         ·rw [if_neg c17] at H
          have c17b0 : decide (((rd_T36 l0_0 x3_1).f0) < 0) = false := decide_eq_false c17
          clear c17
          (first | rw [c17b0] | (simp only [i64_w, i32_w]; rw [c17b0]) | skip)
          by_cases c20 : ((rd_T36 l0_0 x3_1).f1) = 2
          ·rw [if_pos c20] at H
           have c20b0 : (((rd_T36 l0_0 x3_1).f1) == 2) = true := beq_iff_eq.mpr c20
           have c20b1 : (((rd_T36 l0_0 x3_1).f1) != 2) = false := bne_eq_false_iff_eq.mpr c20
           clear c20
           by_cases c21 : ((rd_T36 l0_0 x3_1).f2) < 0
           ·rw [if_pos c21] at H
            have c21b0 : decide (((rd_T36 l0_0 x3_1).f2) < 0) = true := decide_eq_true c21
            clear c21
            have H' := Aside0.mk H
            clear H
            have hnb22 := NB113_111.out
            have hnc22 := NB111_113.out
            have hcz23_0 : wc.cell? ⟨gb113, 0, none⟩ = some (.int .i64 ((rd_T36 l0_0 x3_1).f0)) := (blk_cell BK113.out 0).trans rfl
            have hcz23_1 : wc.cell? ⟨gb113, 1, none⟩ = some (.int .i64 ((rd_T36 l0_0 x3_1).f1)) := (blk_cell BK113.out 1).trans rfl
            have hcz23_2 : wc.cell? ⟨gb113, 2, none⟩ = some (.int .i64 ((rd_T36 l0_0 x3_1).f2)) := (blk_cell BK113.out 2).trans rfl
            have hfz23_0 := blk_frozen BK113.out 0
            have hfz23_1 := blk_frozen BK113.out 1
            have hfz23_2 := blk_frozen BK113.out 2
            go_wp2
            go_meet
            case rel => exact ⟨_, (true), (by first | rfl | (simp; done) | (simp [*]; done)), H', ⟨by have := HK1.out; have := HJ4.out; first | omega | exact Nat.le_refl _⟩, ⟨by (with_reducible repeat first | apply bn | apply bd | apply ba); exact BK111.out⟩, ⟨by (with_reducible repeat first | apply bn | apply bd | apply ba); exact BK113.out⟩, ⟨by repeat with_reducible first | exact HB.out | apply below_alloc | apply pw_below_drewN | apply below_drew1 | refine below_set ?_ GE111.out | refine below_set ?_ GE113.out⟩⟩
           ·rw [if_neg c21] at H
            have c21b0 : decide (((rd_T36 l0_0 x3_1).f2) < 0) = false := decide_eq_false c21
            clear c21
            have H' := Aside0.mk H
            clear H
            have hnb24 := NB113_111.out
            have hnc24 := NB111_113.out
            have hcz25_0 : wc.cell? ⟨gb113, 0, none⟩ = some (.int .i64 ((rd_T36 l0_0 x3_1).f0)) := (blk_cell BK113.out 0).trans rfl
            have hcz25_1 : wc.cell? ⟨gb113, 1, none⟩ = some (.int .i64 ((rd_T36 l0_0 x3_1).f1)) := (blk_cell BK113.out 1).trans rfl
            have hcz25_2 : wc.cell? ⟨gb113, 2, none⟩ = some (.int .i64 ((rd_T36 l0_0 x3_1).f2)) := (blk_cell BK113.out 2).trans rfl
            have hfz25_0 := blk_frozen BK113.out 0
            have hfz25_1 := blk_frozen BK113.out 1
            have hfz25_2 := blk_frozen BK113.out 2
            go_wp2
            go_meet
            case rel => exact ⟨_, (false), (by first | rfl | (simp; done) | (simp [*]; done)), H', ⟨by have := HK1.out; have := HJ4.out; first | omega | exact Nat.le_refl _⟩, ⟨by (with_reducible repeat first | apply bn | apply bd | apply ba); exact BK111.out⟩, ⟨by (with_reducible repeat first | apply bn | apply bd | apply ba); exact BK113.out⟩, ⟨by repeat with_reducible first | exact HB.out | apply below_alloc | apply pw_below_drewN | apply below_drew1 | refine below_set ?_ GE111.out | refine below_set ?_ GE113.out⟩⟩
          ·rw [if_neg c20] at H
           have c20b0 : (((rd_T36 l0_0 x3_1).f1) == 2) = false := beq_eq_false_iff_ne.mpr c20
           have c20b1 : (((rd_T36 l0_0 x3_1).f1) != 2) = true := bne_iff_ne.mpr c20
           have H' := Aside0.mk H
           clear H
           have hnb26 := NB113_111.out
           have hnc26 := NB111_113.out
           have hcz27_0 : wc.cell? ⟨gb113, 0, none⟩ = some (.int .i64 ((rd_T36 l0_0 x3_1).f0)) := (blk_cell BK113.out 0).trans rfl
           have hcz27_1 : wc.cell? ⟨gb113, 1, none⟩ = some (.int .i64 ((rd_T36 l0_0 x3_1).f1)) := (blk_cell BK113.out 1).trans rfl
           have hcz27_2 : wc.cell? ⟨gb113, 2, none⟩ = some (.int .i64 ((rd_T36 l0_0 x3_1).f2)) := (blk_cell BK113.out 2).trans rfl
           have hfz27_0 := blk_frozen BK113.out 0
           have hfz27_1 := blk_frozen BK113.out 1
           have hfz27_2 := blk_frozen BK113.out 2
           go_wp2
           go_meet
           case rel => exact ⟨_, ((((rd_T36 l0_0 x3_1).f2) != (-1))), (by first | rfl | (simp; done) | (simp [*]; done)), H', ⟨by have := HK1.out; have := HJ4.out; first | omega | exact Nat.le_refl _⟩, ⟨by (with_reducible repeat first | apply bn | apply bd | apply ba); exact BK111.out⟩, ⟨by (with_reducible repeat first | apply bn | apply bd | apply ba); exact BK113.out⟩, ⟨by repeat with_reducible first | exact HB.out | apply below_alloc | apply pw_below_drewN | apply below_drew1 | refine below_set ?_ GE111.out | refine below_set ?_ GE113.out⟩⟩
        case rest =>
         clear HC16
         (try clear c1);(try clear p1);(try clear q1);(try clear hx1);(try clear c2);(try clear p2);(try clear c3);(try clear c3b0);(try clear c4);(try clear c4b0);(try clear c8);(try clear c10);(try clear c10b0);(try clear c11);(try clear p11);(try clear q11);(try clear hx11);(try clear c13);(try clear c15);(try clear c17);(try clear c17b0);(try clear c18);(try clear c20);(try clear c20b0);(try clear c20b1);(try clear c21);(try clear c21b0);(try clear c22);(try clear c24);(try clear c26);(try clear hcz12_0);(try clear hcz12_1);(try clear hcz12_2);(try clear hcz14_0);(try clear hcz14_1);(try clear hcz14_2);(try clear hcz19_0);(try clear hcz19_1);(try clear hcz19_2);(try clear hcz23_0);(try clear hcz23_1);(try clear hcz23_2);(try clear hcz25_0);(try clear hcz25_1);(try clear hcz25_2);(try clear hcz27_0);(try clear hcz27_1);(try clear hcz27_2);(try clear hcz6_0);(try clear hcz6_1);(try clear hcz6_2);(try clear hcz9_0);(try clear hcz9_1);(try clear hcz9_2);(try clear hfz12_0);(try clear hfz12_1);(try clear hfz12_2);(try clear hfz14_0);(try clear hfz14_1);(try clear hfz14_2);(try clear hfz19_0);(try clear hfz19_1);(try clear hfz19_2);(try clear hfz23_0);(try clear hfz23_1);(try clear hfz23_2);(try clear hfz25_0);(try clear hfz25_1);(try clear hfz25_2);(try clear hfz27_0);(try clear hfz27_1);(try clear hfz27_2);(try clear hfz6_0);(try clear hfz6_1);(try clear hfz6_2);(try clear hfz9_0);(try clear hfz9_1);(try clear hfz9_2);(try clear hx112_0);(try clear hx112_1);(try clear hx112_2);(try clear p1);(try clear p11);(try clear p112);(try clear p2);(try clear q1);(try clear q11);(try clear q112)
         obtain ⟨kq, x30_15, rfl, HA, HJ15, BK111, BK113, HB⟩ := hcut
         cases kq with
         | zero => exact absurd HA.out (by simp [dataflowref27_nodes.j2])
         | succ kj15 =>
          have H := HA.out
          clear HA
          simp only [dataflowref27_nodes.j2] at H
          by_cases c28 : x30_15 = true
          ·subst c28
           have H1 : (some 4) = some r := by rw [if_pos rfl] at H; exact H
           clear H
           have H := H1
           clear H1
           obtain rfl := Option.some.inj H
           go_wp2
           go_ret
           exact ⟨by first | rfl | (simp [errW_none, errW_some] <;> rfl) | (simp [*, errW_none, errW_some] <;> rfl), by repeat with_reducible first | exact HB.out | apply below_alloc | apply pw_below_drewN | apply below_drew1 | refine below_set ?_ GE111.out | refine below_set ?_ GE113.out⟩
          ·replace c28 := Bool.eq_false_iff.mpr c28
           subst c28
           have H1 : (if x3_1 > 0 then (if 0 ≤ (wrap64 (x3_1 - 1)) then (if (wrap64 (x3_1 - 1)) < (l0_0.length : Int) then ((dataflowref27_less.f ((rd_T36 l0_0 (wrap64 (x3_1 - 1))).f0) ((rd_T36 l0_0 (wrap64 (x3_1 - 1))).f1) ((rd_T36 l0_0 (wrap64 (x3_1 - 1))).f2) ((rd_T36 l0_0 x3_1).f0) ((rd_T36 l0_0 x3_1).f1) ((rd_T36 l0_0 x3_1).f2)).bind fun t115 => (if t115 = true then (dataflowref27_nodes.l0 kj15 (wrap64 (x3_1 + 1)) l0_0 l0_1 a0_2) else (some 13))) else (none)) else (none)) else (dataflowref27_nodes.l0 kj15 (wrap64 (x3_1 + 1)) l0_0 l0_1 a0_2)) = some r := by rw [if_neg (show ¬ (false = true) by decide)] at H; exact H
           clear H
           have H := H1
           clear H1
           by_cases c29 : x3_1 > 0
           ·rw [if_pos c29] at H
            have c29b0 : decide (0 < x3_1) = true := decide_eq_true c29
            clear c29
            obtain ⟨ji30, hji30⟩ : ∃ j_ : Int, (wrap64 (x3_1 - 1)) = j_ := ⟨_, rfl⟩
            replace H : (if 0 ≤ (ji30) then (if (ji30) < (l0_0.length : Int) then ((dataflowref27_less.f ((rd_T36 l0_0 (ji30)).f0) ((rd_T36 l0_0 (ji30)).f1) ((rd_T36 l0_0 (ji30)).f2) ((rd_T36 l0_0 x3_1).f0) ((rd_T36 l0_0 x3_1).f1) ((rd_T36 l0_0 x3_1).f2)).bind fun t115 => (if t115 = true then (dataflowref27_nodes.l0 kj15 (wrap64 (x3_1 + 1)) l0_0 l0_1 a0_2) else (some 13))) else (none)) else (none)) = some r := by first | (rw [hji30] at H; exact H) | (simp only [hji30] at H ⊢; exact H)
            have hji30w : (IntKind.i64.wrap (x3_1 - 1)) = ji30 := (i64_w _).trans hji30
            by_cases c31 : 0 ≤ (ji30)
            ·rw [if_pos c31] at H
             have c31b0 : decide (0 ≤ (ji30)) = true := decide_eq_true c31
             clear c31
             by_cases c32 : (ji30) < (l0_0.length : Int)
             ·rw [if_pos c32] at H
              have c32b0 : decide ((ji30) < (l0_0.length : Int)) = true := decide_eq_true c32
              clear c32
              replace H := Option.bind_eq_some_iff.mp H
              obtain ⟨t115, A330, H⟩ := H
              replace H : (if t115 = true then (dataflowref27_nodes.l0 kj15 (wrap64 (x3_1 + 1)) l0_0 l0_1 a0_2) else (some 13)) = some r := H
              have A33 := Aside0.mk A330
              clear A330
              by_cases c34 : t115 = true
              ·subst c34
               have H1 : (dataflowref27_nodes.l0 kj15 (wrap64 (x3_1 + 1)) l0_0 l0_1 a0_2) = some r := by rw [if_pos rfl] at H; exact H
               clear H
               have H := H1
               clear H1
               have H' := Aside0.mk H
               clear H
               try go_wp2
               have n0_ := Aside0.mk (blk_drew BK111.out)
               have n1_ := Aside0.mk (blk_drew BK113.out)
               have n2_ := Aside0.mk (below_drew1 HB.out)
               clear BK111
               clear BK113
               clear HB
               have BK111 := n0_
               have BK113 := n1_
               have HB := n2_
               clear n0_ n1_ n2_
               have p114 : 0 ≤ ((ji30) : Int) := of_decide_eq_true (by first | (with_reducible assumption) | assumption)
               have q114 : (ji30) < (l0_0.length : Int) := of_decide_eq_true (by first | (with_reducible assumption) | assumption)
               obtain ⟨ad114, e114, hx114_0, hx114_1, hx114_2⟩ := at_T36 HR0_0.out (ji30) p114 q114
               have hw114_2 := hx114_2
               have hw114_1 := hx114_1
               have hw114_0 := hx114_0
               obtain rfl : ad112 = ad114 := (by injection e114)
               replace hx114_0 := (HB.out.cell (World.block_lt_of_cell? w _ hx114_0)).trans hx114_0
               replace hx114_1 := (HB.out.cell (World.block_lt_of_cell? w _ hx114_1)).trans hx114_1
               replace hx114_2 := (HB.out.cell (World.block_lt_of_cell? w _ hx114_2)).trans hx114_2
               replace p114 := eq_true p114
               replace q114 := eq_true q114
               refine start_ (n := 14) (S := fun w' => w'.cell? ⟨gb111, 0, none⟩ = some (.slice (some ad112) l0_0.length c0_0) ∧ w'.cell? ⟨gb111, 1, none⟩ = some (.slice A0_1 l0_1.length c0_1) ∧ w'.cell? ⟨gb111, 2, none⟩ = some (.int .i64 a0_2) ∧ w'.cell? ⟨gb113, 0, none⟩ = some (.int .i64 ((rd_T36 l0_0 x3_1).f0)) ∧ w'.cell? ⟨gb113, 1, none⟩ = some (.int .i64 ((rd_T36 l0_0 x3_1).f1)) ∧ w'.cell? ⟨gb113, 2, none⟩ = some (.int .i64 ((rd_T36 l0_0 x3_1).f2)) ∧ w'.cell? (ad112.add (((ji30)).toNat * 3)) = some (.int .i64 ((rd_T36 l0_0 (ji30)).f0)) ∧ w'.cell? ⟨(ad112.add (((ji30)).toNat * 3)).block, (ad112.add (((ji30)).toNat * 3)).off + 1, none⟩ = some (.int .i64 ((rd_T36 l0_0 (ji30)).f1)) ∧ w'.cell? ⟨(ad112.add (((ji30)).toNat * 3)).block, (ad112.add (((ji30)).toNat * 3)).off + 2, none⟩ = some (.int .i64 ((rd_T36 l0_0 (ji30)).f2))) (ds := []) #[false, false, false, false, false, false, false, false, false, false, false, false, false, false] (by kernel_rfl) rfl rfl ⟨(blk_cell BK111.out 0).trans rfl, (blk_cell BK111.out 1).trans rfl, (blk_cell BK111.out 2).trans rfl, (blk_cell BK113.out 0).trans rfl, (blk_cell BK113.out 1).trans rfl, (blk_cell BK113.out 2).trans rfl, ((HB.out.cell (World.block_lt_of_cell? w _ hw114_0)).trans hw114_0), ((HB.out.cell (World.block_lt_of_cell? w _ hw114_1)).trans hw114_1), ((HB.out.cell (World.block_lt_of_cell? w _ hw114_2)).trans hw114_2)⟩ (fun hHeld => ?_); refine with_tabW dataflowref27_nodes.tab9 dataflowref27_nodes.bits9 (fun HT_ HW_ => ?_)
               generalize wc.drew = w35 at BK111 BK113 HB hx114_0 hx114_1 hx114_2 hHeld ⊢
               refine pure_ (i := 0) (N := some 55) (v := ?_) (a' := ?_) #[true, false, false, false, false, false, false, false, false, false, false, false, false, false] rfl rfl (any_of HT_.out (by kernel_rfl)) (fun _ _ _ h => h) (Or.inl ⟨by rfl, ?_⟩) ?_ ?_
               rotate_left;focus(intro w';go_simp;with_reducible rfl)
               rotate_left;focus(simp only [Act.put, List.setIfInBounds_toArray, List.set_cons_zero, List.set_cons_succ, i64_w];rfl)
               refine pure_ (i := 1) (N := some 56) (v := ?_) (a' := ?_) #[true, true, false, false, false, false, false, false, false, false, false, false, false, false] rfl rfl (any_of HT_.out (by kernel_rfl)) (fun _ _ _ h => h) (Or.inl ⟨by rfl, ?_⟩) ?_ ?_
               rotate_left;focus(intro w';go_simp;with_reducible rfl)
               rotate_left;focus(simp only [Act.put, List.setIfInBounds_toArray, List.set_cons_zero, List.set_cons_succ, i64_w];rfl)
               refine pure_ (i := 2) (N := some 57) (v := ?_) (a' := ?_) #[true, true, true, false, false, false, false, false, false, false, false, false, false, false] rfl rfl (any_of HT_.out (by kernel_rfl)) (fun _ _ _ h => h) (Or.inl ⟨by rfl, ?_⟩) ?_ ?_
               rotate_left;focus(intro w';go_simp;with_reducible rfl)
               rotate_left;focus(simp only [Act.put, List.setIfInBounds_toArray, List.set_cons_zero, List.set_cons_succ, i64_w];rfl)
               refine pure_ (i := 3) (N := some 58) (v := ?_) (a' := ?_) #[true, true, true, true, false, false, false, false, false, false, false, false, false, false] rfl rfl (any_of HT_.out (by kernel_rfl)) (fun _ _ _ h => h) (Or.inl ⟨by rfl, ?_⟩) ?_ ?_
               rotate_left;focus(intro w';go_simp;with_reducible rfl)
               rotate_left;focus(simp only [Act.put, List.setIfInBounds_toArray, List.set_cons_zero, List.set_cons_succ, i64_w];rfl)
               refine pure_ (i := 5) (N := some 60) (v := ?_) (a' := ?_) #[true, true, true, true, false, true, false, false, false, false, false, false, false, false] rfl rfl (any_of HT_.out (by kernel_rfl)) (fun _ _ _ h => h) (Or.inl ⟨by rfl, ?_⟩) ?_ ?_
               rotate_left;focus(intro w';go_simp;with_reducible rfl)
               rotate_left;focus(simp only [Act.put, List.setIfInBounds_toArray, List.set_cons_zero, List.set_cons_succ, i64_w];rfl)
               refine pure_ (i := 6) (N := some 61) (v := ?_) (a' := ?_) #[true, true, true, true, false, true, true, false, false, false, false, false, false, false] rfl rfl (any_of HT_.out (by kernel_rfl)) (fun _ _ _ h => h) (Or.inl ⟨by rfl, ?_⟩) ?_ ?_
               rotate_left;focus(intro w';go_simp;with_reducible rfl)
               rotate_left;focus(simp only [Act.put, List.setIfInBounds_toArray, List.set_cons_zero, List.set_cons_succ, i64_w];rfl)
               refine take_ (i := 4) (N := some 59) (v := ?_) (a' := ?_) #[true, true, true, true, true, true, true, false, false, false, false, false, false, false] rfl rfl (take_ofW HT_.out HW_.out (by kernel_rfl)) (fun _ _ _ h => h) (Or.inl ⟨by rfl, ?_⟩) hHeld ?_ ?_
               rotate_left;focus(rintro w' ⟨s0, s1, s2, s3, s4, s5, s6, s7, s8⟩;go_simp;with_reducible rfl)
               rotate_left;focus(simp only [Act.put, List.setIfInBounds_toArray, List.set_cons_zero, List.set_cons_succ, i64_w];rfl)
               refine pure_ (i := 7) (N := some 62) (v := ?_) (a' := ?_) #[true, true, true, true, true, true, true, true, false, false, false, false, false, false] rfl rfl (any_of HT_.out (by kernel_rfl)) (fun _ _ _ h => h) (Or.inl ⟨by rfl, ?_⟩) ?_ ?_
               rotate_left;focus(intro w';go_simp;with_reducible rfl)
               rotate_left;focus(simp only [Act.put, List.setIfInBounds_toArray, List.set_cons_zero, List.set_cons_succ, i64_w];rfl)
               refine take_ (i := 8) (N := some 63) (v := ?_) (a' := ?_) #[true, true, true, true, true, true, true, true, true, false, false, false, false, false] rfl rfl (take_ofW HT_.out HW_.out (by kernel_rfl)) (fun _ _ _ h => h) (Or.inl ⟨by rfl, ?_⟩) hHeld ?_ ?_
               rotate_left;focus(rintro w' ⟨s0, s1, s2, s3, s4, s5, s6, s7, s8⟩;go_simp;with_reducible rfl)
               rotate_left;focus(simp only [Act.put, List.setIfInBounds_toArray, List.set_cons_zero, List.set_cons_succ, i64_w];rfl)
               refine take_ (i := 9) (N := some 64) (v := ?_) (a' := ?_) #[true, true, true, true, true, true, true, true, true, true, false, false, false, false] rfl rfl (take_ofW HT_.out HW_.out (by kernel_rfl)) (fun _ _ _ h => h) (Or.inl ⟨by rfl, ?_⟩) hHeld ?_ ?_
               rotate_left;focus(rintro w' ⟨s0, s1, s2, s3, s4, s5, s6, s7, s8⟩;go_simp;with_reducible rfl)
               rotate_left;focus(simp only [Act.put, List.setIfInBounds_toArray, List.set_cons_zero, List.set_cons_succ, i64_w];rfl)
               refine one_ (i := 10) (N := some 65) #[true, true, true, true, true, true, true, true, true, true, true, false, false, false] rfl rfl (one_of HT_.out (by kernel_rfl)) (by decide) (fun K hK => ?_)
               refine goes_ Try.func19 (by kernel_rfl) rfl #[.agg #[.int .i64 ((rd_T36 l0_0 (ji30)).f0), .int .i64 ((rd_T36 l0_0 (ji30)).f1), .int .i64 ((rd_T36 l0_0 (ji30)).f2)], .agg #[.int .i64 ((rd_T36 l0_0 x3_1).f0), .int .i64 ((rd_T36 l0_0 x3_1).f1), .int .i64 ((rd_T36 l0_0 x3_1).f2)]] (by rfl) rfl rfl (by (try simp only [List.map_toArray, List.map_cons, List.map_nil]); first | done | (simp only [hji30]; rfl) | rfl | (simp only [List.length_drop, List.length_take]; rfl)) ?_
               with_reducible refine (dataflowref27_less.calls ((rd_T36 l0_0 (ji30)).f0) ((rd_T36 l0_0 (ji30)).f1) ((rd_T36 l0_0 (ji30)).f2) ((rd_T36 l0_0 x3_1).f0) ((rd_T36 l0_0 x3_1).f1) ((rd_T36 l0_0 x3_1).f2) true _ A33.out).mono ?_
               rintro e w36 ⟨rfl, hb⟩
               refine ⟨_, rfl, ?_⟩
               have n0_ := Aside0.mk (blk_below (g := gb111) (o := .cells #[.slice (some ad112) l0_0.length c0_0, .slice A0_1 l0_1.length c0_1, .int .i64 a0_2] 25 (0, 0)) (by (with_reducible repeat first | apply bn | apply bd | apply ba); exact BK111.out) hb)
               have n1_ := Aside0.mk (blk_below (g := gb113) (o := .cells #[.int .i64 ((rd_T36 l0_0 x3_1).f0), .int .i64 ((rd_T36 l0_0 x3_1).f1), .int .i64 ((rd_T36 l0_0 x3_1).f2)] 36 (0, 0)) (by (with_reducible repeat first | apply bn | apply bd | apply ba); exact BK113.out) hb)
               have n2_ := Aside0.mk (below_step (by repeat with_reducible first | exact HB.out | apply below_alloc | apply pw_below_drewN | apply below_drew1 | refine below_set ?_ GE111.out | refine below_set ?_ GE113.out) hb)
               clear BK111
               clear BK113
               clear HB
               have BK111 := n0_
               have BK113 := n1_
               have HB := n2_
               clear n0_ n1_ n2_
               (try clear hb)
               (try clear hb2)
               (try clear hk)
               (try clear hi)
               refine hK.out _ _ ⟨(blk_cell BK111.out 0).trans rfl, (blk_cell BK111.out 1).trans rfl, (blk_cell BK111.out 2).trans rfl, (blk_cell BK113.out 0).trans rfl, (blk_cell BK113.out 1).trans rfl, (blk_cell BK113.out 2).trans rfl, ((HB.out.cell (World.block_lt_of_cell? w _ hw114_0)).trans hw114_0), ((HB.out.cell (World.block_lt_of_cell? w _ hw114_1)).trans hw114_1), ((HB.out.cell (World.block_lt_of_cell? w _ hw114_2)).trans hw114_2)⟩ (fun hHeld => ?_)
               clear hK K
               refine norm_ (a' := ?_) ?_ ?_
               rotate_left;focus(show Act.put _ (some 65) _ = _;simp only [Act.put, List.setIfInBounds_toArray, List.set_cons_zero, List.set_cons_succ, i64_w];rfl)
               refine pure_ (i := 11) (N := some 66) (v := ?_) (a' := ?_) #[true, true, true, true, true, true, true, true, true, true, true, true, false, false] rfl rfl (any_of HT_.out (by kernel_rfl)) (fun _ _ _ h => h) (Or.inl ⟨by rfl, ?_⟩) ?_ ?_
               rotate_left;focus(intro w';go_simp;with_reducible rfl)
               rotate_left;focus(simp only [Act.put, List.setIfInBounds_toArray, List.set_cons_zero, List.set_cons_succ, i64_w];rfl)
               refine pure_ (i := 12) (N := some 67) (v := ?_) (a' := ?_) #[true, true, true, true, true, true, true, true, true, true, true, true, true, false] rfl rfl (any_of HT_.out (by kernel_rfl)) (fun _ _ _ h => h) (Or.inl ⟨by rfl, ?_⟩) ?_ ?_
               rotate_left;focus(intro w';go_simp;with_reducible rfl)
               rotate_left;focus(simp only [Act.put, List.setIfInBounds_toArray, List.set_cons_zero, List.set_cons_succ, i64_w];rfl)
               refine pure_ (i := 13) (N := some 54) (v := ?_) (a' := ?_) #[true, true, true, true, true, true, true, true, true, true, true, true, true, true] rfl rfl (any_of HT_.out (by kernel_rfl)) (fun _ _ _ h => h) (Or.inl ⟨by rfl, ?_⟩) ?_ ?_
               rotate_left;focus(intro w';go_simp;with_reducible rfl)
               rotate_left;focus(simp only [Act.put, List.setIfInBounds_toArray, List.set_cons_zero, List.set_cons_succ, i64_w];rfl)
               refine done_ (done_of HT_.out (by kernel_rfl)) ?_
               try go_wp2
               go_roundg kj15
               case measure => have := HK1.out; have := HJ4.out; have := HJ15.out; omega
               case rel => exact ⟨(wrap64 (x3_1 + 1)), (by first | rfl | (simp; done) | (simp [*]; done)), H', ⟨by have := HK1.out; have := HJ4.out; have := HJ15.out; omega⟩, ⟨by (with_reducible repeat first | apply bn | apply bd | apply ba); exact BK111.out⟩, ⟨by repeat with_reducible first | exact HB.out | apply below_alloc | apply pw_below_drewN | apply below_drew1 | refine below_set ?_ GE111.out | refine below_set ?_ GE113.out⟩⟩
              ·replace c34 := Bool.eq_false_iff.mpr c34
               subst c34
               have H1 : (some 13) = some r := by rw [if_neg (show ¬ (false = true) by decide)] at H; exact H
               clear H
               have H := H1
               clear H1
               obtain rfl := Option.some.inj H
               try go_wp2
               have n0_ := Aside0.mk (blk_drew BK111.out)
               have n1_ := Aside0.mk (blk_drew BK113.out)
               have n2_ := Aside0.mk (below_drew1 HB.out)
               clear BK111
               clear BK113
               clear HB
               have BK111 := n0_
               have BK113 := n1_
               have HB := n2_
               clear n0_ n1_ n2_
               have p114 : 0 ≤ ((ji30) : Int) := of_decide_eq_true (by first | (with_reducible assumption) | assumption)
               have q114 : (ji30) < (l0_0.length : Int) := of_decide_eq_true (by first | (with_reducible assumption) | assumption)
               obtain ⟨ad114, e114, hx114_0, hx114_1, hx114_2⟩ := at_T36 HR0_0.out (ji30) p114 q114
               have hw114_2 := hx114_2
               have hw114_1 := hx114_1
               have hw114_0 := hx114_0
               obtain rfl : ad112 = ad114 := (by injection e114)
               replace hx114_0 := (HB.out.cell (World.block_lt_of_cell? w _ hx114_0)).trans hx114_0
               replace hx114_1 := (HB.out.cell (World.block_lt_of_cell? w _ hx114_1)).trans hx114_1
               replace hx114_2 := (HB.out.cell (World.block_lt_of_cell? w _ hx114_2)).trans hx114_2
               replace p114 := eq_true p114
               replace q114 := eq_true q114
               refine start_ (n := 14) (S := fun w' => w'.cell? ⟨gb111, 0, none⟩ = some (.slice (some ad112) l0_0.length c0_0) ∧ w'.cell? ⟨gb111, 1, none⟩ = some (.slice A0_1 l0_1.length c0_1) ∧ w'.cell? ⟨gb111, 2, none⟩ = some (.int .i64 a0_2) ∧ w'.cell? ⟨gb113, 0, none⟩ = some (.int .i64 ((rd_T36 l0_0 x3_1).f0)) ∧ w'.cell? ⟨gb113, 1, none⟩ = some (.int .i64 ((rd_T36 l0_0 x3_1).f1)) ∧ w'.cell? ⟨gb113, 2, none⟩ = some (.int .i64 ((rd_T36 l0_0 x3_1).f2)) ∧ w'.cell? (ad112.add (((ji30)).toNat * 3)) = some (.int .i64 ((rd_T36 l0_0 (ji30)).f0)) ∧ w'.cell? ⟨(ad112.add (((ji30)).toNat * 3)).block, (ad112.add (((ji30)).toNat * 3)).off + 1, none⟩ = some (.int .i64 ((rd_T36 l0_0 (ji30)).f1)) ∧ w'.cell? ⟨(ad112.add (((ji30)).toNat * 3)).block, (ad112.add (((ji30)).toNat * 3)).off + 2, none⟩ = some (.int .i64 ((rd_T36 l0_0 (ji30)).f2))) (ds := []) #[false, false, false, false, false, false, false, false, false, false, false, false, false, false] (by kernel_rfl) rfl rfl ⟨(blk_cell BK111.out 0).trans rfl, (blk_cell BK111.out 1).trans rfl, (blk_cell BK111.out 2).trans rfl, (blk_cell BK113.out 0).trans rfl, (blk_cell BK113.out 1).trans rfl, (blk_cell BK113.out 2).trans rfl, ((HB.out.cell (World.block_lt_of_cell? w _ hw114_0)).trans hw114_0), ((HB.out.cell (World.block_lt_of_cell? w _ hw114_1)).trans hw114_1), ((HB.out.cell (World.block_lt_of_cell? w _ hw114_2)).trans hw114_2)⟩ (fun hHeld => ?_); refine with_tabW dataflowref27_nodes.tab9 dataflowref27_nodes.bits9 (fun HT_ HW_ => ?_)
               generalize wc.drew = w37 at BK111 BK113 HB hx114_0 hx114_1 hx114_2 hHeld ⊢
               refine pure_ (i := 0) (N := some 55) (v := ?_) (a' := ?_) #[true, false, false, false, false, false, false, false, false, false, false, false, false, false] rfl rfl (any_of HT_.out (by kernel_rfl)) (fun _ _ _ h => h) (Or.inl ⟨by rfl, ?_⟩) ?_ ?_
               rotate_left;focus(intro w';go_simp;with_reducible rfl)
               rotate_left;focus(simp only [Act.put, List.setIfInBounds_toArray, List.set_cons_zero, List.set_cons_succ, i64_w];rfl)
               refine pure_ (i := 1) (N := some 56) (v := ?_) (a' := ?_) #[true, true, false, false, false, false, false, false, false, false, false, false, false, false] rfl rfl (any_of HT_.out (by kernel_rfl)) (fun _ _ _ h => h) (Or.inl ⟨by rfl, ?_⟩) ?_ ?_
               rotate_left;focus(intro w';go_simp;with_reducible rfl)
               rotate_left;focus(simp only [Act.put, List.setIfInBounds_toArray, List.set_cons_zero, List.set_cons_succ, i64_w];rfl)
               refine pure_ (i := 2) (N := some 57) (v := ?_) (a' := ?_) #[true, true, true, false, false, false, false, false, false, false, false, false, false, false] rfl rfl (any_of HT_.out (by kernel_rfl)) (fun _ _ _ h => h) (Or.inl ⟨by rfl, ?_⟩) ?_ ?_
               rotate_left;focus(intro w';go_simp;with_reducible rfl)
               rotate_left;focus(simp only [Act.put, List.setIfInBounds_toArray, List.set_cons_zero, List.set_cons_succ, i64_w];rfl)
               refine pure_ (i := 3) (N := some 58) (v := ?_) (a' := ?_) #[true, true, true, true, false, false, false, false, false, false, false, false, false, false] rfl rfl (any_of HT_.out (by kernel_rfl)) (fun _ _ _ h => h) (Or.inl ⟨by rfl, ?_⟩) ?_ ?_
               rotate_left;focus(intro w';go_simp;with_reducible rfl)
               rotate_left;focus(simp only [Act.put, List.setIfInBounds_toArray, List.set_cons_zero, List.set_cons_succ, i64_w];rfl)
               refine pure_ (i := 5) (N := some 60) (v := ?_) (a' := ?_) #[true, true, true, true, false, true, false, false, false, false, false, false, false, false] rfl rfl (any_of HT_.out (by kernel_rfl)) (fun _ _ _ h => h) (Or.inl ⟨by rfl, ?_⟩) ?_ ?_
               rotate_left;focus(intro w';go_simp;with_reducible rfl)
               rotate_left;focus(simp only [Act.put, List.setIfInBounds_toArray, List.set_cons_zero, List.set_cons_succ, i64_w];rfl)
               refine pure_ (i := 6) (N := some 61) (v := ?_) (a' := ?_) #[true, true, true, true, false, true, true, false, false, false, false, false, false, false] rfl rfl (any_of HT_.out (by kernel_rfl)) (fun _ _ _ h => h) (Or.inl ⟨by rfl, ?_⟩) ?_ ?_
               rotate_left;focus(intro w';go_simp;with_reducible rfl)
               rotate_left;focus(simp only [Act.put, List.setIfInBounds_toArray, List.set_cons_zero, List.set_cons_succ, i64_w];rfl)
               refine take_ (i := 4) (N := some 59) (v := ?_) (a' := ?_) #[true, true, true, true, true, true, true, false, false, false, false, false, false, false] rfl rfl (take_ofW HT_.out HW_.out (by kernel_rfl)) (fun _ _ _ h => h) (Or.inl ⟨by rfl, ?_⟩) hHeld ?_ ?_
               rotate_left;focus(rintro w' ⟨s0, s1, s2, s3, s4, s5, s6, s7, s8⟩;go_simp;with_reducible rfl)
               rotate_left;focus(simp only [Act.put, List.setIfInBounds_toArray, List.set_cons_zero, List.set_cons_succ, i64_w];rfl)
               refine pure_ (i := 7) (N := some 62) (v := ?_) (a' := ?_) #[true, true, true, true, true, true, true, true, false, false, false, false, false, false] rfl rfl (any_of HT_.out (by kernel_rfl)) (fun _ _ _ h => h) (Or.inl ⟨by rfl, ?_⟩) ?_ ?_
               rotate_left;focus(intro w';go_simp;with_reducible rfl)
               rotate_left;focus(simp only [Act.put, List.setIfInBounds_toArray, List.set_cons_zero, List.set_cons_succ, i64_w];rfl)
               refine take_ (i := 8) (N := some 63) (v := ?_) (a' := ?_) #[true, true, true, true, true, true, true, true, true, false, false, false, false, false] rfl rfl (take_ofW HT_.out HW_.out (by kernel_rfl)) (fun _ _ _ h => h) (Or.inl ⟨by rfl, ?_⟩) hHeld ?_ ?_
               rotate_left;focus(rintro w' ⟨s0, s1, s2, s3, s4, s5, s6, s7, s8⟩;go_simp;with_reducible rfl)
               rotate_left;focus(simp only [Act.put, List.setIfInBounds_toArray, List.set_cons_zero, List.set_cons_succ, i64_w];rfl)
               refine take_ (i := 9) (N := some 64) (v := ?_) (a' := ?_) #[true, true, true, true, true, true, true, true, true, true, false, false, false, false] rfl rfl (take_ofW HT_.out HW_.out (by kernel_rfl)) (fun _ _ _ h => h) (Or.inl ⟨by rfl, ?_⟩) hHeld ?_ ?_
               rotate_left;focus(rintro w' ⟨s0, s1, s2, s3, s4, s5, s6, s7, s8⟩;go_simp;with_reducible rfl)
               rotate_left;focus(simp only [Act.put, List.setIfInBounds_toArray, List.set_cons_zero, List.set_cons_succ, i64_w];rfl)
               refine one_ (i := 10) (N := some 65) #[true, true, true, true, true, true, true, true, true, true, true, false, false, false] rfl rfl (one_of HT_.out (by kernel_rfl)) (by decide) (fun K hK => ?_)
               refine goes_ Try.func19 (by kernel_rfl) rfl #[.agg #[.int .i64 ((rd_T36 l0_0 (ji30)).f0), .int .i64 ((rd_T36 l0_0 (ji30)).f1), .int .i64 ((rd_T36 l0_0 (ji30)).f2)], .agg #[.int .i64 ((rd_T36 l0_0 x3_1).f0), .int .i64 ((rd_T36 l0_0 x3_1).f1), .int .i64 ((rd_T36 l0_0 x3_1).f2)]] (by rfl) rfl rfl (by (try simp only [List.map_toArray, List.map_cons, List.map_nil]); first | done | (simp only [hji30]; rfl) | rfl | (simp only [List.length_drop, List.length_take]; rfl)) ?_
               with_reducible refine (dataflowref27_less.calls ((rd_T36 l0_0 (ji30)).f0) ((rd_T36 l0_0 (ji30)).f1) ((rd_T36 l0_0 (ji30)).f2) ((rd_T36 l0_0 x3_1).f0) ((rd_T36 l0_0 x3_1).f1) ((rd_T36 l0_0 x3_1).f2) false _ A33.out).mono ?_
               rintro e w38 ⟨rfl, hb⟩
               refine ⟨_, rfl, ?_⟩
               have n0_ := Aside0.mk (blk_below (g := gb111) (o := .cells #[.slice (some ad112) l0_0.length c0_0, .slice A0_1 l0_1.length c0_1, .int .i64 a0_2] 25 (0, 0)) (by (with_reducible repeat first | apply bn | apply bd | apply ba); exact BK111.out) hb)
               have n1_ := Aside0.mk (blk_below (g := gb113) (o := .cells #[.int .i64 ((rd_T36 l0_0 x3_1).f0), .int .i64 ((rd_T36 l0_0 x3_1).f1), .int .i64 ((rd_T36 l0_0 x3_1).f2)] 36 (0, 0)) (by (with_reducible repeat first | apply bn | apply bd | apply ba); exact BK113.out) hb)
               have n2_ := Aside0.mk (below_step (by repeat with_reducible first | exact HB.out | apply below_alloc | apply pw_below_drewN | apply below_drew1 | refine below_set ?_ GE111.out | refine below_set ?_ GE113.out) hb)
               clear BK111
               clear BK113
               clear HB
               have BK111 := n0_
               have BK113 := n1_
               have HB := n2_
               clear n0_ n1_ n2_
               (try clear hb)
               (try clear hb2)
               (try clear hk)
               (try clear hi)
               refine hK.out _ _ ⟨(blk_cell BK111.out 0).trans rfl, (blk_cell BK111.out 1).trans rfl, (blk_cell BK111.out 2).trans rfl, (blk_cell BK113.out 0).trans rfl, (blk_cell BK113.out 1).trans rfl, (blk_cell BK113.out 2).trans rfl, ((HB.out.cell (World.block_lt_of_cell? w _ hw114_0)).trans hw114_0), ((HB.out.cell (World.block_lt_of_cell? w _ hw114_1)).trans hw114_1), ((HB.out.cell (World.block_lt_of_cell? w _ hw114_2)).trans hw114_2)⟩ (fun hHeld => ?_)
               clear hK K
               refine norm_ (a' := ?_) ?_ ?_
               rotate_left;focus(show Act.put _ (some 65) _ = _;simp only [Act.put, List.setIfInBounds_toArray, List.set_cons_zero, List.set_cons_succ, i64_w];rfl)
               refine pure_ (i := 11) (N := some 66) (v := ?_) (a' := ?_) #[true, true, true, true, true, true, true, true, true, true, true, true, false, false] rfl rfl (any_of HT_.out (by kernel_rfl)) (fun _ _ _ h => h) (Or.inl ⟨by rfl, ?_⟩) ?_ ?_
               rotate_left;focus(intro w';go_simp;with_reducible rfl)
               rotate_left;focus(simp only [Act.put, List.setIfInBounds_toArray, List.set_cons_zero, List.set_cons_succ, i64_w];rfl)
               refine pure_ (i := 12) (N := some 67) (v := ?_) (a' := ?_) #[true, true, true, true, true, true, true, true, true, true, true, true, true, false] rfl rfl (any_of HT_.out (by kernel_rfl)) (fun _ _ _ h => h) (Or.inl ⟨by rfl, ?_⟩) ?_ ?_
               rotate_left;focus(intro w';go_simp;with_reducible rfl)
               rotate_left;focus(simp only [Act.put, List.setIfInBounds_toArray, List.set_cons_zero, List.set_cons_succ, i64_w];rfl)
               refine pure_ (i := 13) (N := some 54) (v := ?_) (a' := ?_) #[true, true, true, true, true, true, true, true, true, true, true, true, true, true] rfl rfl (any_of HT_.out (by kernel_rfl)) (fun _ _ _ h => h) (Or.inl ⟨by rfl, ?_⟩) ?_ ?_
               rotate_left;focus(intro w';go_simp;with_reducible rfl)
               rotate_left;focus(simp only [Act.put, List.setIfInBounds_toArray, List.set_cons_zero, List.set_cons_succ, i64_w];rfl)
               refine done_ (done_of HT_.out (by kernel_rfl)) ?_
               try go_wp2
               go_ret
               exact ⟨by first | rfl | (simp [errW_none, errW_some] <;> rfl) | (simp only [← hji30]; first | rfl | (simp [errW_none, errW_some] <;> rfl)) | (simp [*, errW_none, errW_some] <;> rfl), by repeat with_reducible first | exact HB.out | apply below_alloc | apply pw_below_drewN | apply below_drew1 | refine below_set ?_ GE111.out | refine below_set ?_ GE113.out⟩
             ·rw [if_neg c32] at H
              exact absurd H (by simp)
            ·rw [if_neg c31] at H
             exact absurd H (by simp)
           ·rw [if_neg c29] at H
            have c29b0 : decide (0 < x3_1) = false := decide_eq_false c29
            clear c29
            have H' := Aside0.mk H
            clear H
            try go_wp2
            have n0_ := Aside0.mk (blk_drew BK111.out)
            have n1_ := Aside0.mk (blk_drew BK113.out)
            have n2_ := Aside0.mk (below_drew1 HB.out)
            clear BK111
            clear BK113
            clear HB
            have BK111 := n0_
            have BK113 := n1_
            have HB := n2_
            clear n0_ n1_ n2_
            refine start_ (n := 14) (S := fun w' => True) (ds := []) #[false, false, false, false, false, false, false, false, false, false, false, false, false, false] (by kernel_rfl) rfl rfl trivial (fun hHeld => ?_); refine with_tabW dataflowref27_nodes.tab9 dataflowref27_nodes.bits9 (fun HT_ HW_ => ?_)
            generalize wc.drew = w39 at BK111 BK113 HB hHeld ⊢
            refine pure_ (i := 0) (N := some 55) (v := ?_) (a' := ?_) #[true, false, false, false, false, false, false, false, false, false, false, false, false, false] rfl rfl (any_of HT_.out (by kernel_rfl)) (fun _ _ _ h => h) (Or.inl ⟨by rfl, ?_⟩) ?_ ?_
            rotate_left;focus(intro w';go_simp;with_reducible rfl)
            rotate_left;focus(simp only [Act.put, List.setIfInBounds_toArray, List.set_cons_zero, List.set_cons_succ, i64_w];rfl)
            refine pure_ (i := 1) (N := some 56) (v := ?_) (a' := ?_) #[true, true, false, false, false, false, false, false, false, false, false, false, false, false] rfl rfl (any_of HT_.out (by kernel_rfl)) (fun _ _ _ h => h) (Or.inl ⟨by rfl, ?_⟩) ?_ ?_
            rotate_left;focus(intro w';go_simp;with_reducible rfl)
            rotate_left;focus(simp only [Act.put, List.setIfInBounds_toArray, List.set_cons_zero, List.set_cons_succ, i64_w];rfl)
            refine pure_ (i := 2) (N := some 57) (v := ?_) (a' := ?_) #[true, true, true, false, false, false, false, false, false, false, false, false, false, false] rfl rfl (any_of HT_.out (by kernel_rfl)) (fun _ _ _ h => h) (Or.inl ⟨by rfl, ?_⟩) ?_ ?_
            rotate_left;focus(intro w';go_simp;with_reducible rfl)
            rotate_left;focus(simp only [Act.put, List.setIfInBounds_toArray, List.set_cons_zero, List.set_cons_succ, i64_w];rfl)
            refine pure_ (i := 3) (N := some 58) (v := undef) (a' := ?_) #[true, true, true, true, false, false, false, false, false, false, false, false, false, false] rfl rfl (any_of HT_.out (by kernel_rfl)) (fun _ _ _ h => h) (Or.inr ⟨by rfl, rfl⟩) ?_ ?_
            rotate_left;focus(simp only [Act.put, List.setIfInBounds_toArray, List.set_cons_zero, List.set_cons_succ, i64_w];rfl)
            refine pure_ (i := 4) (N := some 59) (v := undef) (a' := ?_) #[true, true, true, true, true, false, false, false, false, false, false, false, false, false] rfl rfl (any_of HT_.out (by kernel_rfl)) (fun _ _ _ h => h) (Or.inr ⟨by rfl, rfl⟩) ?_ ?_
            rotate_left;focus(simp only [Act.put, List.setIfInBounds_toArray, List.set_cons_zero, List.set_cons_succ, i64_w];rfl)
            refine pure_ (i := 5) (N := some 60) (v := undef) (a' := ?_) #[true, true, true, true, true, true, false, false, false, false, false, false, false, false] rfl rfl (any_of HT_.out (by kernel_rfl)) (fun _ _ _ h => h) (Or.inr ⟨by rfl, rfl⟩) ?_ ?_
            rotate_left;focus(simp only [Act.put, List.setIfInBounds_toArray, List.set_cons_zero, List.set_cons_succ, i64_w];rfl)
            refine pure_ (i := 6) (N := some 61) (v := undef) (a' := ?_) #[true, true, true, true, true, true, true, false, false, false, false, false, false, false] rfl rfl (any_of HT_.out (by kernel_rfl)) (fun _ _ _ h => h) (Or.inr ⟨by rfl, rfl⟩) ?_ ?_
            rotate_left;focus(simp only [Act.put, List.setIfInBounds_toArray, List.set_cons_zero, List.set_cons_succ, i64_w];rfl)
            refine pure_ (i := 7) (N := some 62) (v := undef) (a' := ?_) #[true, true, true, true, true, true, true, true, false, false, false, false, false, false] rfl rfl (any_of HT_.out (by kernel_rfl)) (fun _ _ _ h => h) (Or.inr ⟨by rfl, rfl⟩) ?_ ?_
            rotate_left;focus(simp only [Act.put, List.setIfInBounds_toArray, List.set_cons_zero, List.set_cons_succ, i64_w];rfl)
            refine pure_ (i := 8) (N := some 63) (v := undef) (a' := ?_) #[true, true, true, true, true, true, true, true, true, false, false, false, false, false] rfl rfl (any_of HT_.out (by kernel_rfl)) (fun _ _ _ h => h) (Or.inr ⟨by rfl, rfl⟩) ?_ ?_
            rotate_left;focus(simp only [Act.put, List.setIfInBounds_toArray, List.set_cons_zero, List.set_cons_succ, i64_w];rfl)
            refine pure_ (i := 9) (N := some 64) (v := undef) (a' := ?_) #[true, true, true, true, true, true, true, true, true, true, false, false, false, false] rfl rfl (any_of HT_.out (by kernel_rfl)) (fun _ _ _ h => h) (Or.inr ⟨by rfl, rfl⟩) ?_ ?_
            rotate_left;focus(simp only [Act.put, List.setIfInBounds_toArray, List.set_cons_zero, List.set_cons_succ, i64_w];rfl)
            refine pure_ (i := 10) (N := some 65) (v := undef) (a' := ?_) #[true, true, true, true, true, true, true, true, true, true, true, false, false, false] rfl rfl (any_of HT_.out (by kernel_rfl)) (fun _ _ _ h => h) (Or.inr ⟨by rfl, rfl⟩) ?_ ?_
            rotate_left;focus(simp only [Act.put, List.setIfInBounds_toArray, List.set_cons_zero, List.set_cons_succ, i64_w];rfl)
            refine pure_ (i := 11) (N := some 66) (v := undef) (a' := ?_) #[true, true, true, true, true, true, true, true, true, true, true, true, false, false] rfl rfl (any_of HT_.out (by kernel_rfl)) (fun _ _ _ h => h) (Or.inr ⟨by rfl, rfl⟩) ?_ ?_
            rotate_left;focus(simp only [Act.put, List.setIfInBounds_toArray, List.set_cons_zero, List.set_cons_succ, i64_w];rfl)
            refine pure_ (i := 12) (N := some 67) (v := ?_) (a' := ?_) #[true, true, true, true, true, true, true, true, true, true, true, true, true, false] rfl rfl (any_of HT_.out (by kernel_rfl)) (fun _ _ _ h => h) (Or.inl ⟨by rfl, ?_⟩) ?_ ?_
            rotate_left;focus(intro w';go_simp;with_reducible rfl)
            rotate_left;focus(simp only [Act.put, List.setIfInBounds_toArray, List.set_cons_zero, List.set_cons_succ, i64_w];rfl)
            refine pure_ (i := 13) (N := some 54) (v := ?_) (a' := ?_) #[true, true, true, true, true, true, true, true, true, true, true, true, true, true] rfl rfl (any_of HT_.out (by kernel_rfl)) (fun _ _ _ h => h) (Or.inl ⟨by rfl, ?_⟩) ?_ ?_
            rotate_left;focus(intro w';go_simp;with_reducible rfl)
            rotate_left;focus(simp only [Act.put, List.setIfInBounds_toArray, List.set_cons_zero, List.set_cons_succ, i64_w];rfl)
            refine done_ (done_of HT_.out (by kernel_rfl)) ?_
            try go_wp2
            go_roundg kj15
            case measure => have := HK1.out; have := HJ4.out; have := HJ15.out; omega
            case rel => exact ⟨(wrap64 (x3_1 + 1)), (by first | rfl | (simp; done) | (simp [*]; done)), H', ⟨by have := HK1.out; have := HJ4.out; have := HJ15.out; omega⟩, ⟨by (with_reducible repeat first | apply bn | apply bd | apply ba); exact BK111.out⟩, ⟨by repeat with_reducible first | exact HB.out | apply below_alloc | apply pw_below_drewN | apply below_drew1 | refine below_set ?_ GE111.out | refine below_set ?_ GE113.out⟩⟩
    ·rw [if_neg c4] at H
     exact absurd H (by simp)
   ·rw [if_neg c3] at H
    have c3b0 : decide (x3_1 < (l0_0.length : Int)) = false := decide_eq_false c3
    clear c3
    have H' := Aside0.mk H
    clear H
    have hcz40_0 : wr.cell? ⟨gb111, 0, none⟩ = some (.slice A0_0 l0_0.length c0_0) := (blk_cell BK111.out 0).trans rfl
    have hcz40_1 : wr.cell? ⟨gb111, 1, none⟩ = some (.slice A0_1 l0_1.length c0_1) := (blk_cell BK111.out 1).trans rfl
    have hcz40_2 : wr.cell? ⟨gb111, 2, none⟩ = some (.int .i64 a0_2) := (blk_cell BK111.out 2).trans rfl
    have hfz40_0 := blk_frozen BK111.out 0
    have hfz40_1 := blk_frozen BK111.out 1
    have hfz40_2 := blk_frozen BK111.out 2
    go_wp2
    go_loopg [5] k1 (fun kq v5 w' => ∃ (x5_2 : Int), v5 = .int .i64 x5_2 ∧ Aside0 (dataflowref27_nodes.l1 kq x5_2 l0_0 l0_1 a0_2 = some r) ∧ Aside0 (kq ≤ k1) ∧ Aside0 (w'.heap[gb111]? = some (.cells #[(.slice A0_0 l0_0.length c0_0), (.slice A0_1 l0_1.length c0_1), .int .i64 a0_2] 25 (0, 0))) ∧ Aside0 (Below w.heap.size w w'))
    case atStart => exact ⟨(0), (by first | rfl | (simp; done) | (simp [*]; done)), H', ⟨Nat.le_refl _⟩, ⟨by (with_reducible repeat first | apply bn | apply bd | apply ba); exact BK111.out⟩, ⟨by repeat with_reducible first | exact HB.out | apply below_alloc | apply pw_below_drewN | apply below_drew1 | refine below_set ?_ GE111.out⟩⟩
    case round =>
     clear H'
     (try clear c1);(try clear p1);(try clear q1);(try clear hx1);(try clear c2);(try clear p2);(try clear c3);(try clear c3b0);(try clear c4);(try clear c4b0);(try clear p6);(try clear c8);(try clear c10);(try clear c10b0);(try clear c11);(try clear p11);(try clear q11);(try clear hx11);(try clear c13);(try clear c15);(try clear c17);(try clear c17b0);(try clear c18);(try clear c19);(try clear c20);(try clear c20b0);(try clear c20b1);(try clear c21);(try clear c21b0);(try clear c22);(try clear c24);(try clear c26);(try clear c28);(try clear c29);(try clear c29b0);(try clear c31);(try clear c31b0);(try clear c32);(try clear c32b0);(try clear c34);(try clear hcz12_0);(try clear hcz12_1);(try clear hcz12_2);(try clear hcz14_0);(try clear hcz14_1);(try clear hcz14_2);(try clear hcz19_0);(try clear hcz19_1);(try clear hcz19_2);(try clear hcz23_0);(try clear hcz23_1);(try clear hcz23_2);(try clear hcz25_0);(try clear hcz25_1);(try clear hcz25_2);(try clear hcz27_0);(try clear hcz27_1);(try clear hcz27_2);(try clear hcz40_0);(try clear hcz40_1);(try clear hcz40_2);(try clear hcz6_0);(try clear hcz6_1);(try clear hcz6_2);(try clear hcz9_0);(try clear hcz9_1);(try clear hcz9_2);(try clear hfz12_0);(try clear hfz12_1);(try clear hfz12_2);(try clear hfz14_0);(try clear hfz14_1);(try clear hfz14_2);(try clear hfz19_0);(try clear hfz19_1);(try clear hfz19_2);(try clear hfz23_0);(try clear hfz23_1);(try clear hfz23_2);(try clear hfz25_0);(try clear hfz25_1);(try clear hfz25_2);(try clear hfz27_0);(try clear hfz27_1);(try clear hfz27_2);(try clear hfz40_0);(try clear hfz40_1);(try clear hfz40_2);(try clear hfz6_0);(try clear hfz6_1);(try clear hfz6_2);(try clear hfz9_0);(try clear hfz9_1);(try clear hfz9_2);(try clear hx112_0);(try clear hx112_1);(try clear hx112_2);(try clear hx114_0);(try clear hx114_1);(try clear hx114_2);(try clear p1);(try clear p11);(try clear p112);(try clear p114);(try clear p2);(try clear q1);(try clear q11);(try clear q112);(try clear q114)
     obtain ⟨x5_2, rfl, HA, HK2, BK111, HB⟩ := hrel
     cases gk with
     | zero => exact absurd HA.out (by simp [dataflowref27_nodes.l1])
     | succ k2 =>
      have H := HA.out
      clear HA
      simp only [dataflowref27_nodes.l1] at H
      by_cases c41 : x5_2 < (l0_0.length : Int)
      ·rw [if_pos c41] at H
       have c41b0 : decide (x5_2 < (l0_0.length : Int)) = true := decide_eq_true c41
       clear c41
       by_cases c42 : 0 ≤ x5_2
       ·rw [if_pos c42] at H
        have c42b0 : decide (0 ≤ x5_2) = true := decide_eq_true c42
        clear c42
        replace H := Option.bind_eq_some_iff.mp H
        obtain ⟨⟨t118, t119⟩, A430, H⟩ := H
        replace H : ((dataflowref27_Start.f k2 l0_0 l0_1 a0_2 ((rd_T36 l0_0 x5_2).f0)).bind fun t120 => (if t120 < 0 then (some 1) else (if t118 < 0 then (some 1) else (if t119 < 0 then (some 1) else (dataflowref27_nodes.l1 k2 (wrap64 (x5_2 + 1)) l0_0 l0_1 a0_2))))) = some r := H
        have A43 := Aside0.mk A430
        clear A430
        replace H := Option.bind_eq_some_iff.mp H
        obtain ⟨t120, A440, H⟩ := H
        replace H : (if t120 < 0 then (some 1) else (if t118 < 0 then (some 1) else (if t119 < 0 then (some 1) else (dataflowref27_nodes.l1 k2 (wrap64 (x5_2 + 1)) l0_0 l0_1 a0_2)))) = some r := H
        have A44 := Aside0.mk A440
        clear A440
        by_cases c45 : t120 < 0
        ·rw [if_pos c45] at H
         have c45b0 : decide (t120 < 0) = true := decide_eq_true c45
         clear c45
         obtain rfl := Option.some.inj H
         have hcz46_0 : wr.cell? ⟨gb111, 0, none⟩ = some (.slice A0_0 l0_0.length c0_0) := (blk_cell BK111.out 0).trans rfl
         have hcz46_1 : wr.cell? ⟨gb111, 1, none⟩ = some (.slice A0_1 l0_1.length c0_1) := (blk_cell BK111.out 1).trans rfl
         have hcz46_2 : wr.cell? ⟨gb111, 2, none⟩ = some (.int .i64 a0_2) := (blk_cell BK111.out 2).trans rfl
         have hfz46_0 := blk_frozen BK111.out 0
         have hfz46_1 := blk_frozen BK111.out 1
         have hfz46_2 := blk_frozen BK111.out 2
         have p117 : 0 ≤ (x5_2 : Int) := of_decide_eq_true (by first | (with_reducible assumption) | assumption)
         have q117 : x5_2 < (l0_0.length : Int) := of_decide_eq_true (by first | (with_reducible assumption) | assumption)
         obtain ⟨ad117, e117, hx117_0, hx117_1, hx117_2⟩ := at_T36 HR0_0.out x5_2 p117 q117
         cases e117
         replace hx117_0 := (HB.out.cell (World.block_lt_of_cell? w _ hx117_0)).trans hx117_0
         replace hx117_1 := (HB.out.cell (World.block_lt_of_cell? w _ hx117_1)).trans hx117_1
         replace hx117_2 := (HB.out.cell (World.block_lt_of_cell? w _ hx117_2)).trans hx117_2
         replace p117 := eq_true p117
         replace q117 := eq_true q117
         go_wp2_with (first | ((with_reducible refine gate_callee (f := 20) rfl ?_); refine goesL_ (some 84) rfl rfl Try.func20 (by kernel_rfl) rfl #[.agg #[.slice (some ad117) l0_0.length c0_0, .slice A0_1 l0_1.length c0_1, .int .i64 a0_2], .int .i64 ((rd_T36 l0_0 x5_2).f0)] rfl (by (try simp only [List.map_toArray, List.map_cons, List.map_nil]); first | done | rfl) ?_; (with_reducible refine (dataflowref27_Exit.calls k2 _ _ l0_0 _ _ l0_1 a0_2 ((rd_T36 l0_0 x5_2).f0) t118 t119 _ ?side1 ?side2 ?side3 ?side4 A43.out).mono ?_); (case side1 => repeat (first | exact (Kd.C_below HR0_0.out HB.out) | (with_reducible refine Kd.C_alloc ?_ _) | (with_reducible refine Kd.C_drewN ?_ _) | (with_reducible refine Kd.C_drew ?_))); (case side2 => exact HC0_0.out); (case side3 => repeat (first | exact (Kd.C_below HR0_1.out HB.out) | (with_reducible refine Kd.C_alloc ?_ _) | (with_reducible refine Kd.C_drewN ?_ _) | (with_reducible refine Kd.C_drew ?_))); (case side4 => exact HC0_1.out); rintro e w47 ⟨rfl, hb⟩; refine ⟨_, rfl, ?_⟩; have n0_ := Aside0.mk (blk_below (g := gb111) (o := .cells #[.slice (some ad117) l0_0.length c0_0, .slice A0_1 l0_1.length c0_1, .int .i64 a0_2] 25 (0, 0)) (by (with_reducible repeat first | apply bn | apply bd | apply ba); exact BK111.out) hb); have n1_ := Aside0.mk (below_step (by repeat with_reducible first | exact HB.out | apply below_alloc | apply pw_below_drewN | apply below_drew1 | refine below_set ?_ GE111.out) hb); clear BK111; clear HB; have BK111 := n0_; have HB := n1_; clear n0_ n1_; (try clear hb); (try clear hb2); (try clear hk); (try clear hi); have hcz48_0 : w47.cell? ⟨gb111, 0, none⟩ = some (.slice (some ad117) l0_0.length c0_0) := (blk_cell BK111.out 0).trans rfl; have hcz48_1 : w47.cell? ⟨gb111, 1, none⟩ = some (.slice A0_1 l0_1.length c0_1) := (blk_cell BK111.out 1).trans rfl; have hcz48_2 : w47.cell? ⟨gb111, 2, none⟩ = some (.int .i64 a0_2) := (blk_cell BK111.out 2).trans rfl; have hfz48_0 := blk_frozen BK111.out 0; have hfz48_1 := blk_frozen BK111.out 1; have hfz48_2 := blk_frozen BK111.out 2) | ((with_reducible refine gate_callee (f := 21) rfl ?_); refine goesL_ (some 89) rfl rfl Try.func21 (by kernel_rfl) rfl #[.agg #[.slice (some ad117) l0_0.length c0_0, .slice A0_1 l0_1.length c0_1, .int .i64 a0_2], .int .i64 ((rd_T36 l0_0 x5_2).f0)] rfl (by (try simp only [List.map_toArray, List.map_cons, List.map_nil]); first | done | rfl) ?_; (with_reducible refine (dataflowref27_Start.calls k2 _ _ l0_0 _ _ l0_1 a0_2 ((rd_T36 l0_0 x5_2).f0) t120 _ ?side1 ?side2 ?side3 ?side4 A44.out).mono ?_); (case side1 => repeat (first | exact (Kd.C_below HR0_0.out HB.out) | (with_reducible refine Kd.C_alloc ?_ _) | (with_reducible refine Kd.C_drewN ?_ _) | (with_reducible refine Kd.C_drew ?_))); (case side2 => exact HC0_0.out); (case side3 => repeat (first | exact (Kd.C_below HR0_1.out HB.out) | (with_reducible refine Kd.C_alloc ?_ _) | (with_reducible refine Kd.C_drewN ?_ _) | (with_reducible refine Kd.C_drew ?_))); (case side4 => exact HC0_1.out); rintro e w49 ⟨rfl, hb⟩; refine ⟨_, rfl, ?_⟩; have n0_ := Aside0.mk (blk_below (g := gb111) (o := .cells #[.slice (some ad117) l0_0.length c0_0, .slice A0_1 l0_1.length c0_1, .int .i64 a0_2] 25 (0, 0)) (by (with_reducible repeat first | apply bn | apply bd | apply ba); exact BK111.out) hb); have n1_ := Aside0.mk (below_step (by repeat with_reducible first | exact HB.out | apply below_alloc | apply pw_below_drewN | apply below_drew1 | refine below_set ?_ GE111.out) hb); clear BK111; clear HB; have BK111 := n0_; have HB := n1_; clear n0_ n1_; (try clear hb); (try clear hb2); (try clear hk); (try clear hi)))
         go_ret
         exact ⟨by first | rfl | (simp [errW_none, errW_some] <;> rfl) | (simp [*, errW_none, errW_some] <;> rfl), by repeat with_reducible first | exact HB.out | apply below_alloc | apply pw_below_drewN | apply below_drew1 | refine below_set ?_ GE111.out⟩
        ·rw [if_neg c45] at H
         have c45b0 : decide (t120 < 0) = false := decide_eq_false c45
         clear c45
         by_cases c50 : t118 < 0
         ·rw [if_pos c50] at H
          have c50b0 : decide (t118 < 0) = true := decide_eq_true c50
          clear c50
          obtain rfl := Option.some.inj H
          have hcz51_0 : wr.cell? ⟨gb111, 0, none⟩ = some (.slice A0_0 l0_0.length c0_0) := (blk_cell BK111.out 0).trans rfl
          have hcz51_1 : wr.cell? ⟨gb111, 1, none⟩ = some (.slice A0_1 l0_1.length c0_1) := (blk_cell BK111.out 1).trans rfl
          have hcz51_2 : wr.cell? ⟨gb111, 2, none⟩ = some (.int .i64 a0_2) := (blk_cell BK111.out 2).trans rfl
          have hfz51_0 := blk_frozen BK111.out 0
          have hfz51_1 := blk_frozen BK111.out 1
          have hfz51_2 := blk_frozen BK111.out 2
          have p117 : 0 ≤ (x5_2 : Int) := of_decide_eq_true (by first | (with_reducible assumption) | assumption)
          have q117 : x5_2 < (l0_0.length : Int) := of_decide_eq_true (by first | (with_reducible assumption) | assumption)
          obtain ⟨ad117, e117, hx117_0, hx117_1, hx117_2⟩ := at_T36 HR0_0.out x5_2 p117 q117
          cases e117
          replace hx117_0 := (HB.out.cell (World.block_lt_of_cell? w _ hx117_0)).trans hx117_0
          replace hx117_1 := (HB.out.cell (World.block_lt_of_cell? w _ hx117_1)).trans hx117_1
          replace hx117_2 := (HB.out.cell (World.block_lt_of_cell? w _ hx117_2)).trans hx117_2
          replace p117 := eq_true p117
          replace q117 := eq_true q117
          go_wp2_with (first | ((with_reducible refine gate_callee (f := 20) rfl ?_); refine goesL_ (some 84) rfl rfl Try.func20 (by kernel_rfl) rfl #[.agg #[.slice (some ad117) l0_0.length c0_0, .slice A0_1 l0_1.length c0_1, .int .i64 a0_2], .int .i64 ((rd_T36 l0_0 x5_2).f0)] rfl (by (try simp only [List.map_toArray, List.map_cons, List.map_nil]); first | done | rfl) ?_; (with_reducible refine (dataflowref27_Exit.calls k2 _ _ l0_0 _ _ l0_1 a0_2 ((rd_T36 l0_0 x5_2).f0) t118 t119 _ ?side1 ?side2 ?side3 ?side4 A43.out).mono ?_); (case side1 => repeat (first | exact (Kd.C_below HR0_0.out HB.out) | (with_reducible refine Kd.C_alloc ?_ _) | (with_reducible refine Kd.C_drewN ?_ _) | (with_reducible refine Kd.C_drew ?_))); (case side2 => exact HC0_0.out); (case side3 => repeat (first | exact (Kd.C_below HR0_1.out HB.out) | (with_reducible refine Kd.C_alloc ?_ _) | (with_reducible refine Kd.C_drewN ?_ _) | (with_reducible refine Kd.C_drew ?_))); (case side4 => exact HC0_1.out); rintro e w52 ⟨rfl, hb⟩; refine ⟨_, rfl, ?_⟩; have n0_ := Aside0.mk (blk_below (g := gb111) (o := .cells #[.slice (some ad117) l0_0.length c0_0, .slice A0_1 l0_1.length c0_1, .int .i64 a0_2] 25 (0, 0)) (by (with_reducible repeat first | apply bn | apply bd | apply ba); exact BK111.out) hb); have n1_ := Aside0.mk (below_step (by repeat with_reducible first | exact HB.out | apply below_alloc | apply pw_below_drewN | apply below_drew1 | refine below_set ?_ GE111.out) hb); clear BK111; clear HB; have BK111 := n0_; have HB := n1_; clear n0_ n1_; (try clear hb); (try clear hb2); (try clear hk); (try clear hi); have hcz53_0 : w52.cell? ⟨gb111, 0, none⟩ = some (.slice (some ad117) l0_0.length c0_0) := (blk_cell BK111.out 0).trans rfl; have hcz53_1 : w52.cell? ⟨gb111, 1, none⟩ = some (.slice A0_1 l0_1.length c0_1) := (blk_cell BK111.out 1).trans rfl; have hcz53_2 : w52.cell? ⟨gb111, 2, none⟩ = some (.int .i64 a0_2) := (blk_cell BK111.out 2).trans rfl; have hfz53_0 := blk_frozen BK111.out 0; have hfz53_1 := blk_frozen BK111.out 1; have hfz53_2 := blk_frozen BK111.out 2) | ((with_reducible refine gate_callee (f := 21) rfl ?_); refine goesL_ (some 89) rfl rfl Try.func21 (by kernel_rfl) rfl #[.agg #[.slice (some ad117) l0_0.length c0_0, .slice A0_1 l0_1.length c0_1, .int .i64 a0_2], .int .i64 ((rd_T36 l0_0 x5_2).f0)] rfl (by (try simp only [List.map_toArray, List.map_cons, List.map_nil]); first | done | rfl) ?_; (with_reducible refine (dataflowref27_Start.calls k2 _ _ l0_0 _ _ l0_1 a0_2 ((rd_T36 l0_0 x5_2).f0) t120 _ ?side1 ?side2 ?side3 ?side4 A44.out).mono ?_); (case side1 => repeat (first | exact (Kd.C_below HR0_0.out HB.out) | (with_reducible refine Kd.C_alloc ?_ _) | (with_reducible refine Kd.C_drewN ?_ _) | (with_reducible refine Kd.C_drew ?_))); (case side2 => exact HC0_0.out); (case side3 => repeat (first | exact (Kd.C_below HR0_1.out HB.out) | (with_reducible refine Kd.C_alloc ?_ _) | (with_reducible refine Kd.C_drewN ?_ _) | (with_reducible refine Kd.C_drew ?_))); (case side4 => exact HC0_1.out); rintro e w54 ⟨rfl, hb⟩; refine ⟨_, rfl, ?_⟩; have n0_ := Aside0.mk (blk_below (g := gb111) (o := .cells #[.slice (some ad117) l0_0.length c0_0, .slice A0_1 l0_1.length c0_1, .int .i64 a0_2] 25 (0, 0)) (by (with_reducible repeat first | apply bn | apply bd | apply ba); exact BK111.out) hb); have n1_ := Aside0.mk (below_step (by repeat with_reducible first | exact HB.out | apply below_alloc | apply pw_below_drewN | apply below_drew1 | refine below_set ?_ GE111.out) hb); clear BK111; clear HB; have BK111 := n0_; have HB := n1_; clear n0_ n1_; (try clear hb); (try clear hb2); (try clear hk); (try clear hi)))
          go_ret
          exact ⟨by first | rfl | (simp [errW_none, errW_some] <;> rfl) | (simp [*, errW_none, errW_some] <;> rfl), by repeat with_reducible first | exact HB.out | apply below_alloc | apply pw_below_drewN | apply below_drew1 | refine below_set ?_ GE111.out⟩
         ·rw [if_neg c50] at H
          have c50b0 : decide (t118 < 0) = false := decide_eq_false c50
          clear c50
          by_cases c55 : t119 < 0
          ·rw [if_pos c55] at H
           have c55b0 : decide (t119 < 0) = true := decide_eq_true c55
           clear c55
           obtain rfl := Option.some.inj H
           have hcz56_0 : wr.cell? ⟨gb111, 0, none⟩ = some (.slice A0_0 l0_0.length c0_0) := (blk_cell BK111.out 0).trans rfl
           have hcz56_1 : wr.cell? ⟨gb111, 1, none⟩ = some (.slice A0_1 l0_1.length c0_1) := (blk_cell BK111.out 1).trans rfl
           have hcz56_2 : wr.cell? ⟨gb111, 2, none⟩ = some (.int .i64 a0_2) := (blk_cell BK111.out 2).trans rfl
           have hfz56_0 := blk_frozen BK111.out 0
           have hfz56_1 := blk_frozen BK111.out 1
           have hfz56_2 := blk_frozen BK111.out 2
           have p117 : 0 ≤ (x5_2 : Int) := of_decide_eq_true (by first | (with_reducible assumption) | assumption)
           have q117 : x5_2 < (l0_0.length : Int) := of_decide_eq_true (by first | (with_reducible assumption) | assumption)
           obtain ⟨ad117, e117, hx117_0, hx117_1, hx117_2⟩ := at_T36 HR0_0.out x5_2 p117 q117
           cases e117
           replace hx117_0 := (HB.out.cell (World.block_lt_of_cell? w _ hx117_0)).trans hx117_0
           replace hx117_1 := (HB.out.cell (World.block_lt_of_cell? w _ hx117_1)).trans hx117_1
           replace hx117_2 := (HB.out.cell (World.block_lt_of_cell? w _ hx117_2)).trans hx117_2
           replace p117 := eq_true p117
           replace q117 := eq_true q117
           go_wp2_with (first | ((with_reducible refine gate_callee (f := 20) rfl ?_); refine goesL_ (some 84) rfl rfl Try.func20 (by kernel_rfl) rfl #[.agg #[.slice (some ad117) l0_0.length c0_0, .slice A0_1 l0_1.length c0_1, .int .i64 a0_2], .int .i64 ((rd_T36 l0_0 x5_2).f0)] rfl (by (try simp only [List.map_toArray, List.map_cons, List.map_nil]); first | done | rfl) ?_; (with_reducible refine (dataflowref27_Exit.calls k2 _ _ l0_0 _ _ l0_1 a0_2 ((rd_T36 l0_0 x5_2).f0) t118 t119 _ ?side1 ?side2 ?side3 ?side4 A43.out).mono ?_); (case side1 => repeat (first | exact (Kd.C_below HR0_0.out HB.out) | (with_reducible refine Kd.C_alloc ?_ _) | (with_reducible refine Kd.C_drewN ?_ _) | (with_reducible refine Kd.C_drew ?_))); (case side2 => exact HC0_0.out); (case side3 => repeat (first | exact (Kd.C_below HR0_1.out HB.out) | (with_reducible refine Kd.C_alloc ?_ _) | (with_reducible refine Kd.C_drewN ?_ _) | (with_reducible refine Kd.C_drew ?_))); (case side4 => exact HC0_1.out); rintro e w57 ⟨rfl, hb⟩; refine ⟨_, rfl, ?_⟩; have n0_ := Aside0.mk (blk_below (g := gb111) (o := .cells #[.slice (some ad117) l0_0.length c0_0, .slice A0_1 l0_1.length c0_1, .int .i64 a0_2] 25 (0, 0)) (by (with_reducible repeat first | apply bn | apply bd | apply ba); exact BK111.out) hb); have n1_ := Aside0.mk (below_step (by repeat with_reducible first | exact HB.out | apply below_alloc | apply pw_below_drewN | apply below_drew1 | refine below_set ?_ GE111.out) hb); clear BK111; clear HB; have BK111 := n0_; have HB := n1_; clear n0_ n1_; (try clear hb); (try clear hb2); (try clear hk); (try clear hi); have hcz58_0 : w57.cell? ⟨gb111, 0, none⟩ = some (.slice (some ad117) l0_0.length c0_0) := (blk_cell BK111.out 0).trans rfl; have hcz58_1 : w57.cell? ⟨gb111, 1, none⟩ = some (.slice A0_1 l0_1.length c0_1) := (blk_cell BK111.out 1).trans rfl; have hcz58_2 : w57.cell? ⟨gb111, 2, none⟩ = some (.int .i64 a0_2) := (blk_cell BK111.out 2).trans rfl; have hfz58_0 := blk_frozen BK111.out 0; have hfz58_1 := blk_frozen BK111.out 1; have hfz58_2 := blk_frozen BK111.out 2) | ((with_reducible refine gate_callee (f := 21) rfl ?_); refine goesL_ (some 89) rfl rfl Try.func21 (by kernel_rfl) rfl #[.agg #[.slice (some ad117) l0_0.length c0_0, .slice A0_1 l0_1.length c0_1, .int .i64 a0_2], .int .i64 ((rd_T36 l0_0 x5_2).f0)] rfl (by (try simp only [List.map_toArray, List.map_cons, List.map_nil]); first | done | rfl) ?_; (with_reducible refine (dataflowref27_Start.calls k2 _ _ l0_0 _ _ l0_1 a0_2 ((rd_T36 l0_0 x5_2).f0) t120 _ ?side1 ?side2 ?side3 ?side4 A44.out).mono ?_); (case side1 => repeat (first | exact (Kd.C_below HR0_0.out HB.out) | (with_reducible refine Kd.C_alloc ?_ _) | (with_reducible refine Kd.C_drewN ?_ _) | (with_reducible refine Kd.C_drew ?_))); (case side2 => exact HC0_0.out); (case side3 => repeat (first | exact (Kd.C_below HR0_1.out HB.out) | (with_reducible refine Kd.C_alloc ?_ _) | (with_reducible refine Kd.C_drewN ?_ _) | (with_reducible refine Kd.C_drew ?_))); (case side4 => exact HC0_1.out); rintro e w59 ⟨rfl, hb⟩; refine ⟨_, rfl, ?_⟩; have n0_ := Aside0.mk (blk_below (g := gb111) (o := .cells #[.slice (some ad117) l0_0.length c0_0, .slice A0_1 l0_1.length c0_1, .int .i64 a0_2] 25 (0, 0)) (by (with_reducible repeat first | apply bn | apply bd | apply ba); exact BK111.out) hb); have n1_ := Aside0.mk (below_step (by repeat with_reducible first | exact HB.out | apply below_alloc | apply pw_below_drewN | apply below_drew1 | refine below_set ?_ GE111.out) hb); clear BK111; clear HB; have BK111 := n0_; have HB := n1_; clear n0_ n1_; (try clear hb); (try clear hb2); (try clear hk); (try clear hi)))
           go_ret
           exact ⟨by first | rfl | (simp [errW_none, errW_some] <;> rfl) | (simp [*, errW_none, errW_some] <;> rfl), by repeat with_reducible first | exact HB.out | apply below_alloc | apply pw_below_drewN | apply below_drew1 | refine below_set ?_ GE111.out⟩
          ·rw [if_neg c55] at H
           have c55b0 : decide (t119 < 0) = false := decide_eq_false c55
           clear c55
           have H' := Aside0.mk H
           clear H
           have hcz60_0 : wr.cell? ⟨gb111, 0, none⟩ = some (.slice A0_0 l0_0.length c0_0) := (blk_cell BK111.out 0).trans rfl
           have hcz60_1 : wr.cell? ⟨gb111, 1, none⟩ = some (.slice A0_1 l0_1.length c0_1) := (blk_cell BK111.out 1).trans rfl
           have hcz60_2 : wr.cell? ⟨gb111, 2, none⟩ = some (.int .i64 a0_2) := (blk_cell BK111.out 2).trans rfl
           have hfz60_0 := blk_frozen BK111.out 0
           have hfz60_1 := blk_frozen BK111.out 1
           have hfz60_2 := blk_frozen BK111.out 2
           have p117 : 0 ≤ (x5_2 : Int) := of_decide_eq_true (by first | (with_reducible assumption) | assumption)
           have q117 : x5_2 < (l0_0.length : Int) := of_decide_eq_true (by first | (with_reducible assumption) | assumption)
           obtain ⟨ad117, e117, hx117_0, hx117_1, hx117_2⟩ := at_T36 HR0_0.out x5_2 p117 q117
           cases e117
           replace hx117_0 := (HB.out.cell (World.block_lt_of_cell? w _ hx117_0)).trans hx117_0
           replace hx117_1 := (HB.out.cell (World.block_lt_of_cell? w _ hx117_1)).trans hx117_1
           replace hx117_2 := (HB.out.cell (World.block_lt_of_cell? w _ hx117_2)).trans hx117_2
           replace p117 := eq_true p117
           replace q117 := eq_true q117
           go_wp2_with (first | ((with_reducible refine gate_callee (f := 20) rfl ?_); refine goesL_ (some 84) rfl rfl Try.func20 (by kernel_rfl) rfl #[.agg #[.slice (some ad117) l0_0.length c0_0, .slice A0_1 l0_1.length c0_1, .int .i64 a0_2], .int .i64 ((rd_T36 l0_0 x5_2).f0)] rfl (by (try simp only [List.map_toArray, List.map_cons, List.map_nil]); first | done | rfl) ?_; (with_reducible refine (dataflowref27_Exit.calls k2 _ _ l0_0 _ _ l0_1 a0_2 ((rd_T36 l0_0 x5_2).f0) t118 t119 _ ?side1 ?side2 ?side3 ?side4 A43.out).mono ?_); (case side1 => repeat (first | exact (Kd.C_below HR0_0.out HB.out) | (with_reducible refine Kd.C_alloc ?_ _) | (with_reducible refine Kd.C_drewN ?_ _) | (with_reducible refine Kd.C_drew ?_))); (case side2 => exact HC0_0.out); (case side3 => repeat (first | exact (Kd.C_below HR0_1.out HB.out) | (with_reducible refine Kd.C_alloc ?_ _) | (with_reducible refine Kd.C_drewN ?_ _) | (with_reducible refine Kd.C_drew ?_))); (case side4 => exact HC0_1.out); rintro e w61 ⟨rfl, hb⟩; refine ⟨_, rfl, ?_⟩; have n0_ := Aside0.mk (blk_below (g := gb111) (o := .cells #[.slice (some ad117) l0_0.length c0_0, .slice A0_1 l0_1.length c0_1, .int .i64 a0_2] 25 (0, 0)) (by (with_reducible repeat first | apply bn | apply bd | apply ba); exact BK111.out) hb); have n1_ := Aside0.mk (below_step (by repeat with_reducible first | exact HB.out | apply below_alloc | apply pw_below_drewN | apply below_drew1 | refine below_set ?_ GE111.out) hb); clear BK111; clear HB; have BK111 := n0_; have HB := n1_; clear n0_ n1_; (try clear hb); (try clear hb2); (try clear hk); (try clear hi); have hcz62_0 : w61.cell? ⟨gb111, 0, none⟩ = some (.slice (some ad117) l0_0.length c0_0) := (blk_cell BK111.out 0).trans rfl; have hcz62_1 : w61.cell? ⟨gb111, 1, none⟩ = some (.slice A0_1 l0_1.length c0_1) := (blk_cell BK111.out 1).trans rfl; have hcz62_2 : w61.cell? ⟨gb111, 2, none⟩ = some (.int .i64 a0_2) := (blk_cell BK111.out 2).trans rfl; have hfz62_0 := blk_frozen BK111.out 0; have hfz62_1 := blk_frozen BK111.out 1; have hfz62_2 := blk_frozen BK111.out 2) | ((with_reducible refine gate_callee (f := 21) rfl ?_); refine goesL_ (some 89) rfl rfl Try.func21 (by kernel_rfl) rfl #[.agg #[.slice (some ad117) l0_0.length c0_0, .slice A0_1 l0_1.length c0_1, .int .i64 a0_2], .int .i64 ((rd_T36 l0_0 x5_2).f0)] rfl (by (try simp only [List.map_toArray, List.map_cons, List.map_nil]); first | done | rfl) ?_; (with_reducible refine (dataflowref27_Start.calls k2 _ _ l0_0 _ _ l0_1 a0_2 ((rd_T36 l0_0 x5_2).f0) t120 _ ?side1 ?side2 ?side3 ?side4 A44.out).mono ?_); (case side1 => repeat (first | exact (Kd.C_below HR0_0.out HB.out) | (with_reducible refine Kd.C_alloc ?_ _) | (with_reducible refine Kd.C_drewN ?_ _) | (with_reducible refine Kd.C_drew ?_))); (case side2 => exact HC0_0.out); (case side3 => repeat (first | exact (Kd.C_below HR0_1.out HB.out) | (with_reducible refine Kd.C_alloc ?_ _) | (with_reducible refine Kd.C_drewN ?_ _) | (with_reducible refine Kd.C_drew ?_))); (case side4 => exact HC0_1.out); rintro e w63 ⟨rfl, hb⟩; refine ⟨_, rfl, ?_⟩; have n0_ := Aside0.mk (blk_below (g := gb111) (o := .cells #[.slice (some ad117) l0_0.length c0_0, .slice A0_1 l0_1.length c0_1, .int .i64 a0_2] 25 (0, 0)) (by (with_reducible repeat first | apply bn | apply bd | apply ba); exact BK111.out) hb); have n1_ := Aside0.mk (below_step (by repeat with_reducible first | exact HB.out | apply below_alloc | apply pw_below_drewN | apply below_drew1 | refine below_set ?_ GE111.out) hb); clear BK111; clear HB; have BK111 := n0_; have HB := n1_; clear n0_ n1_; (try clear hb); (try clear hb2); (try clear hk); (try clear hi)))
           go_roundg k2
           case measure => have := HK1.out; have := HK2.out; omega
           case rel => exact ⟨(wrap64 (x5_2 + 1)), (by first | rfl | (simp; done) | (simp [*]; done)), H', ⟨by have := HK1.out; have := HK2.out; omega⟩, ⟨by (with_reducible repeat first | apply bn | apply bd | apply ba); exact BK111.out⟩, ⟨by repeat with_reducible first | exact HB.out | apply below_alloc | apply pw_below_drewN | apply below_drew1 | refine below_set ?_ GE111.out⟩⟩
       ·rw [if_neg c42] at H
        exact absurd H (by simp)
      ·rw [if_neg c41] at H
       have c41b0 : decide (x5_2 < (l0_0.length : Int)) = false := decide_eq_false c41
       clear c41
       by_cases c64 : a0_2 < 0
       ·rw [if_pos c64] at H
        have c64b0 : decide (a0_2 < 0) = true := decide_eq_true c64
        clear c64
        obtain rfl := Option.some.inj H
        have hcz65_0 : wr.cell? ⟨gb111, 0, none⟩ = some (.slice A0_0 l0_0.length c0_0) := (blk_cell BK111.out 0).trans rfl
        have hcz65_1 : wr.cell? ⟨gb111, 1, none⟩ = some (.slice A0_1 l0_1.length c0_1) := (blk_cell BK111.out 1).trans rfl
        have hcz65_2 : wr.cell? ⟨gb111, 2, none⟩ = some (.int .i64 a0_2) := (blk_cell BK111.out 2).trans rfl
        have hfz65_0 := blk_frozen BK111.out 0
        have hfz65_1 := blk_frozen BK111.out 1
        have hfz65_2 := blk_frozen BK111.out 2
        go_wp2
        go_ret
        exact ⟨by first | rfl | (simp [errW_none, errW_some] <;> rfl) | (simp [*, errW_none, errW_some] <;> rfl), by repeat with_reducible first | exact HB.out | apply below_alloc | apply pw_below_drewN | apply below_drew1 | refine below_set ?_ GE111.out⟩
       ·rw [if_neg c64] at H
        have c64b0 : decide (a0_2 < 0) = false := decide_eq_false c64
        clear c64
        by_cases c66 : a0_2 ≥ (l0_0.length : Int)
        ·rw [if_pos c66] at H
         have c66b0 : decide ((l0_0.length : Int) ≤ a0_2) = true := decide_eq_true c66
         clear c66
         obtain rfl := Option.some.inj H
         have hcz67_0 : wr.cell? ⟨gb111, 0, none⟩ = some (.slice A0_0 l0_0.length c0_0) := (blk_cell BK111.out 0).trans rfl
         have hcz67_1 : wr.cell? ⟨gb111, 1, none⟩ = some (.slice A0_1 l0_1.length c0_1) := (blk_cell BK111.out 1).trans rfl
         have hcz67_2 : wr.cell? ⟨gb111, 2, none⟩ = some (.int .i64 a0_2) := (blk_cell BK111.out 2).trans rfl
         have hfz67_0 := blk_frozen BK111.out 0
         have hfz67_1 := blk_frozen BK111.out 1
         have hfz67_2 := blk_frozen BK111.out 2
         go_wp2
         go_ret
         exact ⟨by first | rfl | (simp [errW_none, errW_some] <;> rfl) | (simp [*, errW_none, errW_some] <;> rfl), by repeat with_reducible first | exact HB.out | apply below_alloc | apply pw_below_drewN | apply below_drew1 | refine below_set ?_ GE111.out⟩
        ·rw [if_neg c66] at H
         have c66b0 : decide ((l0_0.length : Int) ≤ a0_2) = false := decide_eq_false c66
         clear c66
         by_cases c68 : 0 ≤ a0_2
         ·rw [if_pos c68] at H
          have c68b0 : decide (0 ≤ a0_2) = true := decide_eq_true c68
          clear c68
          by_cases c69 : a0_2 < (l0_0.length : Int)
          ·rw [if_pos c69] at H
           have c69b0 : decide (a0_2 < (l0_0.length : Int)) = true := decide_eq_true c69
           clear c69
           by_cases c70 : ((rd_T36 l0_0 a0_2).f1) = 1
           ·rw [if_pos c70] at H
            have c70b0 : (((rd_T36 l0_0 a0_2).f1) == 1) = true := beq_iff_eq.mpr c70
            have c70b1 : (((rd_T36 l0_0 a0_2).f1) != 1) = false := bne_eq_false_iff_eq.mpr c70
            clear c70
            obtain rfl := Option.some.inj H
            have hcz71_0 : wr.cell? ⟨gb111, 0, none⟩ = some (.slice A0_0 l0_0.length c0_0) := (blk_cell BK111.out 0).trans rfl
            have hcz71_1 : wr.cell? ⟨gb111, 1, none⟩ = some (.slice A0_1 l0_1.length c0_1) := (blk_cell BK111.out 1).trans rfl
            have hcz71_2 : wr.cell? ⟨gb111, 2, none⟩ = some (.int .i64 a0_2) := (blk_cell BK111.out 2).trans rfl
            have hfz71_0 := blk_frozen BK111.out 0
            have hfz71_1 := blk_frozen BK111.out 1
            have hfz71_2 := blk_frozen BK111.out 2
            have p116 : 0 ≤ (a0_2 : Int) := of_decide_eq_true (by first | (with_reducible assumption) | assumption)
            have q116 : a0_2 < (l0_0.length : Int) := of_decide_eq_true (by first | (with_reducible assumption) | assumption)
            obtain ⟨ad116, e116, hx116_0, hx116_1, hx116_2⟩ := at_T36 HR0_0.out a0_2 p116 q116
            cases e116
            replace hx116_0 := (HB.out.cell (World.block_lt_of_cell? w _ hx116_0)).trans hx116_0
            replace hx116_1 := (HB.out.cell (World.block_lt_of_cell? w _ hx116_1)).trans hx116_1
            replace hx116_2 := (HB.out.cell (World.block_lt_of_cell? w _ hx116_2)).trans hx116_2
            replace p116 := eq_true p116
            replace q116 := eq_true q116
            go_wp2
            go_ret
            exact ⟨by first | rfl | (simp [errW_none, errW_some] <;> rfl) | (simp [*, errW_none, errW_some] <;> rfl), by repeat with_reducible first | exact HB.out | apply below_alloc | apply pw_below_drewN | apply below_drew1 | refine below_set ?_ GE111.out⟩
           ·rw [if_neg c70] at H
            have c70b0 : (((rd_T36 l0_0 a0_2).f1) == 1) = false := beq_eq_false_iff_ne.mpr c70
            have c70b1 : (((rd_T36 l0_0 a0_2).f1) != 1) = true := bne_iff_ne.mpr c70
            obtain rfl := Option.some.inj H
            have hcz72_0 : wr.cell? ⟨gb111, 0, none⟩ = some (.slice A0_0 l0_0.length c0_0) := (blk_cell BK111.out 0).trans rfl
            have hcz72_1 : wr.cell? ⟨gb111, 1, none⟩ = some (.slice A0_1 l0_1.length c0_1) := (blk_cell BK111.out 1).trans rfl
            have hcz72_2 : wr.cell? ⟨gb111, 2, none⟩ = some (.int .i64 a0_2) := (blk_cell BK111.out 2).trans rfl
            have hfz72_0 := blk_frozen BK111.out 0
            have hfz72_1 := blk_frozen BK111.out 1
            have hfz72_2 := blk_frozen BK111.out 2
            have p116 : 0 ≤ (a0_2 : Int) := of_decide_eq_true (by first | (with_reducible assumption) | assumption)
            have q116 : a0_2 < (l0_0.length : Int) := of_decide_eq_true (by first | (with_reducible assumption) | assumption)
            obtain ⟨ad116, e116, hx116_0, hx116_1, hx116_2⟩ := at_T36 HR0_0.out a0_2 p116 q116
            cases e116
            replace hx116_0 := (HB.out.cell (World.block_lt_of_cell? w _ hx116_0)).trans hx116_0
            replace hx116_1 := (HB.out.cell (World.block_lt_of_cell? w _ hx116_1)).trans hx116_1
            replace hx116_2 := (HB.out.cell (World.block_lt_of_cell? w _ hx116_2)).trans hx116_2
            replace p116 := eq_true p116
            replace q116 := eq_true q116
            go_wp2
            go_ret
            exact ⟨by first | rfl | (simp [errW_none, errW_some] <;> rfl) | (simp [*, errW_none, errW_some] <;> rfl), by repeat with_reducible first | exact HB.out | apply below_alloc | apply pw_below_drewN | apply below_drew1 | refine below_set ?_ GE111.out⟩
          ·rw [if_neg c69] at H
           exact absurd H (by simp)
         ·rw [if_neg c68] at H
          exact absurd H (by simp)

end Go.Proofs.Ytbmhpnegigccnaa.PS
