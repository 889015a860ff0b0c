/- Printed by a program of this session out of the translation: plain functions with the answers of the Go functions, and the proofs that they have them. -/
import Derived.Test.YtbmhpnegigccnaaS3
namespace Go.Proofs.Ytbmhpnegigccnaa.PS
open Go.RowKit Go.Proofs.YtbmhpnegigccnaaW.PrintWords Go.Proofs.YtbmhpnegigccnaaW.PrintLast Go.Proofs.YtbmhpnegigccnaaW.PrintMore
attribute [local go_sem] max2_int min2_int max_two min_two max_three min_three max_four min_four   -- for this text's walks alone
set_option linter.unusedVariables false
set_option linter.unusedSimpArgs false

/-! ### fitsC: function 13 -/
def fitsC.j0 : Nat → Bool → List (S36) → Int → Bool → List (S36) → List (S33) → Int → Int → Int → Int → Int → Int → Int → Int → Int → Int → Int → Option (Bool)
 | 0, _, _, _, _, _, _, _, _, _, _, _, _, _, _, _, _, _ => none
 | k + 1, x4, x9, x21, x22, x129000, x129001, x129002, x130000, x130001, x130002, x130003, x133000, x133001, x133002, x134000, x134001, x134002 => if x22 = true then (if 0 ≤ (-1) then (if (-1) < (x9.length : Int) then (some x4) else (none)) else (none)) else (if x21 = 2 then (if 0 ≤ (-1) then (if (-1) < (x9.length : Int) then (some x4) else (none)) else (none)) else (if 0 ≤ x130003 then (if x130003 < (x129000.length : Int) then (if x130002 = 3 then (if x133001 = 3 then (if x130002 = 4 then (none) else (if ((rd_T36 x129000 x130003).f1) = 2 then ((dataflowref27_calls.f k x129000 x129001 x129002 x130003 x133000).bind fun t139 => (if t139 = true then (if x134000 = ((rd_T36 x129000 x130003).f0) then (some (x134001 != 1)) else (some false)) else (some false))) else (some false))) else (some false)) else (if x130002 = 4 then (if x133001 = 4 then (if ((rd_T36 x129000 x130003).f1) = 2 then ((dataflowref27_calls.f k x129000 x129001 x129002 x130003 x133000).bind fun t140 => (if t140 = true then (if x134000 = ((rd_T36 x129000 x130003).f0) then (some (x134001 != 1)) else (some false)) else (some false))) else (some false)) else (some false)) else (none))) else (none)) else (none)))
def fitsC.f (k : Nat) (l0_0 : List (S36)) (l0_1 : List (S33)) (a0_2 : Int) (a1_0 : Int) (a1_1 : Int) (a1_2 : Int) (a1_3 : Int) : Option (Bool) := if 0 ≤ a1_0 then (if a1_0 < (l0_0.length : Int) then (if 0 ≤ a1_1 then (if a1_1 < (l0_0.length : Int) then (if a1_2 = 1 then (fitsC.j0 k false l0_0 a1_2 (a1_2 == 1) l0_0 l0_1 a0_2 a1_0 a1_1 a1_2 a1_3 ((rd_T36 l0_0 a1_0).f0) ((rd_T36 l0_0 a1_0).f1) ((rd_T36 l0_0 a1_0).f2) ((rd_T36 l0_0 a1_1).f0) ((rd_T36 l0_0 a1_1).f1) ((rd_T36 l0_0 a1_1).f2)) else (fitsC.j0 k false l0_0 a1_2 (a1_2 == 5) l0_0 l0_1 a0_2 a1_0 a1_1 a1_2 a1_3 ((rd_T36 l0_0 a1_0).f0) ((rd_T36 l0_0 a1_0).f1) ((rd_T36 l0_0 a1_0).f2) ((rd_T36 l0_0 a1_1).f0) ((rd_T36 l0_0 a1_1).f1) ((rd_T36 l0_0 a1_1).f2))) else (none)) else (none)) else (none)) else (none)
theorem fitsC.mono_l : ∀ k, (∀ y0 y1 y2 y3 y4 y5 y6 y7 y8 y9 y10 y11 y12 y13 y14 y15 y16, LeO (fitsC.j0 k y0 y1 y2 y3 y4 y5 y6 y7 y8 y9 y10 y11 y12 y13 y14 y15 y16) (fitsC.j0 (k + 1) y0 y1 y2 y3 y4 y5 y6 y7 y8 y9 y10 y11 y12 y13 y14 y15 y16))
 | 0 => fun _ _ _ _ _ _ _ _ _ _ _ _ _ _ _ _ _ r h => by simp [fitsC.j0] at h
 | k + 1 => by
  have ih0 := fitsC.mono_l k
  ·intro y0 y1 y2 y3 y4 y5 y6 y7 y8 y9 y10 y11 y12 y13 y14 y15 y16
   unfold fitsC.j0
   repeat' first
   | (with_reducible exact ih0 _ _ _ _ _ _ _ _ _ _ _ _ _ _ _ _ _)
   | (with_reducible exact dataflowref27_calls.mono _ _ _ _ _ _)
   | (with_reducible exact LeO.refl _)
   | (with_reducible exact LeO.none _)
   | (with_reducible refine LeO.ite ?_ ?_)
   | (with_reducible refine LeO.bind ?_ (fun _ => ?_))
   | exact ih0 _ _ _ _ _ _ _ _ _ _ _ _ _ _ _ _ _
   | exact dataflowref27_calls.mono _ _ _ _ _ _
   | exact LeO.none _
   | refine LeO.ite ?_ ?_
   | refine LeO.bind ?_ (fun _ => ?_)
theorem fitsC.mono : ∀ a0 a1 a2 a3 a4 a5 a6 k, LeO (fitsC.f k a0 a1 a2 a3 a4 a5 a6) (fitsC.f (k + 1) a0 a1 a2 a3 a4 a5 a6) := by
 intro a0 a1 a2 a3 a4 a5 a6 k
 have ih0 := fitsC.mono_l k
 unfold fitsC.f
 repeat' first
   | (with_reducible exact ih0 _ _ _ _ _ _ _ _ _ _ _ _ _ _ _ _ _)
   | (with_reducible exact dataflowref27_calls.mono _ _ _ _ _ _)
   | (with_reducible exact LeO.refl _)
   | (with_reducible exact LeO.none _)
   | (with_reducible refine LeO.ite ?_ ?_)
   | (with_reducible refine LeO.bind ?_ (fun _ => ?_))
   | exact ih0 _ _ _ _ _ _ _ _ _ _ _ _ _ _ _ _ _
   | exact dataflowref27_calls.mono _ _ _ _ _ _
   | exact LeO.none _
   | refine LeO.ite ?_ ?_
   | refine LeO.bind ?_ (fun _ => ?_)
def fitsC.T1 : Bool × List (List Nat × List Nat) := (true, [([], []), ([0], [0]), ([], []), ([2], [2]), ([1, 3], [1, 3]), ([4], [4]), ([], []), ([6], [6]), ([], []), ([8], [8]), ([7, 9], [7, 9]), ([10], [10]), ([], []), ([], []), ([12, 5, 0, 1, 2, 3, 4, 5, 12, 13], [5, 12]), ([13, 11, 14, 0, 1, 2, 3, 4, 5, 6, 7, 8, 9, 10, 11, 12, 13, 14], [11, 13])])
def fitsC.B1 : List Nat := [0, 1, 0, 4, 15, 31, 0, 64, 0, 256, 960, 1984, 0, 0, 12351, 32767]
theorem fitsC.tab1 : rtab .any (opsOf Try.f13 1) = fitsC.T1 := by kernel_rfl
theorem fitsC.bits1 : waitsOk fitsC.T1.2 fitsC.B1 = true := by kernel_rfl
set_option maxHeartbeats 8000000 in
set_option maxRecDepth 100000 in
theorem fitsC.calls (k : Nat) (A0_0 : Option Addr) (c0_0 : Nat) (l0_0 : List (S36)) (A0_1 : Option Addr) (c0_1 : Nat) (l0_1 : List (S33)) (a0_2 : Int) (a1_0 : Int) (a1_1 : Int) (a1_2 : Int) (a1_3 : Int) (r : Bool) (w : World) (hr0_0 : Kd.C k36 w A0_0 l0_0.length l0_0) (hc0_0 : l0_0.length ≤ c0_0) (hr0_1 : Kd.C k33 w A0_1 l0_1.length l0_1) (hc0_1 : l0_1.length ≤ c0_1) (h : fitsC.f k l0_0 l0_1 a0_2 a1_0 a1_1 a1_2 a1_3 = some r) :
  Calls Try.prog 13 #[.agg #[.slice A0_0 l0_0.length c0_0, .slice A0_1 l0_1.length c0_1, .int .i64 a0_2], .agg #[.int .i64 a1_0, .int .i64 a1_1, .int .i64 a1_2, .int .i64 a1_3]] w fun e w' => e = .returned (.bool r) ∧ Below w.heap.size w w' := by
 have hu25 := Try.underlying25
 have hu33 := Try.underlying33
 have hu36 := Try.underlying36
 have HR0_0 := Aside0.mk hr0_0
 have HC0_0 := Aside0.mk hc0_0
 clear hr0_0 hc0_0
 have HR0_1 := Aside0.mk hr0_1
 have HC0_1 := Aside0.mk hc0_1
 clear hr0_1 hc0_1
 have HB := Aside0.mk (Below.refl w.heap.size w)
 have H : (if 0 ≤ a1_0 then (if a1_0 < (l0_0.length : Int) then (if 0 ≤ a1_1 then (if a1_1 < (l0_0.length : Int) then (if a1_2 = 1 then (fitsC.j0 k false l0_0 a1_2 (a1_2 == 1) l0_0 l0_1 a0_2 a1_0 a1_1 a1_2 a1_3 ((rd_T36 l0_0 a1_0).f0) ((rd_T36 l0_0 a1_0).f1) ((rd_T36 l0_0 a1_0).f2) ((rd_T36 l0_0 a1_1).f0) ((rd_T36 l0_0 a1_1).f1) ((rd_T36 l0_0 a1_1).f2)) else (fitsC.j0 k false l0_0 a1_2 (a1_2 == 5) l0_0 l0_1 a0_2 a1_0 a1_1 a1_2 a1_3 ((rd_T36 l0_0 a1_0).f0) ((rd_T36 l0_0 a1_0).f1) ((rd_T36 l0_0 a1_0).f2) ((rd_T36 l0_0 a1_1).f0) ((rd_T36 l0_0 a1_1).f1) ((rd_T36 l0_0 a1_1).f2))) else (none)) else (none)) else (none)) else (none)) = some r := h
 clear h
 by_cases c3 : 0 ≤ a1_0
 ·rw [if_pos c3] at H
  have c3b0 : decide (0 ≤ a1_0) = true := decide_eq_true c3
  clear c3
  by_cases c4 : a1_0 < (l0_0.length : Int)
  ·rw [if_pos c4] at H
   have c4b0 : decide (a1_0 < (l0_0.length : Int)) = true := decide_eq_true c4
   clear c4
   by_cases c5 : 0 ≤ a1_1
   ·rw [if_pos c5] at H
    have c5b0 : decide (0 ≤ a1_1) = true := decide_eq_true c5
    clear c5
    by_cases c6 : a1_1 < (l0_0.length : Int)
    ·rw [if_pos c6] at H
     have c6b0 : decide (a1_1 < (l0_0.length : Int)) = true := decide_eq_true c6
     clear c6
     have HC7 := Aside0.mk H
     clear H
     go_enter Try.func13, Try.ntmps13
     try go_wp2_with (first | ((with_reducible refine gate_dst (N := 2) rfl ?_); refine box_event ?hg (N := 2) ?hd (cs := #[.slice A0_0 l0_0.length c0_0, .slice A0_1 l0_1.length c0_1, .int .i64 a0_2]) (t := 25) ?hr ?_; (case hd => rfl); (case hg => rfl); (case hr => first | (go_simp; done) | (go_simp; rfl)); intro gb128 hg w8 hbox hb; have n0_ := Aside0.mk (below_step (by repeat with_reducible first | exact HB.out | apply below_alloc | apply pw_below_drewN | apply below_drew1) hb); have n1_ := Aside0.mk (hbox); have n2_ := Aside0.mk ((by rw [hg]; exact (below_size (by repeat with_reducible first | exact HB.out | apply below_alloc | apply pw_below_drewN | apply below_drew1)) : w.heap.size ≤ gb128)); have n3_ := Aside0.mk ((by rw [hg]; exact (below_size (by repeat with_reducible first | exact HB.out | apply below_alloc | apply pw_below_drewN | apply below_drew1)) : w.heap.size ≤ gb128)); clear HB; have HB := n0_; have BK128 := n1_; have GW128 := n2_; have GE128 := n3_; clear n0_ n1_ n2_ n3_; clear hb hbox hg) | ((with_reducible refine gate_dst (N := 3) rfl ?_); refine box_event ?hg (N := 3) ?hd (cs := #[.int .i64 a1_0, .int .i64 a1_1, .int .i64 a1_2, .int .i64 a1_3]) (t := 33) ?hr ?_; (case hd => rfl); (case hg => rfl); (case hr => first | (go_simp; done) | (go_simp; rfl)); intro gb129 hg w9 hbox hb; have n0_ := Aside0.mk (blk_below (g := gb128) (o := .cells #[.slice A0_0 l0_0.length c0_0, .slice A0_1 l0_1.length c0_1, .int .i64 a0_2] 25 (0, 0)) (by (with_reducible repeat first | apply bn | apply bd | apply ba); exact BK128.out) hb); have n1_ := Aside0.mk (below_step (by repeat with_reducible first | exact HB.out | apply below_alloc | apply pw_below_drewN | apply below_drew1 | refine below_set ?_ GE128.out) hb); have n2_ := Aside0.mk (hbox); have n3_ := Aside0.mk ((by rw [hg]; exact (below_size (by repeat with_reducible first | exact HB.out | apply below_alloc | apply pw_below_drewN | apply below_drew1 | refine below_set ?_ GE128.out)) : w.heap.size ≤ gb129)); have n4_ := Aside0.mk ((by rw [hg]; exact (below_size (by repeat with_reducible first | exact HB.out | apply below_alloc | apply pw_below_drewN | apply below_drew1 | refine below_set ?_ GE128.out)) : w.heap.size ≤ gb129)); have n5_ := Aside0.mk ((by rw [hg]; exact Nat.ne_of_lt (blk_lt (g := gb128) (o := .cells #[.slice A0_0 l0_0.length c0_0, .slice A0_1 l0_1.length c0_1, .int .i64 a0_2] 25 (0, 0)) (by (with_reducible repeat first | apply bn | apply bd | apply ba); exact BK128.out)) : gb128 ≠ gb129)); have n6_ := Aside0.mk ((by rw [hg]; exact Nat.ne_of_gt (blk_lt (g := gb128) (o := .cells #[.slice A0_0 l0_0.length c0_0, .slice A0_1 l0_1.length c0_1, .int .i64 a0_2] 25 (0, 0)) (by (with_reducible repeat first | apply bn | apply bd | apply ba); exact BK128.out)) : gb129 ≠ gb128)); clear BK128; clear HB; have BK128 := n0_; have HB := n1_; have BK129 := n2_; have GW129 := n3_; have GE129 := n4_; have NB128_129 := n5_; have NB129_128 := n6_; clear n0_ n1_ n2_ n3_ n4_ n5_ n6_; clear hb hbox hg))
     have n0_ := Aside0.mk (blk_drew BK128.out)
     have n1_ := Aside0.mk (blk_drew BK129.out)
     have n2_ := Aside0.mk (below_drew1 HB.out)
     clear BK128
     clear BK129
     clear HB
     have BK128 := n0_
     have BK129 := n1_
     have HB := n2_
     clear n0_ n1_ n2_
     have p130 : 0 ≤ (a1_0 : Int) := of_decide_eq_true (by first | (with_reducible assumption) | assumption)
     have q130 : a1_0 < (l0_0.length : Int) := of_decide_eq_true (by first | (with_reducible assumption) | assumption)
     obtain ⟨ad130, e130, hx130_0, hx130_1, hx130_2⟩ := at_T36 HR0_0.out a1_0 p130 q130
     have hw130_2 := hx130_2
     have hw130_1 := hx130_1
     have hw130_0 := hx130_0
     cases e130
     replace hx130_0 := (HB.out.cell (World.block_lt_of_cell? w _ hx130_0)).trans hx130_0
     replace hx130_1 := (HB.out.cell (World.block_lt_of_cell? w _ hx130_1)).trans hx130_1
     replace hx130_2 := (HB.out.cell (World.block_lt_of_cell? w _ hx130_2)).trans hx130_2
     replace p130 := eq_true p130
     replace q130 := eq_true q130
     have p131 : 0 ≤ (a1_1 : Int) := of_decide_eq_true (by first | (with_reducible assumption) | assumption)
     have q131 : a1_1 < (l0_0.length : Int) := of_decide_eq_true (by first | (with_reducible assumption) | assumption)
     obtain ⟨ad131, e131, hx131_0, hx131_1, hx131_2⟩ := at_T36 HR0_0.out a1_1 p131 q131
     have hw131_2 := hx131_2
     have hw131_1 := hx131_1
     have hw131_0 := hx131_0
     obtain rfl : ad130 = ad131 := (by injection e131)
     replace hx131_0 := (HB.out.cell (World.block_lt_of_cell? w _ hx131_0)).trans hx131_0
     replace hx131_1 := (HB.out.cell (World.block_lt_of_cell? w _ hx131_1)).trans hx131_1
     replace hx131_2 := (HB.out.cell (World.block_lt_of_cell? w _ hx131_2)).trans hx131_2
     replace p131 := eq_true p131
     replace q131 := eq_true q131
     refine start_ (n := 16) (S := fun w' => w'.cell? ⟨gb128, 0, none⟩ = some (.slice (some ad130) l0_0.length c0_0) ∧ w'.cell? ⟨gb128, 1, none⟩ = some (.slice A0_1 l0_1.length c0_1) ∧ w'.cell? ⟨gb128, 2, none⟩ = some (.int .i64 a0_2) ∧ w'.cell? ⟨gb129, 0, none⟩ = some (.int .i64 a1_0) ∧ w'.cell? ⟨gb129, 1, none⟩ = some (.int .i64 a1_1) ∧ w'.cell? ⟨gb129, 2, none⟩ = some (.int .i64 a1_2) ∧ w'.cell? ⟨gb129, 3, none⟩ = some (.int .i64 a1_3) ∧ w'.cell? (ad130.add ((a1_0).toNat * 3)) = some (.int .i64 ((rd_T36 l0_0 a1_0).f0)) ∧ w'.cell? ⟨(ad130.add ((a1_0).toNat * 3)).block, (ad130.add ((a1_0).toNat * 3)).off + 1, none⟩ = some (.int .i64 ((rd_T36 l0_0 a1_0).f1)) ∧ w'.cell? ⟨(ad130.add ((a1_0).toNat * 3)).block, (ad130.add ((a1_0).toNat * 3)).off + 2, none⟩ = some (.int .i64 ((rd_T36 l0_0 a1_0).f2)) ∧ w'.cell? (ad130.add ((a1_1).toNat * 3)) = some (.int .i64 ((rd_T36 l0_0 a1_1).f0)) ∧ w'.cell? ⟨(ad130.add ((a1_1).toNat * 3)).block, (ad130.add ((a1_1).toNat * 3)).off + 1, none⟩ = some (.int .i64 ((rd_T36 l0_0 a1_1).f1)) ∧ w'.cell? ⟨(ad130.add ((a1_1).toNat * 3)).block, (ad130.add ((a1_1).toNat * 3)).off + 2, none⟩ = some (.int .i64 ((rd_T36 l0_0 a1_1).f2))) (ds := []) #[false, false, false, false, false, false, false, false, false, false, false, false, false, false, false, false] (by kernel_rfl) rfl rfl ⟨(blk_cell BK128.out 0).trans rfl, (blk_cell BK128.out 1).trans rfl, (blk_cell BK128.out 2).trans rfl, (blk_cell BK129.out 0).trans rfl, (blk_cell BK129.out 1).trans rfl, (blk_cell BK129.out 2).trans rfl, (blk_cell BK129.out 3).trans rfl, ((HB.out.cell (World.block_lt_of_cell? w _ hw130_0)).trans hw130_0), ((HB.out.cell (World.block_lt_of_cell? w _ hw130_1)).trans hw130_1), ((HB.out.cell (World.block_lt_of_cell? w _ hw130_2)).trans hw130_2), ((HB.out.cell (World.block_lt_of_cell? w _ hw131_0)).trans hw131_0), ((HB.out.cell (World.block_lt_of_cell? w _ hw131_1)).trans hw131_1), ((HB.out.cell (World.block_lt_of_cell? w _ hw131_2)).trans hw131_2)⟩ (fun hHeld => ?_); refine with_tabW fitsC.tab1 fitsC.bits1 (fun HT_ HW_ => ?_)
     generalize w9.drew = w10 at BK128 BK129 HB hx130_0 hx130_1 hx130_2 hx131_0 hx131_1 hx131_2 hHeld ⊢
     refine pure_ (i := 0) (N := some 8) (v := ?_) (a' := ?_) #[true, false, false, false, false, false, false, false, false, false, false, false, false, false, false, false] rfl rfl (any_of HT_.out (by kernel_rfl)) (fun _ _ _ h => h) (Or.inl ⟨by rfl, ?_⟩) ?_ ?_
     rotate_left;focus(intro w';go_simp;with_reducible rfl)
     rotate_left;focus(simp only [Act.put, List.setIfInBounds_toArray, List.set_cons_zero, List.set_cons_succ, i64_w];rfl)
     refine pure_ (i := 2) (N := some 10) (v := ?_) (a' := ?_) #[true, false, true, false, false, false, false, false, false, false, false, false, false, false, false, false] rfl rfl (any_of HT_.out (by kernel_rfl)) (fun _ _ _ h => h) (Or.inl ⟨by rfl, ?_⟩) ?_ ?_
     rotate_left;focus(intro w';go_simp;with_reducible rfl)
     rotate_left;focus(simp only [Act.put, List.setIfInBounds_toArray, List.set_cons_zero, List.set_cons_succ, i64_w];rfl)
     refine pure_ (i := 6) (N := some 14) (v := ?_) (a' := ?_) #[true, false, true, false, false, false, true, false, false, false, false, false, false, false, false, false] rfl rfl (any_of HT_.out (by kernel_rfl)) (fun _ _ _ h => h) (Or.inl ⟨by rfl, ?_⟩) ?_ ?_
     rotate_left;focus(intro w';go_simp;with_reducible rfl)
     rotate_left;focus(simp only [Act.put, List.setIfInBounds_toArray, List.set_cons_zero, List.set_cons_succ, i64_w];rfl)
     refine pure_ (i := 8) (N := some 16) (v := ?_) (a' := ?_) #[true, false, true, false, false, false, true, false, true, false, false, false, false, false, false, false] rfl rfl (any_of HT_.out (by kernel_rfl)) (fun _ _ _ h => h) (Or.inl ⟨by rfl, ?_⟩) ?_ ?_
     rotate_left;focus(intro w';go_simp;with_reducible rfl)
     rotate_left;focus(simp only [Act.put, List.setIfInBounds_toArray, List.set_cons_zero, List.set_cons_succ, i64_w];rfl)
     refine take_ (i := 1) (N := some 9) (v := ?_) (a' := ?_) #[true, true, true, false, false, false, true, false, true, false, false, false, false, false, false, false] rfl rfl (take_ofW HT_.out HW_.out (by kernel_rfl)) (fun _ _ _ h => h) (Or.inl ⟨by rfl, ?_⟩) hHeld ?_ ?_
     rotate_left;focus(rintro w' ⟨s0, s1, s2, s3, s4, s5, s6, s7, s8, s9, s10, s11, s12⟩;go_simp;with_reducible rfl)
     rotate_left;focus(simp only [Act.put, List.setIfInBounds_toArray, List.set_cons_zero, List.set_cons_succ, i64_w];rfl)
     refine take_ (i := 3) (N := some 11) (v := ?_) (a' := ?_) #[true, true, true, true, false, false, true, false, true, false, false, false, false, false, false, false] rfl rfl (take_ofW HT_.out HW_.out (by kernel_rfl)) (fun _ _ _ h => h) (Or.inl ⟨by rfl, ?_⟩) hHeld ?_ ?_
     rotate_left;focus(rintro w' ⟨s0, s1, s2, s3, s4, s5, s6, s7, s8, s9, s10, s11, s12⟩;go_simp;with_reducible rfl)
     rotate_left;focus(simp only [Act.put, List.setIfInBounds_toArray, List.set_cons_zero, List.set_cons_succ, i64_w];rfl)
     refine pure_ (i := 4) (N := some 12) (v := ?_) (a' := ?_) #[true, true, true, true, true, false, true, false, true, false, false, false, false, false, false, false] rfl rfl (any_of HT_.out (by kernel_rfl)) (fun _ _ _ h => h) (Or.inl ⟨by rfl, ?_⟩) ?_ ?_
     rotate_left;focus(intro w';go_simp;with_reducible rfl)
     rotate_left;focus(simp only [Act.put, List.setIfInBounds_toArray, List.set_cons_zero, List.set_cons_succ, i64_w];rfl)
     refine take_ (i := 5) (N := some 13) (v := ?_) (a' := ?_) #[true, true, true, true, true, true, true, false, true, false, false, false, false, false, false, false] rfl rfl (take_ofW HT_.out HW_.out (by kernel_rfl)) (fun _ _ _ h => h) (Or.inl ⟨by rfl, ?_⟩) hHeld ?_ ?_
     rotate_left;focus(rintro w' ⟨s0, s1, s2, s3, s4, s5, s6, s7, s8, s9, s10, s11, s12⟩;go_simp;with_reducible rfl)
     rotate_left;focus(simp only [Act.put, List.setIfInBounds_toArray, List.set_cons_zero, List.set_cons_succ, i64_w];rfl)
     refine take_ (i := 7) (N := some 15) (v := ?_) (a' := ?_) #[true, true, true, true, true, true, true, true, true, false, false, false, false, false, false, false] rfl rfl (take_ofW HT_.out HW_.out (by kernel_rfl)) (fun _ _ _ h => h) (Or.inl ⟨by rfl, ?_⟩) hHeld ?_ ?_
     rotate_left;focus(rintro w' ⟨s0, s1, s2, s3, s4, s5, s6, s7, s8, s9, s10, s11, s12⟩;go_simp;with_reducible rfl)
     rotate_left;focus(simp only [Act.put, List.setIfInBounds_toArray, List.set_cons_zero, List.set_cons_succ, i64_w];rfl)
     refine take_ (i := 9) (N := some 17) (v := ?_) (a' := ?_) #[true, true, true, true, true, true, true, true, true, true, false, false, false, false, false, false] rfl rfl (take_ofW HT_.out HW_.out (by kernel_rfl)) (fun _ _ _ h => h) (Or.inl ⟨by rfl, ?_⟩) hHeld ?_ ?_
     rotate_left;focus(rintro w' ⟨s0, s1, s2, s3, s4, s5, s6, s7, s8, s9, s10, s11, s12⟩;go_simp;with_reducible rfl)
     rotate_left;focus(simp only [Act.put, List.setIfInBounds_toArray, List.set_cons_zero, List.set_cons_succ, i64_w];rfl)
     refine pure_ (i := 10) (N := some 18) (v := ?_) (a' := ?_) #[true, true, true, true, true, true, true, true, true, true, true, false, false, false, false, false] rfl rfl (any_of HT_.out (by kernel_rfl)) (fun _ _ _ h => h) (Or.inl ⟨by rfl, ?_⟩) ?_ ?_
     rotate_left;focus(intro w';go_simp;with_reducible rfl)
     rotate_left;focus(simp only [Act.put, List.setIfInBounds_toArray, List.set_cons_zero, List.set_cons_succ, i64_w];rfl)
     refine take_ (i := 11) (N := some 19) (v := ?_) (a' := ?_) #[true, true, true, true, true, true, true, true, true, true, true, true, false, false, false, false] rfl rfl (take_ofW HT_.out HW_.out (by kernel_rfl)) (fun _ _ _ h => h) (Or.inl ⟨by rfl, ?_⟩) hHeld ?_ ?_
     rotate_left;focus(rintro w' ⟨s0, s1, s2, s3, s4, s5, s6, s7, s8, s9, s10, s11, s12⟩;go_simp;with_reducible rfl)
     rotate_left;focus(simp only [Act.put, List.setIfInBounds_toArray, List.set_cons_zero, List.set_cons_succ, i64_w];rfl)
     refine join_ (σ := Nat × Nat) 2 #[true, true, true, true, true, true, true, true, true, true, true, true, true, true, false, false] (fun s_ => [(5, .pointer (some ⟨s_.1, 0, none⟩)), (6, .pointer (some ⟨s_.2, 0, none⟩))]) (fun s_ w' => (w'.cell? ⟨gb128, 0, none⟩ = some (.slice (some ad130) l0_0.length c0_0) ∧ w'.cell? ⟨gb128, 1, none⟩ = some (.slice A0_1 l0_1.length c0_1) ∧ w'.cell? ⟨gb128, 2, none⟩ = some (.int .i64 a0_2) ∧ w'.cell? ⟨gb129, 0, none⟩ = some (.int .i64 a1_0) ∧ w'.cell? ⟨gb129, 1, none⟩ = some (.int .i64 a1_1) ∧ w'.cell? ⟨gb129, 2, none⟩ = some (.int .i64 a1_2) ∧ w'.cell? ⟨gb129, 3, none⟩ = some (.int .i64 a1_3) ∧ w'.cell? (ad130.add ((a1_0).toNat * 3)) = some (.int .i64 ((rd_T36 l0_0 a1_0).f0)) ∧ w'.cell? ⟨(ad130.add ((a1_0).toNat * 3)).block, (ad130.add ((a1_0).toNat * 3)).off + 1, none⟩ = some (.int .i64 ((rd_T36 l0_0 a1_0).f1)) ∧ w'.cell? ⟨(ad130.add ((a1_0).toNat * 3)).block, (ad130.add ((a1_0).toNat * 3)).off + 2, none⟩ = some (.int .i64 ((rd_T36 l0_0 a1_0).f2)) ∧ w'.cell? (ad130.add ((a1_1).toNat * 3)) = some (.int .i64 ((rd_T36 l0_0 a1_1).f0)) ∧ w'.cell? ⟨(ad130.add ((a1_1).toNat * 3)).block, (ad130.add ((a1_1).toNat * 3)).off + 1, none⟩ = some (.int .i64 ((rd_T36 l0_0 a1_1).f1)) ∧ w'.cell? ⟨(ad130.add ((a1_1).toNat * 3)).block, (ad130.add ((a1_1).toNat * 3)).off + 2, none⟩ = some (.int .i64 ((rd_T36 l0_0 a1_1).f2))) ∧ (w'.heap[gb128]? = some (.cells #[.slice (some ad130) l0_0.length c0_0, .slice A0_1 l0_1.length c0_1, .int .i64 a0_2] 25 (0, 0))) ∧ (w'.heap[gb129]? = some (.cells #[.int .i64 a1_0, .int .i64 a1_1, .int .i64 a1_2, .int .i64 a1_3] 33 (0, 0))) ∧ (w'.heap[s_.1]? = some (.cells #[.int .i64 0, .int .i64 0, .int .i64 0] 36 (0, 0))) ∧ (w'.heap[s_.2]? = some (.cells #[.int .i64 0, .int .i64 0, .int .i64 0] 36 (0, 0))) ∧ (w.heap.size ≤ s_.1) ∧ (w.heap.size ≤ s_.1) ∧ (gb128 ≠ s_.1) ∧ (s_.1 ≠ gb128) ∧ (gb129 ≠ s_.1) ∧ (s_.1 ≠ gb129) ∧ (s_.2 ≠ s_.1) ∧ (s_.1 ≠ s_.2) ∧ (w.heap.size ≤ s_.2) ∧ (w.heap.size ≤ s_.2) ∧ (gb128 ≠ s_.2) ∧ (s_.2 ≠ gb128) ∧ (gb129 ≠ s_.2) ∧ (s_.2 ≠ gb129) ∧ (Below w.heap.size w w')) ?_ ?_
     rotate_left
     ·intro hCont
      refine two_ (i := 12) (j := 13) (Ni := some 5) (Nj := some 6) #[true, true, true, true, true, true, true, true, true, true, true, true, true, false, false, false] #[true, true, true, true, true, true, true, true, true, true, true, true, false, true, false, false] rfl rfl rfl rfl (two_of HT_.out (by kernel_rfl)) (by decide) (by decide) (fun K hK => ?_) (fun K hK => ?_)
      ·skip
       refine box_step ?hg (N := 5) ?hd (cs := #[.int .i64 0, .int .i64 0, .int .i64 0]) (t := 36) ?hr ?_; (case hd => rfl); (case hg => rfl); (case hr => first | (go_simp; done) | (go_simp; rfl))
       intro gb132 hg w11 hbox hb
       have n0_ := Aside0.mk (blk_below (g := gb128) (o := .cells #[.slice (some ad130) l0_0.length c0_0, .slice A0_1 l0_1.length c0_1, .int .i64 a0_2] 25 (0, 0)) (by (with_reducible repeat first | apply bn | apply bd | apply ba); exact BK128.out) hb)
       have n1_ := Aside0.mk (blk_below (g := gb129) (o := .cells #[.int .i64 a1_0, .int .i64 a1_1, .int .i64 a1_2, .int .i64 a1_3] 33 (0, 0)) (by (with_reducible repeat first | apply bn | apply bd | apply ba); exact BK129.out) hb)
       have n2_ := Aside0.mk (below_step (by repeat with_reducible first | exact HB.out | apply below_alloc | apply pw_below_drewN | apply below_drew1 | refine below_set ?_ GE128.out | refine below_set ?_ GE129.out) hb)
       have n3_ := Aside0.mk (hbox)
       have n4_ := Aside0.mk ((by rw [hg]; exact (below_size (by repeat with_reducible first | exact HB.out | apply below_alloc | apply pw_below_drewN | apply below_drew1 | refine below_set ?_ GE128.out | refine below_set ?_ GE129.out)) : w.heap.size ≤ gb132))
       have n5_ := Aside0.mk ((by rw [hg]; exact (below_size (by repeat with_reducible first | exact HB.out | apply below_alloc | apply pw_below_drewN | apply below_drew1 | refine below_set ?_ GE128.out | refine below_set ?_ GE129.out)) : w.heap.size ≤ gb132))
       have n6_ := Aside0.mk ((by rw [hg]; exact Nat.ne_of_lt (blk_lt (g := gb128) (o := .cells #[.slice (some ad130) l0_0.length c0_0, .slice A0_1 l0_1.length c0_1, .int .i64 a0_2] 25 (0, 0)) (by (with_reducible repeat first | apply bn | apply bd | apply ba); exact BK128.out)) : gb128 ≠ gb132))
       have n7_ := Aside0.mk ((by rw [hg]; exact Nat.ne_of_gt (blk_lt (g := gb128) (o := .cells #[.slice (some ad130) l0_0.length c0_0, .slice A0_1 l0_1.length c0_1, .int .i64 a0_2] 25 (0, 0)) (by (with_reducible repeat first | apply bn | apply bd | apply ba); exact BK128.out)) : gb132 ≠ gb128))
       have n8_ := Aside0.mk ((by rw [hg]; exact Nat.ne_of_lt (blk_lt (g := gb129) (o := .cells #[.int .i64 a1_0, .int .i64 a1_1, .int .i64 a1_2, .int .i64 a1_3] 33 (0, 0)) (by (with_reducible repeat first | apply bn | apply bd | apply ba); exact BK129.out)) : gb129 ≠ gb132))
       have n9_ := Aside0.mk ((by rw [hg]; exact Nat.ne_of_gt (blk_lt (g := gb129) (o := .cells #[.int .i64 a1_0, .int .i64 a1_1, .int .i64 a1_2, .int .i64 a1_3] 33 (0, 0)) (by (with_reducible repeat first | apply bn | apply bd | apply ba); exact BK129.out)) : gb132 ≠ gb129))
       clear BK128
       clear BK129
       clear HB
       have BK128 := n0_
       have BK129 := n1_
       have HB := n2_
       have BK132 := n3_
       have GW132 := n4_
       have GE132 := n5_
       have NB128_132 := n6_
       have NB132_128 := n7_
       have NB129_132 := n8_
       have NB132_129 := n9_
       clear n0_ n1_ n2_ n3_ n4_ n5_ n6_ n7_ n8_ n9_
       clear hb hbox hg
       refine hK.out _ _ ⟨(blk_cell BK128.out 0).trans rfl, (blk_cell BK128.out 1).trans rfl, (blk_cell BK128.out 2).trans rfl, (blk_cell BK129.out 0).trans rfl, (blk_cell BK129.out 1).trans rfl, (blk_cell BK129.out 2).trans rfl, (blk_cell BK129.out 3).trans rfl, ((HB.out.cell (World.block_lt_of_cell? w _ hw130_0)).trans hw130_0), ((HB.out.cell (World.block_lt_of_cell? w _ hw130_1)).trans hw130_1), ((HB.out.cell (World.block_lt_of_cell? w _ hw130_2)).trans hw130_2), ((HB.out.cell (World.block_lt_of_cell? w _ hw131_0)).trans hw131_0), ((HB.out.cell (World.block_lt_of_cell? w _ hw131_1)).trans hw131_1), ((HB.out.cell (World.block_lt_of_cell? w _ hw131_2)).trans hw131_2)⟩ (fun hHeld => ?_)
       clear hK K
       refine norm_ (a' := ?_) ?_ ?_
       rotate_left;focus(show Act.put _ (some 5) _ = _;simp only [Act.put, List.setIfInBounds_toArray, List.set_cons_zero, List.set_cons_succ, i64_w];rfl)
       refine one_ (i := 13) (N := some 6) #[true, true, true, true, true, true, true, true, true, true, true, true, true, true, false, false] rfl rfl (one_of HT_.out (by kernel_rfl)) (by decide) (fun K hK => ?_)
       refine box_step ?hg (N := 6) ?hd (cs := #[.int .i64 0, .int .i64 0, .int .i64 0]) (t := 36) ?hr ?_; (case hd => rfl); (case hg => rfl); (case hr => first | (go_simp; done) | (go_simp; rfl))
       intro gb133 hg w12 hbox hb
       have n0_ := Aside0.mk (blk_below (g := gb128) (o := .cells #[.slice (some ad130) l0_0.length c0_0, .slice A0_1 l0_1.length c0_1, .int .i64 a0_2] 25 (0, 0)) (by (with_reducible repeat first | apply bn | apply bd | apply ba); exact BK128.out) hb)
       have n1_ := Aside0.mk (blk_below (g := gb129) (o := .cells #[.int .i64 a1_0, .int .i64 a1_1, .int .i64 a1_2, .int .i64 a1_3] 33 (0, 0)) (by (with_reducible repeat first | apply bn | apply bd | apply ba); exact BK129.out) hb)
       have n2_ := Aside0.mk (blk_below (g := gb132) (o := .cells #[.int .i64 0, .int .i64 0, .int .i64 0] 36 (0, 0)) (by (with_reducible repeat first | apply bn | apply bd | apply ba); exact BK132.out) hb)
       have n3_ := Aside0.mk (below_step (by repeat with_reducible first | exact HB.out | apply below_alloc | apply pw_below_drewN | apply below_drew1 | refine below_set ?_ GE128.out | refine below_set ?_ GE129.out | refine below_set ?_ GE132.out) hb)
       have n4_ := Aside0.mk (hbox)
       have n5_ := Aside0.mk ((by rw [hg]; exact (below_size (by repeat with_reducible first | exact HB.out | apply below_alloc | apply pw_below_drewN | apply below_drew1 | refine below_set ?_ GE128.out | refine below_set ?_ GE129.out | refine below_set ?_ GE132.out)) : w.heap.size ≤ gb133))
       have n6_ := Aside0.mk ((by rw [hg]; exact (below_size (by repeat with_reducible first | exact HB.out | apply below_alloc | apply pw_below_drewN | apply below_drew1 | refine below_set ?_ GE128.out | refine below_set ?_ GE129.out | refine below_set ?_ GE132.out)) : w.heap.size ≤ gb133))
       have n7_ := Aside0.mk ((by rw [hg]; exact Nat.ne_of_lt (blk_lt (g := gb128) (o := .cells #[.slice (some ad130) l0_0.length c0_0, .slice A0_1 l0_1.length c0_1, .int .i64 a0_2] 25 (0, 0)) (by (with_reducible repeat first | apply bn | apply bd | apply ba); exact BK128.out)) : gb128 ≠ gb133))
       have n8_ := Aside0.mk ((by rw [hg]; exact Nat.ne_of_gt (blk_lt (g := gb128) (o := .cells #[.slice (some ad130) l0_0.length c0_0, .slice A0_1 l0_1.length c0_1, .int .i64 a0_2] 25 (0, 0)) (by (with_reducible repeat first | apply bn | apply bd | apply ba); exact BK128.out)) : gb133 ≠ gb128))
       have n9_ := Aside0.mk ((by rw [hg]; exact Nat.ne_of_lt (blk_lt (g := gb129) (o := .cells #[.int .i64 a1_0, .int .i64 a1_1, .int .i64 a1_2, .int .i64 a1_3] 33 (0, 0)) (by (with_reducible repeat first | apply bn | apply bd | apply ba); exact BK129.out)) : gb129 ≠ gb133))
       have n10_ := Aside0.mk ((by rw [hg]; exact Nat.ne_of_gt (blk_lt (g := gb129) (o := .cells #[.int .i64 a1_0, .int .i64 a1_1, .int .i64 a1_2, .int .i64 a1_3] 33 (0, 0)) (by (with_reducible repeat first | apply bn | apply bd | apply ba); exact BK129.out)) : gb133 ≠ gb129))
       have n11_ := Aside0.mk ((by rw [hg]; exact Nat.ne_of_lt (blk_lt (g := gb132) (o := .cells #[.int .i64 0, .int .i64 0, .int .i64 0] 36 (0, 0)) (by (with_reducible repeat first | apply bn | apply bd | apply ba); exact BK132.out)) : gb132 ≠ gb133))
       have n12_ := Aside0.mk ((by rw [hg]; exact Nat.ne_of_gt (blk_lt (g := gb132) (o := .cells #[.int .i64 0, .int .i64 0, .int .i64 0] 36 (0, 0)) (by (with_reducible repeat first | apply bn | apply bd | apply ba); exact BK132.out)) : gb133 ≠ gb132))
       clear BK128
       clear BK129
       clear BK132
       clear HB
       have BK128 := n0_
       have BK129 := n1_
       have BK132 := n2_
       have HB := n3_
       have BK133 := n4_
       have GW133 := n5_
       have GE133 := n6_
       have NB128_133 := n7_
       have NB133_128 := n8_
       have NB129_133 := n9_
       have NB133_129 := n10_
       have NB132_133 := n11_
       have NB133_132 := n12_
       clear n0_ n1_ n2_ n3_ n4_ n5_ n6_ n7_ n8_ n9_ n10_ n11_ n12_
       clear hb hbox hg
       refine hK.out _ _ ⟨(blk_cell BK128.out 0).trans rfl, (blk_cell BK128.out 1).trans rfl, (blk_cell BK128.out 2).trans rfl, (blk_cell BK129.out 0).trans rfl, (blk_cell BK129.out 1).trans rfl, (blk_cell BK129.out 2).trans rfl, (blk_cell BK129.out 3).trans rfl, ((HB.out.cell (World.block_lt_of_cell? w _ hw130_0)).trans hw130_0), ((HB.out.cell (World.block_lt_of_cell? w _ hw130_1)).trans hw130_1), ((HB.out.cell (World.block_lt_of_cell? w _ hw130_2)).trans hw130_2), ((HB.out.cell (World.block_lt_of_cell? w _ hw131_0)).trans hw131_0), ((HB.out.cell (World.block_lt_of_cell? w _ hw131_1)).trans hw131_1), ((HB.out.cell (World.block_lt_of_cell? w _ hw131_2)).trans hw131_2)⟩ (fun hHeld => ?_)
       clear hK K
       refine norm_ (a' := ?_) ?_ ?_
       rotate_left;focus(show Act.put _ (some 6) _ = _;simp only [Act.put, List.setIfInBounds_toArray, List.set_cons_zero, List.set_cons_succ, i64_w];rfl)
       exact norm_ (by simp only [putAll, Act.put, List.setIfInBounds_toArray, List.set_cons_zero, List.set_cons_succ]) (hCont (gb132, gb133) _ ⟨hHeld, (by (with_reducible repeat first | apply bn | apply bd | apply ba); exact BK128.out), (by (with_reducible repeat first | apply bn | apply bd | apply ba); exact BK129.out), (by (with_reducible repeat first | apply bn | apply bd | apply ba); exact BK132.out), (by (with_reducible repeat first | apply bn | apply bd | apply ba); exact BK133.out), GW132.out, GE132.out, NB128_132.out, NB132_128.out, NB129_132.out, NB132_129.out, NB133_132.out, NB132_133.out, GW133.out, GE133.out, NB128_133.out, NB133_128.out, NB129_133.out, NB133_129.out, (by repeat with_reducible first | exact HB.out | apply below_alloc | apply pw_below_drewN | apply below_drew1 | refine below_set ?_ GE128.out | refine below_set ?_ GE129.out | refine below_set ?_ GE132.out | refine below_set ?_ GE133.out)⟩)
      ·skip
       refine box_step ?hg (N := 6) ?hd (cs := #[.int .i64 0, .int .i64 0, .int .i64 0]) (t := 36) ?hr ?_; (case hd => rfl); (case hg => rfl); (case hr => first | (go_simp; done) | (go_simp; rfl))
       intro gb133 hg w11 hbox hb
       have n0_ := Aside0.mk (blk_below (g := gb128) (o := .cells #[.slice (some ad130) l0_0.length c0_0, .slice A0_1 l0_1.length c0_1, .int .i64 a0_2] 25 (0, 0)) (by (with_reducible repeat first | apply bn | apply bd | apply ba); exact BK128.out) hb)
       have n1_ := Aside0.mk (blk_below (g := gb129) (o := .cells #[.int .i64 a1_0, .int .i64 a1_1, .int .i64 a1_2, .int .i64 a1_3] 33 (0, 0)) (by (with_reducible repeat first | apply bn | apply bd | apply ba); exact BK129.out) hb)
       have n2_ := Aside0.mk (below_step (by repeat with_reducible first | exact HB.out | apply below_alloc | apply pw_below_drewN | apply below_drew1 | refine below_set ?_ GE128.out | refine below_set ?_ GE129.out) hb)
       have n3_ := Aside0.mk (hbox)
       have n4_ := Aside0.mk ((by rw [hg]; exact (below_size (by repeat with_reducible first | exact HB.out | apply below_alloc | apply pw_below_drewN | apply below_drew1 | refine below_set ?_ GE128.out | refine below_set ?_ GE129.out)) : w.heap.size ≤ gb133))
       have n5_ := Aside0.mk ((by rw [hg]; exact (below_size (by repeat with_reducible first | exact HB.out | apply below_alloc | apply pw_below_drewN | apply below_drew1 | refine below_set ?_ GE128.out | refine below_set ?_ GE129.out)) : w.heap.size ≤ gb133))
       have n6_ := Aside0.mk ((by rw [hg]; exact Nat.ne_of_lt (blk_lt (g := gb128) (o := .cells #[.slice (some ad130) l0_0.length c0_0, .slice A0_1 l0_1.length c0_1, .int .i64 a0_2] 25 (0, 0)) (by (with_reducible repeat first | apply bn | apply bd | apply ba); exact BK128.out)) : gb128 ≠ gb133))
       have n7_ := Aside0.mk ((by rw [hg]; exact Nat.ne_of_gt (blk_lt (g := gb128) (o := .cells #[.slice (some ad130) l0_0.length c0_0, .slice A0_1 l0_1.length c0_1, .int .i64 a0_2] 25 (0, 0)) (by (with_reducible repeat first | apply bn | apply bd | apply ba); exact BK128.out)) : gb133 ≠ gb128))
       have n8_ := Aside0.mk ((by rw [hg]; exact Nat.ne_of_lt (blk_lt (g := gb129) (o := .cells #[.int .i64 a1_0, .int .i64 a1_1, .int .i64 a1_2, .int .i64 a1_3] 33 (0, 0)) (by (with_reducible repeat first | apply bn | apply bd | apply ba); exact BK129.out)) : gb129 ≠ gb133))
       have n9_ := Aside0.mk ((by rw [hg]; exact Nat.ne_of_gt (blk_lt (g := gb129) (o := .cells #[.int .i64 a1_0, .int .i64 a1_1, .int .i64 a1_2, .int .i64 a1_3] 33 (0, 0)) (by (with_reducible repeat first | apply bn | apply bd | apply ba); exact BK129.out)) : gb133 ≠ gb129))
       clear BK128
       clear BK129
       clear HB
       have BK128 := n0_
       have BK129 := n1_
       have HB := n2_
       have BK133 := n3_
       have GW133 := n4_
       have GE133 := n5_
       have NB128_133 := n6_
       have NB133_128 := n7_
       have NB129_133 := n8_
       have NB133_129 := n9_
       clear n0_ n1_ n2_ n3_ n4_ n5_ n6_ n7_ n8_ n9_
       clear hb hbox hg
       refine hK.out _ _ ⟨(blk_cell BK128.out 0).trans rfl, (blk_cell BK128.out 1).trans rfl, (blk_cell BK128.out 2).trans rfl, (blk_cell BK129.out 0).trans rfl, (blk_cell BK129.out 1).trans rfl, (blk_cell BK129.out 2).trans rfl, (blk_cell BK129.out 3).trans rfl, ((HB.out.cell (World.block_lt_of_cell? w _ hw130_0)).trans hw130_0), ((HB.out.cell (World.block_lt_of_cell? w _ hw130_1)).trans hw130_1), ((HB.out.cell (World.block_lt_of_cell? w _ hw130_2)).trans hw130_2), ((HB.out.cell (World.block_lt_of_cell? w _ hw131_0)).trans hw131_0), ((HB.out.cell (World.block_lt_of_cell? w _ hw131_1)).trans hw131_1), ((HB.out.cell (World.block_lt_of_cell? w _ hw131_2)).trans hw131_2)⟩ (fun hHeld => ?_)
       clear hK K
       refine norm_ (a' := ?_) ?_ ?_
       rotate_left;focus(show Act.put _ (some 6) _ = _;simp only [Act.put, List.setIfInBounds_toArray, List.set_cons_zero, List.set_cons_succ, i64_w];rfl)
       refine one_ (i := 12) (N := some 5) #[true, true, true, true, true, true, true, true, true, true, true, true, true, true, false, false] rfl rfl (one_of HT_.out (by kernel_rfl)) (by decide) (fun K hK => ?_)
       refine box_step ?hg (N := 5) ?hd (cs := #[.int .i64 0, .int .i64 0, .int .i64 0]) (t := 36) ?hr ?_; (case hd => rfl); (case hg => rfl); (case hr => first | (go_simp; done) | (go_simp; rfl))
       intro gb132 hg w12 hbox hb
       have n0_ := Aside0.mk (blk_below (g := gb128) (o := .cells #[.slice (some ad130) l0_0.length c0_0, .slice A0_1 l0_1.length c0_1, .int .i64 a0_2] 25 (0, 0)) (by (with_reducible repeat first | apply bn | apply bd | apply ba); exact BK128.out) hb)
       have n1_ := Aside0.mk (blk_below (g := gb129) (o := .cells #[.int .i64 a1_0, .int .i64 a1_1, .int .i64 a1_2, .int .i64 a1_3] 33 (0, 0)) (by (with_reducible repeat first | apply bn | apply bd | apply ba); exact BK129.out) hb)
       have n2_ := Aside0.mk (blk_below (g := gb133) (o := .cells #[.int .i64 0, .int .i64 0, .int .i64 0] 36 (0, 0)) (by (with_reducible repeat first | apply bn | apply bd | apply ba); exact BK133.out) hb)
       have n3_ := Aside0.mk (below_step (by repeat with_reducible first | exact HB.out | apply below_alloc | apply pw_below_drewN | apply below_drew1 | refine below_set ?_ GE128.out | refine below_set ?_ GE129.out | refine below_set ?_ GE133.out) hb)
       have n4_ := Aside0.mk (hbox)
       have n5_ := Aside0.mk ((by rw [hg]; exact (below_size (by repeat with_reducible first | exact HB.out | apply below_alloc | apply pw_below_drewN | apply below_drew1 | refine below_set ?_ GE128.out | refine below_set ?_ GE129.out | refine below_set ?_ GE133.out)) : w.heap.size ≤ gb132))
       have n6_ := Aside0.mk ((by rw [hg]; exact (below_size (by repeat with_reducible first | exact HB.out | apply below_alloc | apply pw_below_drewN | apply below_drew1 | refine below_set ?_ GE128.out | refine below_set ?_ GE129.out | refine below_set ?_ GE133.out)) : w.heap.size ≤ gb132))
       have n7_ := Aside0.mk ((by rw [hg]; exact Nat.ne_of_lt (blk_lt (g := gb128) (o := .cells #[.slice (some ad130) l0_0.length c0_0, .slice A0_1 l0_1.length c0_1, .int .i64 a0_2] 25 (0, 0)) (by (with_reducible repeat first | apply bn | apply bd | apply ba); exact BK128.out)) : gb128 ≠ gb132))
       have n8_ := Aside0.mk ((by rw [hg]; exact Nat.ne_of_gt (blk_lt (g := gb128) (o := .cells #[.slice (some ad130) l0_0.length c0_0, .slice A0_1 l0_1.length c0_1, .int .i64 a0_2] 25 (0, 0)) (by (with_reducible repeat first | apply bn | apply bd | apply ba); exact BK128.out)) : gb132 ≠ gb128))
       have n9_ := Aside0.mk ((by rw [hg]; exact Nat.ne_of_lt (blk_lt (g := gb129) (o := .cells #[.int .i64 a1_0, .int .i64 a1_1, .int .i64 a1_2, .int .i64 a1_3] 33 (0, 0)) (by (with_reducible repeat first | apply bn | apply bd | apply ba); exact BK129.out)) : gb129 ≠ gb132))
       have n10_ := Aside0.mk ((by rw [hg]; exact Nat.ne_of_gt (blk_lt (g := gb129) (o := .cells #[.int .i64 a1_0, .int .i64 a1_1, .int .i64 a1_2, .int .i64 a1_3] 33 (0, 0)) (by (with_reducible repeat first | apply bn | apply bd | apply ba); exact BK129.out)) : gb132 ≠ gb129))
       have n11_ := Aside0.mk ((by rw [hg]; exact Nat.ne_of_lt (blk_lt (g := gb133) (o := .cells #[.int .i64 0, .int .i64 0, .int .i64 0] 36 (0, 0)) (by (with_reducible repeat first | apply bn | apply bd | apply ba); exact BK133.out)) : gb133 ≠ gb132))
       have n12_ := Aside0.mk ((by rw [hg]; exact Nat.ne_of_gt (blk_lt (g := gb133) (o := .cells #[.int .i64 0, .int .i64 0, .int .i64 0] 36 (0, 0)) (by (with_reducible repeat first | apply bn | apply bd | apply ba); exact BK133.out)) : gb132 ≠ gb133))
       clear BK128
       clear BK129
       clear BK133
       clear HB
       have BK128 := n0_
       have BK129 := n1_
       have BK133 := n2_
       have HB := n3_
       have BK132 := n4_
       have GW132 := n5_
       have GE132 := n6_
       have NB128_132 := n7_
       have NB132_128 := n8_
       have NB129_132 := n9_
       have NB132_129 := n10_
       have NB133_132 := n11_
       have NB132_133 := n12_
       clear n0_ n1_ n2_ n3_ n4_ n5_ n6_ n7_ n8_ n9_ n10_ n11_ n12_
       clear hb hbox hg
       refine hK.out _ _ ⟨(blk_cell BK128.out 0).trans rfl, (blk_cell BK128.out 1).trans rfl, (blk_cell BK128.out 2).trans rfl, (blk_cell BK129.out 0).trans rfl, (blk_cell BK129.out 1).trans rfl, (blk_cell BK129.out 2).trans rfl, (blk_cell BK129.out 3).trans rfl, ((HB.out.cell (World.block_lt_of_cell? w _ hw130_0)).trans hw130_0), ((HB.out.cell (World.block_lt_of_cell? w _ hw130_1)).trans hw130_1), ((HB.out.cell (World.block_lt_of_cell? w _ hw130_2)).trans hw130_2), ((HB.out.cell (World.block_lt_of_cell? w _ hw131_0)).trans hw131_0), ((HB.out.cell (World.block_lt_of_cell? w _ hw131_1)).trans hw131_1), ((HB.out.cell (World.block_lt_of_cell? w _ hw131_2)).trans hw131_2)⟩ (fun hHeld => ?_)
       clear hK K
       refine norm_ (a' := ?_) ?_ ?_
       rotate_left;focus(show Act.put _ (some 5) _ = _;simp only [Act.put, List.setIfInBounds_toArray, List.set_cons_zero, List.set_cons_succ, i64_w];rfl)
       exact norm_ (by simp only [putAll, Act.put, List.setIfInBounds_toArray, List.set_cons_zero, List.set_cons_succ]) (hCont (gb132, gb133) _ ⟨hHeld, (by (with_reducible repeat first | apply bn | apply bd | apply ba); exact BK128.out), (by (with_reducible repeat first | apply bn | apply bd | apply ba); exact BK129.out), (by (with_reducible repeat first | apply bn | apply bd | apply ba); exact BK132.out), (by (with_reducible repeat first | apply bn | apply bd | apply ba); exact BK133.out), GW132.out, GE132.out, NB128_132.out, NB132_128.out, NB129_132.out, NB132_129.out, NB133_132.out, NB132_133.out, GW133.out, GE133.out, NB128_133.out, NB133_128.out, NB129_133.out, NB133_129.out, (by repeat with_reducible first | exact HB.out | apply below_alloc | apply pw_below_drewN | apply below_drew1 | refine below_set ?_ GE128.out | refine below_set ?_ GE129.out | refine below_set ?_ GE133.out | refine below_set ?_ GE132.out)⟩)
     rintro ⟨gb132, gb133⟩ w13 ⟨hS_, h0_, h1_, h2_, h3_, h4_, h5_, h6_, h7_, h8_, h9_, h10_, h11_, h12_, h13_, h14_, h15_, h16_, h17_, h18_⟩
     have n0_ : Aside0 (w13.heap[gb128]? = some (.cells #[.slice (some ad130) l0_0.length c0_0, .slice A0_1 l0_1.length c0_1, .int .i64 a0_2] 25 (0, 0))) := ⟨h0_⟩
     have n1_ : Aside0 (w13.heap[gb129]? = some (.cells #[.int .i64 a1_0, .int .i64 a1_1, .int .i64 a1_2, .int .i64 a1_3] 33 (0, 0))) := ⟨h1_⟩
     have n2_ : Aside0 (w13.heap[gb132]? = some (.cells #[.int .i64 0, .int .i64 0, .int .i64 0] 36 (0, 0))) := ⟨h2_⟩
     have n3_ : Aside0 (w13.heap[gb133]? = some (.cells #[.int .i64 0, .int .i64 0, .int .i64 0] 36 (0, 0))) := ⟨h3_⟩
     have n4_ : Aside0 (w.heap.size ≤ gb132) := ⟨h4_⟩
     have n5_ : Aside0 (w.heap.size ≤ gb132) := ⟨h5_⟩
     have n6_ : Aside0 (gb128 ≠ gb132) := ⟨h6_⟩
     have n7_ : Aside0 (gb132 ≠ gb128) := ⟨h7_⟩
     have n8_ : Aside0 (gb129 ≠ gb132) := ⟨h8_⟩
     have n9_ : Aside0 (gb132 ≠ gb129) := ⟨h9_⟩
     have n10_ : Aside0 (gb133 ≠ gb132) := ⟨h10_⟩
     have n11_ : Aside0 (gb132 ≠ gb133) := ⟨h11_⟩
     have n12_ : Aside0 (w.heap.size ≤ gb133) := ⟨h12_⟩
     have n13_ : Aside0 (w.heap.size ≤ gb133) := ⟨h13_⟩
     have n14_ : Aside0 (gb128 ≠ gb133) := ⟨h14_⟩
     have n15_ : Aside0 (gb133 ≠ gb128) := ⟨h15_⟩
     have n16_ : Aside0 (gb129 ≠ gb133) := ⟨h16_⟩
     have n17_ : Aside0 (gb133 ≠ gb129) := ⟨h17_⟩
     have n18_ : Aside0 (Below w.heap.size w w13) := ⟨h18_⟩
     clear BK128
     clear BK129
     clear HB
     clear h0_ h1_ h2_ h3_ h4_ h5_ h6_ h7_ h8_ h9_ h10_ h11_ h12_ h13_ h14_ h15_ h16_ h17_ h18_
     have BK128 := n0_
     have BK129 := n1_
     have BK132 := n2_
     have BK133 := n3_
     have GW132 := n4_
     have GE132 := n5_
     have NB128_132 := n6_
     have NB132_128 := n7_
     have NB129_132 := n8_
     have NB132_129 := n9_
     have NB133_132 := n10_
     have NB132_133 := n11_
     have GW133 := n12_
     have GE133 := n13_
     have NB128_133 := n14_
     have NB133_128 := n15_
     have NB129_133 := n16_
     have NB133_129 := n17_
     have HB := n18_
     clear n0_ n1_ n2_ n3_ n4_ n5_ n6_ n7_ n8_ n9_ n10_ n11_ n12_ n13_ n14_ n15_ n16_ n17_ n18_
     have hHeld : w13.cell? ⟨gb128, 0, none⟩ = some (.slice (some ad130) l0_0.length c0_0) ∧ w13.cell? ⟨gb128, 1, none⟩ = some (.slice A0_1 l0_1.length c0_1) ∧ w13.cell? ⟨gb128, 2, none⟩ = some (.int .i64 a0_2) ∧ w13.cell? ⟨gb129, 0, none⟩ = some (.int .i64 a1_0) ∧ w13.cell? ⟨gb129, 1, none⟩ = some (.int .i64 a1_1) ∧ w13.cell? ⟨gb129, 2, none⟩ = some (.int .i64 a1_2) ∧ w13.cell? ⟨gb129, 3, none⟩ = some (.int .i64 a1_3) ∧ w13.cell? (ad130.add ((a1_0).toNat * 3)) = some (.int .i64 ((rd_T36 l0_0 a1_0).f0)) ∧ w13.cell? ⟨(ad130.add ((a1_0).toNat * 3)).block, (ad130.add ((a1_0).toNat * 3)).off + 1, none⟩ = some (.int .i64 ((rd_T36 l0_0 a1_0).f1)) ∧ w13.cell? ⟨(ad130.add ((a1_0).toNat * 3)).block, (ad130.add ((a1_0).toNat * 3)).off + 2, none⟩ = some (.int .i64 ((rd_T36 l0_0 a1_0).f2)) ∧ w13.cell? (ad130.add ((a1_1).toNat * 3)) = some (.int .i64 ((rd_T36 l0_0 a1_1).f0)) ∧ w13.cell? ⟨(ad130.add ((a1_1).toNat * 3)).block, (ad130.add ((a1_1).toNat * 3)).off + 1, none⟩ = some (.int .i64 ((rd_T36 l0_0 a1_1).f1)) ∧ w13.cell? ⟨(ad130.add ((a1_1).toNat * 3)).block, (ad130.add ((a1_1).toNat * 3)).off + 2, none⟩ = some (.int .i64 ((rd_T36 l0_0 a1_1).f2)) := hS_
     refine norm_ (a' := ?_) ?_ ?_
     rotate_left;focus(simp only [putAll, Act.put, List.setIfInBounds_toArray, List.set_cons_zero, List.set_cons_succ];rfl)
     refine one_ (i := 14) (N := none) #[true, true, true, true, true, true, true, true, true, true, true, true, true, true, true, false] rfl rfl (one_of HT_.out (by kernel_rfl)) (by decide) (fun K hK => ?_)
     have hs14 : w13.cell? ⟨gb132, 0, none⟩ = some (.int .i64 0) := (blk_cell BK132.out 0).trans rfl
     have hfs14 := blk_frozen BK132.out 0
     have hns14_0 := NB128_132.out
     have hns14_1 := NB129_132.out
     have hns14_3 := NB133_132.out
     have hms14_0 := NB132_128.out
     have hms14_1 := NB132_129.out
     have hms14_3 := NB132_133.out
     have hs15 : w13.cell? ⟨gb132, 1, none⟩ = some (.int .i64 0) := (blk_cell BK132.out 1).trans rfl
     have hfs15 := blk_frozen BK132.out 1
     have hns15_0 := NB128_132.out
     have hns15_1 := NB129_132.out
     have hns15_3 := NB133_132.out
     have hms15_0 := NB132_128.out
     have hms15_1 := NB132_129.out
     have hms15_3 := NB132_133.out
     have hs16 : w13.cell? ⟨gb132, 2, none⟩ = some (.int .i64 0) := (blk_cell BK132.out 2).trans rfl
     have hfs16 := blk_frozen BK132.out 2
     have hns16_0 := NB128_132.out
     have hns16_1 := NB129_132.out
     have hns16_3 := NB133_132.out
     have hms16_0 := NB132_128.out
     have hms16_1 := NB132_129.out
     have hms16_3 := NB132_133.out
     refine skip_ (w1 := ?_) (by rfl) rfl ?_ ?_
     rotate_left;focus(go_simp;rfl)
     refine hK.out _ _ ⟨(far3 (g := gb132) NB128_132.out (hHeld.1)), (far3 (g := gb132) NB128_132.out (hHeld.2.1)), (far3 (g := gb132) NB128_132.out (hHeld.2.2.1)), (far3 (g := gb132) NB129_132.out (hHeld.2.2.2.1)), (far3 (g := gb132) NB129_132.out (hHeld.2.2.2.2.1)), (far3 (g := gb132) NB129_132.out (hHeld.2.2.2.2.2.1)), (far3 (g := gb132) NB129_132.out (hHeld.2.2.2.2.2.2.1)), (far3 (g := gb132) (ltw hw130_0 GW132.out) (hHeld.2.2.2.2.2.2.2.1)), (far3 (g := gb132) (ltw hw130_1 GW132.out) (hHeld.2.2.2.2.2.2.2.2.1)), (far3 (g := gb132) (ltw hw130_2 GW132.out) (hHeld.2.2.2.2.2.2.2.2.2.1)), (far3 (g := gb132) (ltw hw131_0 GW132.out) (hHeld.2.2.2.2.2.2.2.2.2.2.1)), (far3 (g := gb132) (ltw hw131_1 GW132.out) (hHeld.2.2.2.2.2.2.2.2.2.2.2.1)), (far3 (g := gb132) (ltw hw131_2 GW132.out) (hHeld.2.2.2.2.2.2.2.2.2.2.2.2))⟩ (fun hHeld => ?_)
     clear hK K
     refine one_ (i := 15) (N := none) #[true, true, true, true, true, true, true, true, true, true, true, true, true, true, true, true] rfl rfl (one_of HT_.out (by kernel_rfl)) (by decide) (fun K hK => ?_)
     have hs17 : w13.cell? ⟨gb133, 0, none⟩ = some (.int .i64 0) := (blk_cell BK133.out 0).trans rfl
     have hfs17 := blk_frozen BK133.out 0
     have hns17_0 := NB128_133.out
     have hns17_1 := NB129_133.out
     have hns17_2 := NB132_133.out
     have hms17_0 := NB133_128.out
     have hms17_1 := NB133_129.out
     have hms17_2 := NB133_132.out
     have hs18 : w13.cell? ⟨gb133, 1, none⟩ = some (.int .i64 0) := (blk_cell BK133.out 1).trans rfl
     have hfs18 := blk_frozen BK133.out 1
     have hns18_0 := NB128_133.out
     have hns18_1 := NB129_133.out
     have hns18_2 := NB132_133.out
     have hms18_0 := NB133_128.out
     have hms18_1 := NB133_129.out
     have hms18_2 := NB133_132.out
     have hs19 : w13.cell? ⟨gb133, 2, none⟩ = some (.int .i64 0) := (blk_cell BK133.out 2).trans rfl
     have hfs19 := blk_frozen BK133.out 2
     have hns19_0 := NB128_133.out
     have hns19_1 := NB129_133.out
     have hns19_2 := NB132_133.out
     have hms19_0 := NB133_128.out
     have hms19_1 := NB133_129.out
     have hms19_2 := NB133_132.out
     refine skip_ (w1 := ?_) (by rfl) rfl ?_ ?_
     rotate_left;focus(go_simp;rfl)
     refine hK.out _ _ ⟨(far3 (g := gb133) NB128_133.out (hHeld.1)), (far3 (g := gb133) NB128_133.out (hHeld.2.1)), (far3 (g := gb133) NB128_133.out (hHeld.2.2.1)), (far3 (g := gb133) NB129_133.out (hHeld.2.2.2.1)), (far3 (g := gb133) NB129_133.out (hHeld.2.2.2.2.1)), (far3 (g := gb133) NB129_133.out (hHeld.2.2.2.2.2.1)), (far3 (g := gb133) NB129_133.out (hHeld.2.2.2.2.2.2.1)), (far3 (g := gb133) (ltw hw130_0 GW133.out) (hHeld.2.2.2.2.2.2.2.1)), (far3 (g := gb133) (ltw hw130_1 GW133.out) (hHeld.2.2.2.2.2.2.2.2.1)), (far3 (g := gb133) (ltw hw130_2 GW133.out) (hHeld.2.2.2.2.2.2.2.2.2.1)), (far3 (g := gb133) (ltw hw131_0 GW133.out) (hHeld.2.2.2.2.2.2.2.2.2.2.1)), (far3 (g := gb133) (ltw hw131_1 GW133.out) (hHeld.2.2.2.2.2.2.2.2.2.2.2.1)), (far3 (g := gb133) (ltw hw131_2 GW133.out) (hHeld.2.2.2.2.2.2.2.2.2.2.2.2))⟩ (fun hHeld => ?_)
     clear hK K
     refine done_ (done_of HT_.out (by kernel_rfl)) ?_
     have hnb20 := NB129_128.out
     have hnc20 := NB128_129.out
     have hnb21 := NB129_132.out
     have hnc21 := NB132_129.out
     have hnb22 := NB129_133.out
     have hnc22 := NB133_129.out
     have hcz23_0 : w13.cell? ⟨gb129, 0, none⟩ = some (.int .i64 a1_0) := (blk_cell BK129.out 0).trans rfl
     have hcz23_1 : w13.cell? ⟨gb129, 1, none⟩ = some (.int .i64 a1_1) := (blk_cell BK129.out 1).trans rfl
     have hcz23_2 : w13.cell? ⟨gb129, 2, none⟩ = some (.int .i64 a1_2) := (blk_cell BK129.out 2).trans rfl
     have hcz23_3 : w13.cell? ⟨gb129, 3, none⟩ = some (.int .i64 a1_3) := (blk_cell BK129.out 3).trans rfl
     have hfz23_0 := blk_frozen BK129.out 0
     have hfz23_1 := blk_frozen BK129.out 1
     have hfz23_2 := blk_frozen BK129.out 2
     have hfz23_3 := blk_frozen BK129.out 3
     go_upto_if 22 with (fail)
     go_cut [22] (fun v22 wc => ∃ (kq : Nat) (x22_6 : Bool), v22 = .bool x22_6 ∧ Aside0 (fitsC.j0 kq false l0_0 a1_2 x22_6 l0_0 l0_1 a0_2 a1_0 a1_1 a1_2 a1_3 ((rd_T36 l0_0 a1_0).f0) ((rd_T36 l0_0 a1_0).f1) ((rd_T36 l0_0 a1_0).f2) ((rd_T36 l0_0 a1_1).f0) ((rd_T36 l0_0 a1_1).f1) ((rd_T36 l0_0 a1_1).f2) = some r) ∧ Aside0 (kq ≤ k) ∧ Aside0 (wc.heap[gb128]? = some (.cells #[(.slice (some ad130) l0_0.length c0_0), (.slice A0_1 l0_1.length c0_1), .int .i64 a0_2] 25 (0, 0))) ∧ Aside0 (wc.heap[gb129]? = some (.cells #[.int .i64 a1_0, .int .i64 a1_1, .int .i64 a1_2, .int .i64 a1_3] 33 (0, 0))) ∧ Aside0 (wc.heap[gb132]? = some (.cells #[.int .i64 ((rd_T36 l0_0 a1_0).f0), .int .i64 ((rd_T36 l0_0 a1_0).f1), .int .i64 ((rd_T36 l0_0 a1_0).f2)] 36 (0, 0))) ∧ Aside0 (wc.heap[gb133]? = some (.cells #[.int .i64 ((rd_T36 l0_0 a1_1).f0), .int .i64 ((rd_T36 l0_0 a1_1).f1), .int .i64 ((rd_T36 l0_0 a1_1).f2)] 36 (0, 0))) ∧ Aside0 (Below w.heap.size w wc))
     case first =>
      have H := HC7.out
      clear HC7
      by_cases c24 : a1_2 = 1
      ·rw [if_pos c24] at H
       have c24b0 : (a1_2 == 1) = true := beq_iff_eq.mpr c24
       have c24b1 : (a1_2 != 1) = false := bne_eq_false_iff_eq.mpr c24
       clear c24
       (first | rw [c24b0] | (simp only [i64_w, i32_w]; rw [c24b0]) | skip)
       have H' := Aside0.mk H
       clear H
       go_wp2
       go_meet
       case rel => exact ⟨_, ((a1_2 == 1)), (by first | rfl | (simp; done) | (simp [*]; done)), H', ⟨by first | omega | exact Nat.le_refl _⟩, ⟨by (with_reducible repeat first | apply bn | apply bd | apply ba); refine blk_far ?_ NB128_133.out _; refine blk_far ?_ NB128_133.out _; refine blk_far ?_ NB128_133.out _; refine blk_far ?_ NB128_132.out _; refine blk_far ?_ NB128_132.out _; refine blk_far ?_ NB128_132.out _; (with_reducible repeat first | apply bn | apply bd | apply ba); exact BK128.out⟩, ⟨by (with_reducible repeat first | apply bn | apply bd | apply ba); refine blk_far ?_ NB129_133.out _; refine blk_far ?_ NB129_133.out _; refine blk_far ?_ NB129_133.out _; refine blk_far ?_ NB129_132.out _; refine blk_far ?_ NB129_132.out _; refine blk_far ?_ NB129_132.out _; (with_reducible repeat first | apply bn | apply bd | apply ba); exact BK129.out⟩, ⟨by (with_reducible repeat first | apply bn | apply bd | apply ba); refine blk_far ?_ NB132_133.out _; refine blk_far ?_ NB132_133.out _; refine blk_far ?_ NB132_133.out _; refine blk_put (cs := #[.int .i64 ((rd_T36 l0_0 a1_0).f0), .int .i64 ((rd_T36 l0_0 a1_0).f1), .int .i64 0]) ?_ 2 _ rfl; refine blk_put (cs := #[.int .i64 ((rd_T36 l0_0 a1_0).f0), .int .i64 0, .int .i64 0]) ?_ 1 _ rfl; refine blk_put (cs := #[.int .i64 0, .int .i64 0, .int .i64 0]) ?_ 0 _ rfl; (with_reducible repeat first | apply bn | apply bd | apply ba); exact BK132.out⟩, ⟨by (with_reducible repeat first | apply bn | apply bd | apply ba); refine blk_put (cs := #[.int .i64 ((rd_T36 l0_0 a1_1).f0), .int .i64 ((rd_T36 l0_0 a1_1).f1), .int .i64 0]) ?_ 2 _ rfl; refine blk_put (cs := #[.int .i64 ((rd_T36 l0_0 a1_1).f0), .int .i64 0, .int .i64 0]) ?_ 1 _ rfl; refine blk_put (cs := #[.int .i64 0, .int .i64 0, .int .i64 0]) ?_ 0 _ rfl; refine blk_far ?_ NB133_132.out _; refine blk_far ?_ NB133_132.out _; refine blk_far ?_ NB133_132.out _; (with_reducible repeat first | apply bn | apply bd | apply ba); exact BK133.out⟩, ⟨by repeat with_reducible first | exact HB.out | apply below_alloc | apply pw_below_drewN | apply below_drew1 | refine below_set ?_ GE128.out | refine below_set ?_ GE129.out | refine below_set ?_ GE132.out | refine below_set ?_ GE133.out⟩⟩
      ·rw [if_neg c24] at H
       have c24b0 : (a1_2 == 1) = false := beq_eq_false_iff_ne.mpr c24
       have c24b1 : (a1_2 != 1) = true := bne_iff_ne.mpr c24
       (first | rw [c24b0] | (simp only [i64_w, i32_w]; rw [c24b0]) | skip)
       have H' := Aside0.mk H
       clear H
       go_wp2
       go_meet
       case rel => exact ⟨_, ((a1_2 == 5)), (by first | rfl | (simp; done) | (simp [*]; done)), H', ⟨by first | omega | exact Nat.le_refl _⟩, ⟨by (with_reducible repeat first | apply bn | apply bd | apply ba); refine blk_far ?_ NB128_133.out _; refine blk_far ?_ NB128_133.out _; refine blk_far ?_ NB128_133.out _; refine blk_far ?_ NB128_132.out _; refine blk_far ?_ NB128_132.out _; refine blk_far ?_ NB128_132.out _; (with_reducible repeat first | apply bn | apply bd | apply ba); exact BK128.out⟩, ⟨by (with_reducible repeat first | apply bn | apply bd | apply ba); refine blk_far ?_ NB129_133.out _; refine blk_far ?_ NB129_133.out _; refine blk_far ?_ NB129_133.out _; refine blk_far ?_ NB129_132.out _; refine blk_far ?_ NB129_132.out _; refine blk_far ?_ NB129_132.out _; (with_reducible repeat first | apply bn | apply bd | apply ba); exact BK129.out⟩, ⟨by (with_reducible repeat first | apply bn | apply bd | apply ba); refine blk_far ?_ NB132_133.out _; refine blk_far ?_ NB132_133.out _; refine blk_far ?_ NB132_133.out _; refine blk_put (cs := #[.int .i64 ((rd_T36 l0_0 a1_0).f0), .int .i64 ((rd_T36 l0_0 a1_0).f1), .int .i64 0]) ?_ 2 _ rfl; refine blk_put (cs := #[.int .i64 ((rd_T36 l0_0 a1_0).f0), .int .i64 0, .int .i64 0]) ?_ 1 _ rfl; refine blk_put (cs := #[.int .i64 0, .int .i64 0, .int .i64 0]) ?_ 0 _ rfl; (with_reducible repeat first | apply bn | apply bd | apply ba); exact BK132.out⟩, ⟨by (with_reducible repeat first | apply bn | apply bd | apply ba); refine blk_put (cs := #[.int .i64 ((rd_T36 l0_0 a1_1).f0), .int .i64 ((rd_T36 l0_0 a1_1).f1), .int .i64 0]) ?_ 2 _ rfl; refine blk_put (cs := #[.int .i64 ((rd_T36 l0_0 a1_1).f0), .int .i64 0, .int .i64 0]) ?_ 1 _ rfl; refine blk_put (cs := #[.int .i64 0, .int .i64 0, .int .i64 0]) ?_ 0 _ rfl; refine blk_far ?_ NB133_132.out _; refine blk_far ?_ NB133_132.out _; refine blk_far ?_ NB133_132.out _; (with_reducible repeat first | apply bn | apply bd | apply ba); exact BK133.out⟩, ⟨by repeat with_reducible first | exact HB.out | apply below_alloc | apply pw_below_drewN | apply below_drew1 | refine below_set ?_ GE128.out | refine below_set ?_ GE129.out | refine below_set ?_ GE132.out | refine below_set ?_ GE133.out⟩⟩
     case rest =>
      clear HC7
      (try clear c1);(try clear p1);(try clear q1);(try clear hx1);(try clear c2);(try clear p2);(try clear c3);(try clear c3b0);(try clear c4);(try clear c4b0);(try clear c5);(try clear c5b0);(try clear c6);(try clear c6b0);(try clear c13);(try clear p13);(try clear q13);(try clear hx13);(try clear c20);(try clear c21);(try clear c22);(try clear c24);(try clear c24b0);(try clear c24b1);(try clear hcz23_0);(try clear hcz23_1);(try clear hcz23_2);(try clear hcz23_3);(try clear hfz23_0);(try clear hfz23_1);(try clear hfz23_2);(try clear hfz23_3);(try clear hx130_0);(try clear hx130_1);(try clear hx130_2);(try clear hx131_0);(try clear hx131_1);(try clear hx131_2);(try clear p130);(try clear p131);(try clear q130);(try clear q131)
      obtain ⟨kq, x22_6, rfl, HA, HJ6, BK128, BK129, BK132, BK133, HB⟩ := hcut
      cases kq with
      | zero => exact absurd HA.out (by simp [fitsC.j0])
      | succ kj6 =>
       have H := HA.out
       clear HA
       simp only [fitsC.j0] at H
       by_cases c25 : x22_6 = true
       ·subst c25
        have H1 : (if 0 ≤ (-1) then (if (-1) < (l0_0.length : Int) then (some false) else (none)) else (none)) = some r := by rw [if_pos rfl] at H; exact H
        clear H
        have H := H1
        clear H1
        by_cases c26 : 0 ≤ (-1)
        ·exact absurd c26 (by decide)
        ·rw [if_neg c26] at H
         exact absurd H (by simp)
       ·replace c25 := Bool.eq_false_iff.mpr c25
        subst c25
        have H1 : (if a1_2 = 2 then (if 0 ≤ (-1) then (if (-1) < (l0_0.length : Int) then (some false) else (none)) else (none)) else (if 0 ≤ a1_3 then (if a1_3 < (l0_0.length : Int) then (if a1_2 = 3 then (if ((rd_T36 l0_0 a1_0).f1) = 3 then (if a1_2 = 4 then (none) else (if ((rd_T36 l0_0 a1_3).f1) = 2 then ((dataflowref27_calls.f kj6 l0_0 l0_1 a0_2 a1_3 ((rd_T36 l0_0 a1_0).f0)).bind fun t139 => (if t139 = true then (if ((rd_T36 l0_0 a1_1).f0) = ((rd_T36 l0_0 a1_3).f0) then (some (((rd_T36 l0_0 a1_1).f1) != 1)) else (some false)) else (some false))) else (some false))) else (some false)) else (if a1_2 = 4 then (if ((rd_T36 l0_0 a1_0).f1) = 4 then (if ((rd_T36 l0_0 a1_3).f1) = 2 then ((dataflowref27_calls.f kj6 l0_0 l0_1 a0_2 a1_3 ((rd_T36 l0_0 a1_0).f0)).bind fun t140 => (if t140 = true then (if ((rd_T36 l0_0 a1_1).f0) = ((rd_T36 l0_0 a1_3).f0) then (some (((rd_T36 l0_0 a1_1).f1) != 1)) else (some false)) else (some false))) else (some false)) else (some false)) else (none))) else (none)) else (none))) = some r := by rw [if_neg (show ¬ (false = true) by decide)] at H; exact H
        clear H
        have H := H1
        clear H1
        by_cases c28 : a1_2 = 2
        ·rw [if_pos c28] at H
         have c28b0 : (a1_2 == 2) = true := beq_iff_eq.mpr c28
         have c28b1 : (a1_2 != 2) = false := bne_eq_false_iff_eq.mpr c28
         clear c28
         by_cases c29 : 0 ≤ (-1)
         ·exact absurd c29 (by decide)
         ·rw [if_neg c29] at H
          exact absurd H (by simp)
        ·rw [if_neg c28] at H
         have c28b0 : (a1_2 == 2) = false := beq_eq_false_iff_ne.mpr c28
         have c28b1 : (a1_2 != 2) = true := bne_iff_ne.mpr c28
         by_cases c31 : 0 ≤ a1_3
         ·rw [if_pos c31] at H
          have c31b0 : decide (0 ≤ a1_3) = true := decide_eq_true c31
          clear c31
          by_cases c32 : a1_3 < (l0_0.length : Int)
          ·rw [if_pos c32] at H
           have c32b0 : decide (a1_3 < (l0_0.length : Int)) = true := decide_eq_true c32
           clear c32
           by_cases c33 : a1_2 = 3
           ·rw [if_pos c33] at H
            have c33b0 : (a1_2 == 3) = true := beq_iff_eq.mpr c33
            have c33b1 : (a1_2 != 3) = false := bne_eq_false_iff_eq.mpr c33
            clear c33
            by_cases c34 : ((rd_T36 l0_0 a1_0).f1) = 3
            ·rw [if_pos c34] at H
             have c34b0 : (((rd_T36 l0_0 a1_0).f1) == 3) = true := beq_iff_eq.mpr c34
             have c34b1 : (((rd_T36 l0_0 a1_0).f1) != 3) = false := bne_eq_false_iff_eq.mpr c34
             clear c34
             by_cases c35 : a1_2 = 4
             ·rw [if_pos c35] at H
              exact absurd H (by simp)
             ·rw [if_neg c35] at H
              have c35b0 : (a1_2 == 4) = false := beq_eq_false_iff_ne.mpr c35
              have c35b1 : (a1_2 != 4) = true := bne_iff_ne.mpr c35
              by_cases c131 : ((rd_T36 l0_0 a1_3).f1) = 2
              ·rw [if_pos c131] at H
               have c131b0 : (((rd_T36 l0_0 a1_3).f1) == 2) = true := beq_iff_eq.mpr c131
               have c131b1 : (((rd_T36 l0_0 a1_3).f1) != 2) = false := bne_eq_false_iff_eq.mpr c131
               clear c131
               replace H := Option.bind_eq_some_iff.mp H
               obtain ⟨t139, A1320, H⟩ := H
               replace H : (if t139 = true then (if ((rd_T36 l0_0 a1_1).f0) = ((rd_T36 l0_0 a1_3).f0) then (some (((rd_T36 l0_0 a1_1).f1) != 1)) else (some false)) else (some false)) = some r := H
               have A132 := Aside0.mk A1320
               clear A1320
               by_cases c133 : t139 = true
               ·subst c133
                have H1 : (if ((rd_T36 l0_0 a1_1).f0) = ((rd_T36 l0_0 a1_3).f0) then (some (((rd_T36 l0_0 a1_1).f1) != 1)) else (some false)) = some r := by rw [if_pos rfl] at H; exact H
                clear H
                have H := H1
                clear H1
                by_cases c134 : ((rd_T36 l0_0 a1_1).f0) = ((rd_T36 l0_0 a1_3).f0)
                ·rw [if_pos c134] at H
                 have c134b0 : (((rd_T36 l0_0 a1_1).f0) == ((rd_T36 l0_0 a1_3).f0)) = true := beq_iff_eq.mpr c134
                 have c134b1 : (((rd_T36 l0_0 a1_1).f0) != ((rd_T36 l0_0 a1_3).f0)) = false := bne_eq_false_iff_eq.mpr c134
                 clear c134
                 obtain rfl := Option.some.inj H
                 have hnb135 := NB128_129.out
                 have hnc135 := NB129_128.out
                 have hnb136 := NB128_132.out
                 have hnc136 := NB132_128.out
                 have hnb137 := NB128_133.out
                 have hnc137 := NB133_128.out
                 have hcz138_0 : wc.cell? ⟨gb128, 0, none⟩ = some (.slice (some ad130) l0_0.length c0_0) := (blk_cell BK128.out 0).trans rfl
                 have hcz138_1 : wc.cell? ⟨gb128, 1, none⟩ = some (.slice A0_1 l0_1.length c0_1) := (blk_cell BK128.out 1).trans rfl
                 have hcz138_2 : wc.cell? ⟨gb128, 2, none⟩ = some (.int .i64 a0_2) := (blk_cell BK128.out 2).trans rfl
                 have hfz138_0 := blk_frozen BK128.out 0
                 have hfz138_1 := blk_frozen BK128.out 1
                 have hfz138_2 := blk_frozen BK128.out 2
                 have hnb139 := NB129_132.out
                 have hnc139 := NB132_129.out
                 have hnb140 := NB129_133.out
                 have hnc140 := NB133_129.out
                 have hcz141_0 : wc.cell? ⟨gb129, 0, none⟩ = some (.int .i64 a1_0) := (blk_cell BK129.out 0).trans rfl
                 have hcz141_1 : wc.cell? ⟨gb129, 1, none⟩ = some (.int .i64 a1_1) := (blk_cell BK129.out 1).trans rfl
                 have hcz141_2 : wc.cell? ⟨gb129, 2, none⟩ = some (.int .i64 a1_2) := (blk_cell BK129.out 2).trans rfl
                 have hcz141_3 : wc.cell? ⟨gb129, 3, none⟩ = some (.int .i64 a1_3) := (blk_cell BK129.out 3).trans rfl
                 have hfz141_0 := blk_frozen BK129.out 0
                 have hfz141_1 := blk_frozen BK129.out 1
                 have hfz141_2 := blk_frozen BK129.out 2
                 have hfz141_3 := blk_frozen BK129.out 3
                 have p136 : 0 ≤ (a1_3 : Int) := of_decide_eq_true (by first | (with_reducible assumption) | assumption)
                 have q136 : a1_3 < (l0_0.length : Int) := of_decide_eq_true (by first | (with_reducible assumption) | assumption)
                 obtain ⟨ad136, e136, hx136_0, hx136_1, hx136_2⟩ := at_T36 HR0_0.out a1_3 p136 q136
                 obtain rfl : ad130 = ad136 := (by injection e136)
                 replace hx136_0 := (HB.out.cell (World.block_lt_of_cell? w _ hx136_0)).trans hx136_0
                 replace hx136_1 := (HB.out.cell (World.block_lt_of_cell? w _ hx136_1)).trans hx136_1
                 replace hx136_2 := (HB.out.cell (World.block_lt_of_cell? w _ hx136_2)).trans hx136_2
                 replace p136 := eq_true p136
                 replace q136 := eq_true q136
                 go_wp2_with (first | ((with_reducible refine gate_dst (N := 7) rfl ?_); refine box_event ?hg (N := 7) ?hd (cs := #[.int .i64 0, .int .i64 0, .int .i64 0]) (t := 36) ?hr ?_; (case hd => rfl); (case hg => rfl); (case hr => first | (go_simp; done) | (go_simp; rfl)); intro gb137 hg w142 hbox hb; have n0_ := Aside0.mk (blk_below (g := gb128) (o := .cells #[.slice (some ad130) l0_0.length c0_0, .slice A0_1 l0_1.length c0_1, .int .i64 a0_2] 25 (0, 0)) (by (with_reducible repeat first | apply bn | apply bd | apply ba); exact BK128.out) hb); have n1_ := Aside0.mk (blk_below (g := gb129) (o := .cells #[.int .i64 a1_0, .int .i64 a1_1, .int .i64 a1_2, .int .i64 a1_3] 33 (0, 0)) (by (with_reducible repeat first | apply bn | apply bd | apply ba); exact BK129.out) hb); have n2_ := Aside0.mk (blk_below (g := gb132) (o := .cells #[.int .i64 ((rd_T36 l0_0 a1_0).f0), .int .i64 ((rd_T36 l0_0 a1_0).f1), .int .i64 ((rd_T36 l0_0 a1_0).f2)] 36 (0, 0)) (by (with_reducible repeat first | apply bn | apply bd | apply ba); exact BK132.out) hb); have n3_ := Aside0.mk (blk_below (g := gb133) (o := .cells #[.int .i64 ((rd_T36 l0_0 a1_1).f0), .int .i64 ((rd_T36 l0_0 a1_1).f1), .int .i64 ((rd_T36 l0_0 a1_1).f2)] 36 (0, 0)) (by (with_reducible repeat first | apply bn | apply bd | apply ba); exact BK133.out) hb); have n4_ := Aside0.mk (below_step (by repeat with_reducible first | exact HB.out | apply below_alloc | apply pw_below_drewN | apply below_drew1 | refine below_set ?_ GE128.out | refine below_set ?_ GE129.out | refine below_set ?_ GE132.out | refine below_set ?_ GE133.out) hb); have n5_ := Aside0.mk (hbox); have n6_ := Aside0.mk ((by rw [hg]; exact (below_size (by repeat with_reducible first | exact HB.out | apply below_alloc | apply pw_below_drewN | apply below_drew1 | refine below_set ?_ GE128.out | refine below_set ?_ GE129.out | refine below_set ?_ GE132.out | refine below_set ?_ GE133.out)) : w.heap.size ≤ gb137)); have n7_ := Aside0.mk ((by rw [hg]; exact (below_size (by repeat with_reducible first | exact HB.out | apply below_alloc | apply pw_below_drewN | apply below_drew1 | refine below_set ?_ GE128.out | refine below_set ?_ GE129.out | refine below_set ?_ GE132.out | refine below_set ?_ GE133.out)) : w.heap.size ≤ gb137)); have n8_ := Aside0.mk ((by rw [hg]; exact Nat.ne_of_lt (blk_lt (g := gb128) (o := .cells #[.slice (some ad130) l0_0.length c0_0, .slice A0_1 l0_1.length c0_1, .int .i64 a0_2] 25 (0, 0)) (by (with_reducible repeat first | apply bn | apply bd | apply ba); exact BK128.out)) : gb128 ≠ gb137)); have n9_ := Aside0.mk ((by rw [hg]; exact Nat.ne_of_gt (blk_lt (g := gb128) (o := .cells #[.slice (some ad130) l0_0.length c0_0, .slice A0_1 l0_1.length c0_1, .int .i64 a0_2] 25 (0, 0)) (by (with_reducible repeat first | apply bn | apply bd | apply ba); exact BK128.out)) : gb137 ≠ gb128)); have n10_ := Aside0.mk ((by rw [hg]; exact Nat.ne_of_lt (blk_lt (g := gb129) (o := .cells #[.int .i64 a1_0, .int .i64 a1_1, .int .i64 a1_2, .int .i64 a1_3] 33 (0, 0)) (by (with_reducible repeat first | apply bn | apply bd | apply ba); exact BK129.out)) : gb129 ≠ gb137)); have n11_ := Aside0.mk ((by rw [hg]; exact Nat.ne_of_gt (blk_lt (g := gb129) (o := .cells #[.int .i64 a1_0, .int .i64 a1_1, .int .i64 a1_2, .int .i64 a1_3] 33 (0, 0)) (by (with_reducible repeat first | apply bn | apply bd | apply ba); exact BK129.out)) : gb137 ≠ gb129)); have n12_ := Aside0.mk ((by rw [hg]; exact Nat.ne_of_lt (blk_lt (g := gb132) (o := .cells #[.int .i64 ((rd_T36 l0_0 a1_0).f0), .int .i64 ((rd_T36 l0_0 a1_0).f1), .int .i64 ((rd_T36 l0_0 a1_0).f2)] 36 (0, 0)) (by (with_reducible repeat first | apply bn | apply bd | apply ba); exact BK132.out)) : gb132 ≠ gb137)); have n13_ := Aside0.mk ((by rw [hg]; exact Nat.ne_of_gt (blk_lt (g := gb132) (o := .cells #[.int .i64 ((rd_T36 l0_0 a1_0).f0), .int .i64 ((rd_T36 l0_0 a1_0).f1), .int .i64 ((rd_T36 l0_0 a1_0).f2)] 36 (0, 0)) (by (with_reducible repeat first | apply bn | apply bd | apply ba); exact BK132.out)) : gb137 ≠ gb132)); have n14_ := Aside0.mk ((by rw [hg]; exact Nat.ne_of_lt (blk_lt (g := gb133) (o := .cells #[.int .i64 ((rd_T36 l0_0 a1_1).f0), .int .i64 ((rd_T36 l0_0 a1_1).f1), .int .i64 ((rd_T36 l0_0 a1_1).f2)] 36 (0, 0)) (by (with_reducible repeat first | apply bn | apply bd | apply ba); exact BK133.out)) : gb133 ≠ gb137)); have n15_ := Aside0.mk ((by rw [hg]; exact Nat.ne_of_gt (blk_lt (g := gb133) (o := .cells #[.int .i64 ((rd_T36 l0_0 a1_1).f0), .int .i64 ((rd_T36 l0_0 a1_1).f1), .int .i64 ((rd_T36 l0_0 a1_1).f2)] 36 (0, 0)) (by (with_reducible repeat first | apply bn | apply bd | apply ba); exact BK133.out)) : gb137 ≠ gb133)); clear BK128; clear BK129; clear BK132; clear BK133; clear HB; have BK128 := n0_; have BK129 := n1_; have BK132 := n2_; have BK133 := n3_; have HB := n4_; have BK137 := n5_; have GW137 := n6_; have GE137 := n7_; have NB128_137 := n8_; have NB137_128 := n9_; have NB129_137 := n10_; have NB137_129 := n11_; have NB132_137 := n12_; have NB137_132 := n13_; have NB133_137 := n14_; have NB137_133 := n15_; clear n0_ n1_ n2_ n3_ n4_ n5_ n6_ n7_ n8_ n9_ n10_ n11_ n12_ n13_ n14_ n15_; clear hb hbox hg; have hnb143 := NB137_128.out; have hnc143 := NB128_137.out; have hnb144 := NB137_129.out; have hnc144 := NB129_137.out; have hnb145 := NB137_132.out; have hnc145 := NB132_137.out; have hnb146 := NB137_133.out; have hnc146 := NB133_137.out; have hcz147_0 : w142.cell? ⟨gb137, 0, none⟩ = some (.int .i64 0) := (blk_cell BK137.out 0).trans rfl; have hcz147_1 : w142.cell? ⟨gb137, 1, none⟩ = some (.int .i64 0) := (blk_cell BK137.out 1).trans rfl; have hcz147_2 : w142.cell? ⟨gb137, 2, none⟩ = some (.int .i64 0) := (blk_cell BK137.out 2).trans rfl; have hfz147_0 := blk_frozen BK137.out 0; have hfz147_1 := blk_frozen BK137.out 1; have hfz147_2 := blk_frozen BK137.out 2; have hcz148_0 : w142.cell? ⟨gb129, 0, none⟩ = some (.int .i64 a1_0) := (blk_cell BK129.out 0).trans rfl; have hcz148_1 : w142.cell? ⟨gb129, 1, none⟩ = some (.int .i64 a1_1) := (blk_cell BK129.out 1).trans rfl; have hcz148_2 : w142.cell? ⟨gb129, 2, none⟩ = some (.int .i64 a1_2) := (blk_cell BK129.out 2).trans rfl; have hcz148_3 : w142.cell? ⟨gb129, 3, none⟩ = some (.int .i64 a1_3) := (blk_cell BK129.out 3).trans rfl; have hfz148_0 := blk_frozen BK129.out 0; have hfz148_1 := blk_frozen BK129.out 1; have hfz148_2 := blk_frozen BK129.out 2; have hfz148_3 := blk_frozen BK129.out 3; have hnb149 := NB132_133.out; have hnc149 := NB133_132.out; have hcz150_0 : w142.cell? ⟨gb132, 0, none⟩ = some (.int .i64 ((rd_T36 l0_0 a1_0).f0)) := (blk_cell BK132.out 0).trans rfl; have hcz150_1 : w142.cell? ⟨gb132, 1, none⟩ = some (.int .i64 ((rd_T36 l0_0 a1_0).f1)) := (blk_cell BK132.out 1).trans rfl; have hcz150_2 : w142.cell? ⟨gb132, 2, none⟩ = some (.int .i64 ((rd_T36 l0_0 a1_0).f2)) := (blk_cell BK132.out 2).trans rfl; have hfz150_0 := blk_frozen BK132.out 0; have hfz150_1 := blk_frozen BK132.out 1; have hfz150_2 := blk_frozen BK132.out 2; have hcz151_0 : w142.cell? ⟨gb128, 0, none⟩ = some (.slice (some ad130) l0_0.length c0_0) := (blk_cell BK128.out 0).trans rfl; have hcz151_1 : w142.cell? ⟨gb128, 1, none⟩ = some (.slice A0_1 l0_1.length c0_1) := (blk_cell BK128.out 1).trans rfl; have hcz151_2 : w142.cell? ⟨gb128, 2, none⟩ = some (.int .i64 a0_2) := (blk_cell BK128.out 2).trans rfl; have hfz151_0 := blk_frozen BK128.out 0; have hfz151_1 := blk_frozen BK128.out 1; have hfz151_2 := blk_frozen BK128.out 2) | (go_at_call 22; (with_reducible refine (dataflowref27_calls.calls kj6 _ _ l0_0 _ _ l0_1 a0_2 a1_3 ((rd_T36 l0_0 a1_0).f0) true _ ?side1 ?side2 ?side3 ?side4 A132.out).mono ?_); (case side1 => exact Kd.C_below HR0_0.out (by repeat with_reducible first | exact HB.out | apply below_alloc | apply pw_below_drewN | apply below_drew1 | refine below_set ?_ GE128.out | refine below_set ?_ GE129.out | refine below_set ?_ GE132.out | refine below_set ?_ GE133.out | refine below_set ?_ GE137.out)); (case side2 => exact HC0_0.out); (case side3 => exact Kd.C_below HR0_1.out (by repeat with_reducible first | exact HB.out | apply below_alloc | apply pw_below_drewN | apply below_drew1 | refine below_set ?_ GE128.out | refine below_set ?_ GE129.out | refine below_set ?_ GE132.out | refine below_set ?_ GE133.out | refine below_set ?_ GE137.out)); (case side4 => exact HC0_1.out); rintro e w152 ⟨rfl, hb⟩; have n0_ := Aside0.mk (blk_below (g := gb128) (o := .cells #[.slice (some ad130) l0_0.length c0_0, .slice A0_1 l0_1.length c0_1, .int .i64 a0_2] 25 (0, 0)) (by (with_reducible repeat first | apply bn | apply bd | apply ba); refine blk_far ?_ NB128_137.out _; refine blk_far ?_ NB128_137.out _; refine blk_far ?_ NB128_137.out _; (with_reducible repeat first | apply bn | apply bd | apply ba); exact BK128.out) hb); have n1_ := Aside0.mk (blk_below (g := gb129) (o := .cells #[.int .i64 a1_0, .int .i64 a1_1, .int .i64 a1_2, .int .i64 a1_3] 33 (0, 0)) (by (with_reducible repeat first | apply bn | apply bd | apply ba); refine blk_far ?_ NB129_137.out _; refine blk_far ?_ NB129_137.out _; refine blk_far ?_ NB129_137.out _; (with_reducible repeat first | apply bn | apply bd | apply ba); exact BK129.out) hb); have n2_ := Aside0.mk (blk_below (g := gb132) (o := .cells #[.int .i64 ((rd_T36 l0_0 a1_0).f0), .int .i64 ((rd_T36 l0_0 a1_0).f1), .int .i64 ((rd_T36 l0_0 a1_0).f2)] 36 (0, 0)) (by (with_reducible repeat first | apply bn | apply bd | apply ba); refine blk_far ?_ NB132_137.out _; refine blk_far ?_ NB132_137.out _; refine blk_far ?_ NB132_137.out _; (with_reducible repeat first | apply bn | apply bd | apply ba); exact BK132.out) hb); have n3_ := Aside0.mk (blk_below (g := gb133) (o := .cells #[.int .i64 ((rd_T36 l0_0 a1_1).f0), .int .i64 ((rd_T36 l0_0 a1_1).f1), .int .i64 ((rd_T36 l0_0 a1_1).f2)] 36 (0, 0)) (by (with_reducible repeat first | apply bn | apply bd | apply ba); refine blk_far ?_ NB133_137.out _; refine blk_far ?_ NB133_137.out _; refine blk_far ?_ NB133_137.out _; (with_reducible repeat first | apply bn | apply bd | apply ba); exact BK133.out) hb); have n4_ := Aside0.mk (blk_below (g := gb137) (o := .cells #[.int .i64 ((rd_T36 l0_0 a1_3).f0), .int .i64 ((rd_T36 l0_0 a1_3).f1), .int .i64 ((rd_T36 l0_0 a1_3).f2)] 36 (0, 0)) (by (with_reducible repeat first | apply bn | apply bd | apply ba); refine blk_put (cs := #[.int .i64 ((rd_T36 l0_0 a1_3).f0), .int .i64 ((rd_T36 l0_0 a1_3).f1), .int .i64 0]) ?_ 2 _ rfl; refine blk_put (cs := #[.int .i64 ((rd_T36 l0_0 a1_3).f0), .int .i64 0, .int .i64 0]) ?_ 1 _ rfl; refine blk_put (cs := #[.int .i64 0, .int .i64 0, .int .i64 0]) ?_ 0 _ rfl; (with_reducible repeat first | apply bn | apply bd | apply ba); exact BK137.out) hb); have n5_ := Aside0.mk (below_step (by repeat with_reducible first | exact HB.out | apply below_alloc | apply pw_below_drewN | apply below_drew1 | refine below_set ?_ GE128.out | refine below_set ?_ GE129.out | refine below_set ?_ GE132.out | refine below_set ?_ GE133.out | refine below_set ?_ GE137.out) hb); clear BK128; clear BK129; clear BK132; clear BK133; clear BK137; clear HB; have BK128 := n0_; have BK129 := n1_; have BK132 := n2_; have BK133 := n3_; have BK137 := n4_; have HB := n5_; clear n0_ n1_ n2_ n3_ n4_ n5_; (try clear hb); (try clear hb2); (try clear hk); (try clear hi); have hcz153_0 : w152.cell? ⟨gb133, 0, none⟩ = some (.int .i64 ((rd_T36 l0_0 a1_1).f0)) := (blk_cell BK133.out 0).trans rfl; have hcz153_1 : w152.cell? ⟨gb133, 1, none⟩ = some (.int .i64 ((rd_T36 l0_0 a1_1).f1)) := (blk_cell BK133.out 1).trans rfl; have hcz153_2 : w152.cell? ⟨gb133, 2, none⟩ = some (.int .i64 ((rd_T36 l0_0 a1_1).f2)) := (blk_cell BK133.out 2).trans rfl; have hfz153_0 := blk_frozen BK133.out 0; have hfz153_1 := blk_frozen BK133.out 1; have hfz153_2 := blk_frozen BK133.out 2; have hcz154_0 : w152.cell? ⟨gb137, 0, none⟩ = some (.int .i64 ((rd_T36 l0_0 a1_3).f0)) := (blk_cell BK137.out 0).trans rfl; have hcz154_1 : w152.cell? ⟨gb137, 1, none⟩ = some (.int .i64 ((rd_T36 l0_0 a1_3).f1)) := (blk_cell BK137.out 1).trans rfl; have hcz154_2 : w152.cell? ⟨gb137, 2, none⟩ = some (.int .i64 ((rd_T36 l0_0 a1_3).f2)) := (blk_cell BK137.out 2).trans rfl; have hfz154_0 := blk_frozen BK137.out 0; have hfz154_1 := blk_frozen BK137.out 1; have hfz154_2 := blk_frozen BK137.out 2))
                 go_ret
                 exact ⟨by first | rfl | (simp [errW_none, errW_some] <;> rfl) | (simp [*, errW_none, errW_some] <;> rfl), by repeat with_reducible first | exact HB.out | apply below_alloc | apply pw_below_drewN | apply below_drew1 | refine below_set ?_ GE128.out | refine below_set ?_ GE129.out | refine below_set ?_ GE132.out | refine below_set ?_ GE133.out | refine below_set ?_ GE137.out⟩
                ·rw [if_neg c134] at H
                 have c134b0 : (((rd_T36 l0_0 a1_1).f0) == ((rd_T36 l0_0 a1_3).f0)) = false := beq_eq_false_iff_ne.mpr c134
                 have c134b1 : (((rd_T36 l0_0 a1_1).f0) != ((rd_T36 l0_0 a1_3).f0)) = true := bne_iff_ne.mpr c134
                 obtain rfl := Option.some.inj H
                 have hnb155 := NB128_129.out
                 have hnc155 := NB129_128.out
                 have hnb156 := NB128_132.out
                 have hnc156 := NB132_128.out
                 have hnb157 := NB128_133.out
                 have hnc157 := NB133_128.out
                 have hcz158_0 : wc.cell? ⟨gb128, 0, none⟩ = some (.slice (some ad130) l0_0.length c0_0) := (blk_cell BK128.out 0).trans rfl
                 have hcz158_1 : wc.cell? ⟨gb128, 1, none⟩ = some (.slice A0_1 l0_1.length c0_1) := (blk_cell BK128.out 1).trans rfl
                 have hcz158_2 : wc.cell? ⟨gb128, 2, none⟩ = some (.int .i64 a0_2) := (blk_cell BK128.out 2).trans rfl
                 have hfz158_0 := blk_frozen BK128.out 0
                 have hfz158_1 := blk_frozen BK128.out 1
                 have hfz158_2 := blk_frozen BK128.out 2
                 have hnb159 := NB129_132.out
                 have hnc159 := NB132_129.out
                 have hnb160 := NB129_133.out
                 have hnc160 := NB133_129.out
                 have hcz161_0 : wc.cell? ⟨gb129, 0, none⟩ = some (.int .i64 a1_0) := (blk_cell BK129.out 0).trans rfl
                 have hcz161_1 : wc.cell? ⟨gb129, 1, none⟩ = some (.int .i64 a1_1) := (blk_cell BK129.out 1).trans rfl
                 have hcz161_2 : wc.cell? ⟨gb129, 2, none⟩ = some (.int .i64 a1_2) := (blk_cell BK129.out 2).trans rfl
                 have hcz161_3 : wc.cell? ⟨gb129, 3, none⟩ = some (.int .i64 a1_3) := (blk_cell BK129.out 3).trans rfl
                 have hfz161_0 := blk_frozen BK129.out 0
                 have hfz161_1 := blk_frozen BK129.out 1
                 have hfz161_2 := blk_frozen BK129.out 2
                 have hfz161_3 := blk_frozen BK129.out 3
                 have p136 : 0 ≤ (a1_3 : Int) := of_decide_eq_true (by first | (with_reducible assumption) | assumption)
                 have q136 : a1_3 < (l0_0.length : Int) := of_decide_eq_true (by first | (with_reducible assumption) | assumption)
                 obtain ⟨ad136, e136, hx136_0, hx136_1, hx136_2⟩ := at_T36 HR0_0.out a1_3 p136 q136
                 obtain rfl : ad130 = ad136 := (by injection e136)
                 replace hx136_0 := (HB.out.cell (World.block_lt_of_cell? w _ hx136_0)).trans hx136_0
                 replace hx136_1 := (HB.out.cell (World.block_lt_of_cell? w _ hx136_1)).trans hx136_1
                 replace hx136_2 := (HB.out.cell (World.block_lt_of_cell? w _ hx136_2)).trans hx136_2
                 replace p136 := eq_true p136
                 replace q136 := eq_true q136
                 go_wp2_with (first | ((with_reducible refine gate_dst (N := 7) rfl ?_); refine box_event ?hg (N := 7) ?hd (cs := #[.int .i64 0, .int .i64 0, .int .i64 0]) (t := 36) ?hr ?_; (case hd => rfl); (case hg => rfl); (case hr => first | (go_simp; done) | (go_simp; rfl)); intro gb137 hg w162 hbox hb; have n0_ := Aside0.mk (blk_below (g := gb128) (o := .cells #[.slice (some ad130) l0_0.length c0_0, .slice A0_1 l0_1.length c0_1, .int .i64 a0_2] 25 (0, 0)) (by (with_reducible repeat first | apply bn | apply bd | apply ba); exact BK128.out) hb); have n1_ := Aside0.mk (blk_below (g := gb129) (o := .cells #[.int .i64 a1_0, .int .i64 a1_1, .int .i64 a1_2, .int .i64 a1_3] 33 (0, 0)) (by (with_reducible repeat first | apply bn | apply bd | apply ba); exact BK129.out) hb); have n2_ := Aside0.mk (blk_below (g := gb132) (o := .cells #[.int .i64 ((rd_T36 l0_0 a1_0).f0), .int .i64 ((rd_T36 l0_0 a1_0).f1), .int .i64 ((rd_T36 l0_0 a1_0).f2)] 36 (0, 0)) (by (with_reducible repeat first | apply bn | apply bd | apply ba); exact BK132.out) hb); have n3_ := Aside0.mk (blk_below (g := gb133) (o := .cells #[.int .i64 ((rd_T36 l0_0 a1_1).f0), .int .i64 ((rd_T36 l0_0 a1_1).f1), .int .i64 ((rd_T36 l0_0 a1_1).f2)] 36 (0, 0)) (by (with_reducible repeat first | apply bn | apply bd | apply ba); exact BK133.out) hb); have n4_ := Aside0.mk (below_step (by repeat with_reducible first | exact HB.out | apply below_alloc | apply pw_below_drewN | apply below_drew1 | refine below_set ?_ GE128.out | refine below_set ?_ GE129.out | refine below_set ?_ GE132.out | refine below_set ?_ GE133.out) hb); have n5_ := Aside0.mk (hbox); have n6_ := Aside0.mk ((by rw [hg]; exact (below_size (by repeat with_reducible first | exact HB.out | apply below_alloc | apply pw_below_drewN | apply below_drew1 | refine below_set ?_ GE128.out | refine below_set ?_ GE129.out | refine below_set ?_ GE132.out | refine below_set ?_ GE133.out)) : w.heap.size ≤ gb137)); have n7_ := Aside0.mk ((by rw [hg]; exact (below_size (by repeat with_reducible first | exact HB.out | apply below_alloc | apply pw_below_drewN | apply below_drew1 | refine below_set ?_ GE128.out | refine below_set ?_ GE129.out | refine below_set ?_ GE132.out | refine below_set ?_ GE133.out)) : w.heap.size ≤ gb137)); have n8_ := Aside0.mk ((by rw [hg]; exact Nat.ne_of_lt (blk_lt (g := gb128) (o := .cells #[.slice (some ad130) l0_0.length c0_0, .slice A0_1 l0_1.length c0_1, .int .i64 a0_2] 25 (0, 0)) (by (with_reducible repeat first | apply bn | apply bd | apply ba); exact BK128.out)) : gb128 ≠ gb137)); have n9_ := Aside0.mk ((by rw [hg]; exact Nat.ne_of_gt (blk_lt (g := gb128) (o := .cells #[.slice (some ad130) l0_0.length c0_0, .slice A0_1 l0_1.length c0_1, .int .i64 a0_2] 25 (0, 0)) (by (with_reducible repeat first | apply bn | apply bd | apply ba); exact BK128.out)) : gb137 ≠ gb128)); have n10_ := Aside0.mk ((by rw [hg]; exact Nat.ne_of_lt (blk_lt (g := gb129) (o := .cells #[.int .i64 a1_0, .int .i64 a1_1, .int .i64 a1_2, .int .i64 a1_3] 33 (0, 0)) (by (with_reducible repeat first | apply bn | apply bd | apply ba); exact BK129.out)) : gb129 ≠ gb137)); have n11_ := Aside0.mk ((by rw [hg]; exact Nat.ne_of_gt (blk_lt (g := gb129) (o := .cells #[.int .i64 a1_0, .int .i64 a1_1, .int .i64 a1_2, .int .i64 a1_3] 33 (0, 0)) (by (with_reducible repeat first | apply bn | apply bd | apply ba); exact BK129.out)) : gb137 ≠ gb129)); have n12_ := Aside0.mk ((by rw [hg]; exact Nat.ne_of_lt (blk_lt (g := gb132) (o := .cells #[.int .i64 ((rd_T36 l0_0 a1_0).f0), .int .i64 ((rd_T36 l0_0 a1_0).f1), .int .i64 ((rd_T36 l0_0 a1_0).f2)] 36 (0, 0)) (by (with_reducible repeat first | apply bn | apply bd | apply ba); exact BK132.out)) : gb132 ≠ gb137)); have n13_ := Aside0.mk ((by rw [hg]; exact Nat.ne_of_gt (blk_lt (g := gb132) (o := .cells #[.int .i64 ((rd_T36 l0_0 a1_0).f0), .int .i64 ((rd_T36 l0_0 a1_0).f1), .int .i64 ((rd_T36 l0_0 a1_0).f2)] 36 (0, 0)) (by (with_reducible repeat first | apply bn | apply bd | apply ba); exact BK132.out)) : gb137 ≠ gb132)); have n14_ := Aside0.mk ((by rw [hg]; exact Nat.ne_of_lt (blk_lt (g := gb133) (o := .cells #[.int .i64 ((rd_T36 l0_0 a1_1).f0), .int .i64 ((rd_T36 l0_0 a1_1).f1), .int .i64 ((rd_T36 l0_0 a1_1).f2)] 36 (0, 0)) (by (with_reducible repeat first | apply bn | apply bd | apply ba); exact BK133.out)) : gb133 ≠ gb137)); have n15_ := Aside0.mk ((by rw [hg]; exact Nat.ne_of_gt (blk_lt (g := gb133) (o := .cells #[.int .i64 ((rd_T36 l0_0 a1_1).f0), .int .i64 ((rd_T36 l0_0 a1_1).f1), .int .i64 ((rd_T36 l0_0 a1_1).f2)] 36 (0, 0)) (by (with_reducible repeat first | apply bn | apply bd | apply ba); exact BK133.out)) : gb137 ≠ gb133)); clear BK128; clear BK129; clear BK132; clear BK133; clear HB; have BK128 := n0_; have BK129 := n1_; have BK132 := n2_; have BK133 := n3_; have HB := n4_; have BK137 := n5_; have GW137 := n6_; have GE137 := n7_; have NB128_137 := n8_; have NB137_128 := n9_; have NB129_137 := n10_; have NB137_129 := n11_; have NB132_137 := n12_; have NB137_132 := n13_; have NB133_137 := n14_; have NB137_133 := n15_; clear n0_ n1_ n2_ n3_ n4_ n5_ n6_ n7_ n8_ n9_ n10_ n11_ n12_ n13_ n14_ n15_; clear hb hbox hg; have hnb163 := NB137_128.out; have hnc163 := NB128_137.out; have hnb164 := NB137_129.out; have hnc164 := NB129_137.out; have hnb165 := NB137_132.out; have hnc165 := NB132_137.out; have hnb166 := NB137_133.out; have hnc166 := NB133_137.out; have hcz167_0 : w162.cell? ⟨gb137, 0, none⟩ = some (.int .i64 0) := (blk_cell BK137.out 0).trans rfl; have hcz167_1 : w162.cell? ⟨gb137, 1, none⟩ = some (.int .i64 0) := (blk_cell BK137.out 1).trans rfl; have hcz167_2 : w162.cell? ⟨gb137, 2, none⟩ = some (.int .i64 0) := (blk_cell BK137.out 2).trans rfl; have hfz167_0 := blk_frozen BK137.out 0; have hfz167_1 := blk_frozen BK137.out 1; have hfz167_2 := blk_frozen BK137.out 2; have hcz168_0 : w162.cell? ⟨gb129, 0, none⟩ = some (.int .i64 a1_0) := (blk_cell BK129.out 0).trans rfl; have hcz168_1 : w162.cell? ⟨gb129, 1, none⟩ = some (.int .i64 a1_1) := (blk_cell BK129.out 1).trans rfl; have hcz168_2 : w162.cell? ⟨gb129, 2, none⟩ = some (.int .i64 a1_2) := (blk_cell BK129.out 2).trans rfl; have hcz168_3 : w162.cell? ⟨gb129, 3, none⟩ = some (.int .i64 a1_3) := (blk_cell BK129.out 3).trans rfl; have hfz168_0 := blk_frozen BK129.out 0; have hfz168_1 := blk_frozen BK129.out 1; have hfz168_2 := blk_frozen BK129.out 2; have hfz168_3 := blk_frozen BK129.out 3; have hnb169 := NB132_133.out; have hnc169 := NB133_132.out; have hcz170_0 : w162.cell? ⟨gb132, 0, none⟩ = some (.int .i64 ((rd_T36 l0_0 a1_0).f0)) := (blk_cell BK132.out 0).trans rfl; have hcz170_1 : w162.cell? ⟨gb132, 1, none⟩ = some (.int .i64 ((rd_T36 l0_0 a1_0).f1)) := (blk_cell BK132.out 1).trans rfl; have hcz170_2 : w162.cell? ⟨gb132, 2, none⟩ = some (.int .i64 ((rd_T36 l0_0 a1_0).f2)) := (blk_cell BK132.out 2).trans rfl; have hfz170_0 := blk_frozen BK132.out 0; have hfz170_1 := blk_frozen BK132.out 1; have hfz170_2 := blk_frozen BK132.out 2; have hcz171_0 : w162.cell? ⟨gb128, 0, none⟩ = some (.slice (some ad130) l0_0.length c0_0) := (blk_cell BK128.out 0).trans rfl; have hcz171_1 : w162.cell? ⟨gb128, 1, none⟩ = some (.slice A0_1 l0_1.length c0_1) := (blk_cell BK128.out 1).trans rfl; have hcz171_2 : w162.cell? ⟨gb128, 2, none⟩ = some (.int .i64 a0_2) := (blk_cell BK128.out 2).trans rfl; have hfz171_0 := blk_frozen BK128.out 0; have hfz171_1 := blk_frozen BK128.out 1; have hfz171_2 := blk_frozen BK128.out 2) | (go_at_call 22; (with_reducible refine (dataflowref27_calls.calls kj6 _ _ l0_0 _ _ l0_1 a0_2 a1_3 ((rd_T36 l0_0 a1_0).f0) true _ ?side1 ?side2 ?side3 ?side4 A132.out).mono ?_); (case side1 => exact Kd.C_below HR0_0.out (by repeat with_reducible first | exact HB.out | apply below_alloc | apply pw_below_drewN | apply below_drew1 | refine below_set ?_ GE128.out | refine below_set ?_ GE129.out | refine below_set ?_ GE132.out | refine below_set ?_ GE133.out | refine below_set ?_ GE137.out)); (case side2 => exact HC0_0.out); (case side3 => exact Kd.C_below HR0_1.out (by repeat with_reducible first | exact HB.out | apply below_alloc | apply pw_below_drewN | apply below_drew1 | refine below_set ?_ GE128.out | refine below_set ?_ GE129.out | refine below_set ?_ GE132.out | refine below_set ?_ GE133.out | refine below_set ?_ GE137.out)); (case side4 => exact HC0_1.out); rintro e w172 ⟨rfl, hb⟩; have n0_ := Aside0.mk (blk_below (g := gb128) (o := .cells #[.slice (some ad130) l0_0.length c0_0, .slice A0_1 l0_1.length c0_1, .int .i64 a0_2] 25 (0, 0)) (by (with_reducible repeat first | apply bn | apply bd | apply ba); refine blk_far ?_ NB128_137.out _; refine blk_far ?_ NB128_137.out _; refine blk_far ?_ NB128_137.out _; (with_reducible repeat first | apply bn | apply bd | apply ba); exact BK128.out) hb); have n1_ := Aside0.mk (blk_below (g := gb129) (o := .cells #[.int .i64 a1_0, .int .i64 a1_1, .int .i64 a1_2, .int .i64 a1_3] 33 (0, 0)) (by (with_reducible repeat first | apply bn | apply bd | apply ba); refine blk_far ?_ NB129_137.out _; refine blk_far ?_ NB129_137.out _; refine blk_far ?_ NB129_137.out _; (with_reducible repeat first | apply bn | apply bd | apply ba); exact BK129.out) hb); have n2_ := Aside0.mk (blk_below (g := gb132) (o := .cells #[.int .i64 ((rd_T36 l0_0 a1_0).f0), .int .i64 ((rd_T36 l0_0 a1_0).f1), .int .i64 ((rd_T36 l0_0 a1_0).f2)] 36 (0, 0)) (by (with_reducible repeat first | apply bn | apply bd | apply ba); refine blk_far ?_ NB132_137.out _; refine blk_far ?_ NB132_137.out _; refine blk_far ?_ NB132_137.out _; (with_reducible repeat first | apply bn | apply bd | apply ba); exact BK132.out) hb); have n3_ := Aside0.mk (blk_below (g := gb133) (o := .cells #[.int .i64 ((rd_T36 l0_0 a1_1).f0), .int .i64 ((rd_T36 l0_0 a1_1).f1), .int .i64 ((rd_T36 l0_0 a1_1).f2)] 36 (0, 0)) (by (with_reducible repeat first | apply bn | apply bd | apply ba); refine blk_far ?_ NB133_137.out _; refine blk_far ?_ NB133_137.out _; refine blk_far ?_ NB133_137.out _; (with_reducible repeat first | apply bn | apply bd | apply ba); exact BK133.out) hb); have n4_ := Aside0.mk (blk_below (g := gb137) (o := .cells #[.int .i64 ((rd_T36 l0_0 a1_3).f0), .int .i64 ((rd_T36 l0_0 a1_3).f1), .int .i64 ((rd_T36 l0_0 a1_3).f2)] 36 (0, 0)) (by (with_reducible repeat first | apply bn | apply bd | apply ba); refine blk_put (cs := #[.int .i64 ((rd_T36 l0_0 a1_3).f0), .int .i64 ((rd_T36 l0_0 a1_3).f1), .int .i64 0]) ?_ 2 _ rfl; refine blk_put (cs := #[.int .i64 ((rd_T36 l0_0 a1_3).f0), .int .i64 0, .int .i64 0]) ?_ 1 _ rfl; refine blk_put (cs := #[.int .i64 0, .int .i64 0, .int .i64 0]) ?_ 0 _ rfl; (with_reducible repeat first | apply bn | apply bd | apply ba); exact BK137.out) hb); have n5_ := Aside0.mk (below_step (by repeat with_reducible first | exact HB.out | apply below_alloc | apply pw_below_drewN | apply below_drew1 | refine below_set ?_ GE128.out | refine below_set ?_ GE129.out | refine below_set ?_ GE132.out | refine below_set ?_ GE133.out | refine below_set ?_ GE137.out) hb); clear BK128; clear BK129; clear BK132; clear BK133; clear BK137; clear HB; have BK128 := n0_; have BK129 := n1_; have BK132 := n2_; have BK133 := n3_; have BK137 := n4_; have HB := n5_; clear n0_ n1_ n2_ n3_ n4_ n5_; (try clear hb); (try clear hb2); (try clear hk); (try clear hi); have hcz173_0 : w172.cell? ⟨gb133, 0, none⟩ = some (.int .i64 ((rd_T36 l0_0 a1_1).f0)) := (blk_cell BK133.out 0).trans rfl; have hcz173_1 : w172.cell? ⟨gb133, 1, none⟩ = some (.int .i64 ((rd_T36 l0_0 a1_1).f1)) := (blk_cell BK133.out 1).trans rfl; have hcz173_2 : w172.cell? ⟨gb133, 2, none⟩ = some (.int .i64 ((rd_T36 l0_0 a1_1).f2)) := (blk_cell BK133.out 2).trans rfl; have hfz173_0 := blk_frozen BK133.out 0; have hfz173_1 := blk_frozen BK133.out 1; have hfz173_2 := blk_frozen BK133.out 2; have hcz174_0 : w172.cell? ⟨gb137, 0, none⟩ = some (.int .i64 ((rd_T36 l0_0 a1_3).f0)) := (blk_cell BK137.out 0).trans rfl; have hcz174_1 : w172.cell? ⟨gb137, 1, none⟩ = some (.int .i64 ((rd_T36 l0_0 a1_3).f1)) := (blk_cell BK137.out 1).trans rfl; have hcz174_2 : w172.cell? ⟨gb137, 2, none⟩ = some (.int .i64 ((rd_T36 l0_0 a1_3).f2)) := (blk_cell BK137.out 2).trans rfl; have hfz174_0 := blk_frozen BK137.out 0; have hfz174_1 := blk_frozen BK137.out 1; have hfz174_2 := blk_frozen BK137.out 2))
                 go_ret
                 exact ⟨by first | rfl | (simp [errW_none, errW_some] <;> rfl) | (simp [*, errW_none, errW_some] <;> rfl), by repeat with_reducible first | exact HB.out | apply below_alloc | apply pw_below_drewN | apply below_drew1 | refine below_set ?_ GE128.out | refine below_set ?_ GE129.out | refine below_set ?_ GE132.out | refine below_set ?_ GE133.out | refine below_set ?_ GE137.out⟩
               ·replace c133 := Bool.eq_false_iff.mpr c133
                subst c133
                have H1 : (some false) = some r := by rw [if_neg (show ¬ (false = true) by decide)] at H; exact H
                clear H
                have H := H1
                clear H1
                obtain rfl := Option.some.inj H
                have hnb175 := NB128_129.out
                have hnc175 := NB129_128.out
                have hnb176 := NB128_132.out
                have hnc176 := NB132_128.out
                have hnb177 := NB128_133.out
                have hnc177 := NB133_128.out
                have hcz178_0 : wc.cell? ⟨gb128, 0, none⟩ = some (.slice (some ad130) l0_0.length c0_0) := (blk_cell BK128.out 0).trans rfl
                have hcz178_1 : wc.cell? ⟨gb128, 1, none⟩ = some (.slice A0_1 l0_1.length c0_1) := (blk_cell BK128.out 1).trans rfl
                have hcz178_2 : wc.cell? ⟨gb128, 2, none⟩ = some (.int .i64 a0_2) := (blk_cell BK128.out 2).trans rfl
                have hfz178_0 := blk_frozen BK128.out 0
                have hfz178_1 := blk_frozen BK128.out 1
                have hfz178_2 := blk_frozen BK128.out 2
                have hnb179 := NB129_132.out
                have hnc179 := NB132_129.out
                have hnb180 := NB129_133.out
                have hnc180 := NB133_129.out
                have hcz181_0 : wc.cell? ⟨gb129, 0, none⟩ = some (.int .i64 a1_0) := (blk_cell BK129.out 0).trans rfl
                have hcz181_1 : wc.cell? ⟨gb129, 1, none⟩ = some (.int .i64 a1_1) := (blk_cell BK129.out 1).trans rfl
                have hcz181_2 : wc.cell? ⟨gb129, 2, none⟩ = some (.int .i64 a1_2) := (blk_cell BK129.out 2).trans rfl
                have hcz181_3 : wc.cell? ⟨gb129, 3, none⟩ = some (.int .i64 a1_3) := (blk_cell BK129.out 3).trans rfl
                have hfz181_0 := blk_frozen BK129.out 0
                have hfz181_1 := blk_frozen BK129.out 1
                have hfz181_2 := blk_frozen BK129.out 2
                have hfz181_3 := blk_frozen BK129.out 3
                have p136 : 0 ≤ (a1_3 : Int) := of_decide_eq_true (by first | (with_reducible assumption) | assumption)
                have q136 : a1_3 < (l0_0.length : Int) := of_decide_eq_true (by first | (with_reducible assumption) | assumption)
                obtain ⟨ad136, e136, hx136_0, hx136_1, hx136_2⟩ := at_T36 HR0_0.out a1_3 p136 q136
                obtain rfl : ad130 = ad136 := (by injection e136)
                replace hx136_0 := (HB.out.cell (World.block_lt_of_cell? w _ hx136_0)).trans hx136_0
                replace hx136_1 := (HB.out.cell (World.block_lt_of_cell? w _ hx136_1)).trans hx136_1
                replace hx136_2 := (HB.out.cell (World.block_lt_of_cell? w _ hx136_2)).trans hx136_2
                replace p136 := eq_true p136
                replace q136 := eq_true q136
                go_wp2_with (first | ((with_reducible refine gate_dst (N := 7) rfl ?_); refine box_event ?hg (N := 7) ?hd (cs := #[.int .i64 0, .int .i64 0, .int .i64 0]) (t := 36) ?hr ?_; (case hd => rfl); (case hg => rfl); (case hr => first | (go_simp; done) | (go_simp; rfl)); intro gb137 hg w182 hbox hb; have n0_ := Aside0.mk (blk_below (g := gb128) (o := .cells #[.slice (some ad130) l0_0.length c0_0, .slice A0_1 l0_1.length c0_1, .int .i64 a0_2] 25 (0, 0)) (by (with_reducible repeat first | apply bn | apply bd | apply ba); exact BK128.out) hb); have n1_ := Aside0.mk (blk_below (g := gb129) (o := .cells #[.int .i64 a1_0, .int .i64 a1_1, .int .i64 a1_2, .int .i64 a1_3] 33 (0, 0)) (by (with_reducible repeat first | apply bn | apply bd | apply ba); exact BK129.out) hb); have n2_ := Aside0.mk (blk_below (g := gb132) (o := .cells #[.int .i64 ((rd_T36 l0_0 a1_0).f0), .int .i64 ((rd_T36 l0_0 a1_0).f1), .int .i64 ((rd_T36 l0_0 a1_0).f2)] 36 (0, 0)) (by (with_reducible repeat first | apply bn | apply bd | apply ba); exact BK132.out) hb); have n3_ := Aside0.mk (blk_below (g := gb133) (o := .cells #[.int .i64 ((rd_T36 l0_0 a1_1).f0), .int .i64 ((rd_T36 l0_0 a1_1).f1), .int .i64 ((rd_T36 l0_0 a1_1).f2)] 36 (0, 0)) (by (with_reducible repeat first | apply bn | apply bd | apply ba); exact BK133.out) hb); have n4_ := Aside0.mk (below_step (by repeat with_reducible first | exact HB.out | apply below_alloc | apply pw_below_drewN | apply below_drew1 | refine below_set ?_ GE128.out | refine below_set ?_ GE129.out | refine below_set ?_ GE132.out | refine below_set ?_ GE133.out) hb); have n5_ := Aside0.mk (hbox); have n6_ := Aside0.mk ((by rw [hg]; exact (below_size (by repeat with_reducible first | exact HB.out | apply below_alloc | apply pw_below_drewN | apply below_drew1 | refine below_set ?_ GE128.out | refine below_set ?_ GE129.out | refine below_set ?_ GE132.out | refine below_set ?_ GE133.out)) : w.heap.size ≤ gb137)); have n7_ := Aside0.mk ((by rw [hg]; exact (below_size (by repeat with_reducible first | exact HB.out | apply below_alloc | apply pw_below_drewN | apply below_drew1 | refine below_set ?_ GE128.out | refine below_set ?_ GE129.out | refine below_set ?_ GE132.out | refine below_set ?_ GE133.out)) : w.heap.size ≤ gb137)); have n8_ := Aside0.mk ((by rw [hg]; exact Nat.ne_of_lt (blk_lt (g := gb128) (o := .cells #[.slice (some ad130) l0_0.length c0_0, .slice A0_1 l0_1.length c0_1, .int .i64 a0_2] 25 (0, 0)) (by (with_reducible repeat first | apply bn | apply bd | apply ba); exact BK128.out)) : gb128 ≠ gb137)); have n9_ := Aside0.mk ((by rw [hg]; exact Nat.ne_of_gt (blk_lt (g := gb128) (o := .cells #[.slice (some ad130) l0_0.length c0_0, .slice A0_1 l0_1.length c0_1, .int .i64 a0_2] 25 (0, 0)) (by (with_reducible repeat first | apply bn | apply bd | apply ba); exact BK128.out)) : gb137 ≠ gb128)); have n10_ := Aside0.mk ((by rw [hg]; exact Nat.ne_of_lt (blk_lt (g := gb129) (o := .cells #[.int .i64 a1_0, .int .i64 a1_1, .int .i64 a1_2, .int .i64 a1_3] 33 (0, 0)) (by (with_reducible repeat first | apply bn | apply bd | apply ba); exact BK129.out)) : gb129 ≠ gb137)); have n11_ := Aside0.mk ((by rw [hg]; exact Nat.ne_of_gt (blk_lt (g := gb129) (o := .cells #[.int .i64 a1_0, .int .i64 a1_1, .int .i64 a1_2, .int .i64 a1_3] 33 (0, 0)) (by (with_reducible repeat first | apply bn | apply bd | apply ba); exact BK129.out)) : gb137 ≠ gb129)); have n12_ := Aside0.mk ((by rw [hg]; exact Nat.ne_of_lt (blk_lt (g := gb132) (o := .cells #[.int .i64 ((rd_T36 l0_0 a1_0).f0), .int .i64 ((rd_T36 l0_0 a1_0).f1), .int .i64 ((rd_T36 l0_0 a1_0).f2)] 36 (0, 0)) (by (with_reducible repeat first | apply bn | apply bd | apply ba); exact BK132.out)) : gb132 ≠ gb137)); have n13_ := Aside0.mk ((by rw [hg]; exact Nat.ne_of_gt (blk_lt (g := gb132) (o := .cells #[.int .i64 ((rd_T36 l0_0 a1_0).f0), .int .i64 ((rd_T36 l0_0 a1_0).f1), .int .i64 ((rd_T36 l0_0 a1_0).f2)] 36 (0, 0)) (by (with_reducible repeat first | apply bn | apply bd | apply ba); exact BK132.out)) : gb137 ≠ gb132)); have n14_ := Aside0.mk ((by rw [hg]; exact Nat.ne_of_lt (blk_lt (g := gb133) (o := .cells #[.int .i64 ((rd_T36 l0_0 a1_1).f0), .int .i64 ((rd_T36 l0_0 a1_1).f1), .int .i64 ((rd_T36 l0_0 a1_1).f2)] 36 (0, 0)) (by (with_reducible repeat first | apply bn | apply bd | apply ba); exact BK133.out)) : gb133 ≠ gb137)); have n15_ := Aside0.mk ((by rw [hg]; exact Nat.ne_of_gt (blk_lt (g := gb133) (o := .cells #[.int .i64 ((rd_T36 l0_0 a1_1).f0), .int .i64 ((rd_T36 l0_0 a1_1).f1), .int .i64 ((rd_T36 l0_0 a1_1).f2)] 36 (0, 0)) (by (with_reducible repeat first | apply bn | apply bd | apply ba); exact BK133.out)) : gb137 ≠ gb133)); clear BK128; clear BK129; clear BK132; clear BK133; clear HB; have BK128 := n0_; have BK129 := n1_; have BK132 := n2_; have BK133 := n3_; have HB := n4_; have BK137 := n5_; have GW137 := n6_; have GE137 := n7_; have NB128_137 := n8_; have NB137_128 := n9_; have NB129_137 := n10_; have NB137_129 := n11_; have NB132_137 := n12_; have NB137_132 := n13_; have NB133_137 := n14_; have NB137_133 := n15_; clear n0_ n1_ n2_ n3_ n4_ n5_ n6_ n7_ n8_ n9_ n10_ n11_ n12_ n13_ n14_ n15_; clear hb hbox hg; have hnb183 := NB137_128.out; have hnc183 := NB128_137.out; have hnb184 := NB137_129.out; have hnc184 := NB129_137.out; have hnb185 := NB137_132.out; have hnc185 := NB132_137.out; have hnb186 := NB137_133.out; have hnc186 := NB133_137.out; have hcz187_0 : w182.cell? ⟨gb137, 0, none⟩ = some (.int .i64 0) := (blk_cell BK137.out 0).trans rfl; have hcz187_1 : w182.cell? ⟨gb137, 1, none⟩ = some (.int .i64 0) := (blk_cell BK137.out 1).trans rfl; have hcz187_2 : w182.cell? ⟨gb137, 2, none⟩ = some (.int .i64 0) := (blk_cell BK137.out 2).trans rfl; have hfz187_0 := blk_frozen BK137.out 0; have hfz187_1 := blk_frozen BK137.out 1; have hfz187_2 := blk_frozen BK137.out 2; have hcz188_0 : w182.cell? ⟨gb129, 0, none⟩ = some (.int .i64 a1_0) := (blk_cell BK129.out 0).trans rfl; have hcz188_1 : w182.cell? ⟨gb129, 1, none⟩ = some (.int .i64 a1_1) := (blk_cell BK129.out 1).trans rfl; have hcz188_2 : w182.cell? ⟨gb129, 2, none⟩ = some (.int .i64 a1_2) := (blk_cell BK129.out 2).trans rfl; have hcz188_3 : w182.cell? ⟨gb129, 3, none⟩ = some (.int .i64 a1_3) := (blk_cell BK129.out 3).trans rfl; have hfz188_0 := blk_frozen BK129.out 0; have hfz188_1 := blk_frozen BK129.out 1; have hfz188_2 := blk_frozen BK129.out 2; have hfz188_3 := blk_frozen BK129.out 3; have hnb189 := NB132_133.out; have hnc189 := NB133_132.out; have hcz190_0 : w182.cell? ⟨gb132, 0, none⟩ = some (.int .i64 ((rd_T36 l0_0 a1_0).f0)) := (blk_cell BK132.out 0).trans rfl; have hcz190_1 : w182.cell? ⟨gb132, 1, none⟩ = some (.int .i64 ((rd_T36 l0_0 a1_0).f1)) := (blk_cell BK132.out 1).trans rfl; have hcz190_2 : w182.cell? ⟨gb132, 2, none⟩ = some (.int .i64 ((rd_T36 l0_0 a1_0).f2)) := (blk_cell BK132.out 2).trans rfl; have hfz190_0 := blk_frozen BK132.out 0; have hfz190_1 := blk_frozen BK132.out 1; have hfz190_2 := blk_frozen BK132.out 2; have hcz191_0 : w182.cell? ⟨gb128, 0, none⟩ = some (.slice (some ad130) l0_0.length c0_0) := (blk_cell BK128.out 0).trans rfl; have hcz191_1 : w182.cell? ⟨gb128, 1, none⟩ = some (.slice A0_1 l0_1.length c0_1) := (blk_cell BK128.out 1).trans rfl; have hcz191_2 : w182.cell? ⟨gb128, 2, none⟩ = some (.int .i64 a0_2) := (blk_cell BK128.out 2).trans rfl; have hfz191_0 := blk_frozen BK128.out 0; have hfz191_1 := blk_frozen BK128.out 1; have hfz191_2 := blk_frozen BK128.out 2) | (go_at_call 22; (with_reducible refine (dataflowref27_calls.calls kj6 _ _ l0_0 _ _ l0_1 a0_2 a1_3 ((rd_T36 l0_0 a1_0).f0) false _ ?side1 ?side2 ?side3 ?side4 A132.out).mono ?_); (case side1 => exact Kd.C_below HR0_0.out (by repeat with_reducible first | exact HB.out | apply below_alloc | apply pw_below_drewN | apply below_drew1 | refine below_set ?_ GE128.out | refine below_set ?_ GE129.out | refine below_set ?_ GE132.out | refine below_set ?_ GE133.out | refine below_set ?_ GE137.out)); (case side2 => exact HC0_0.out); (case side3 => exact Kd.C_below HR0_1.out (by repeat with_reducible first | exact HB.out | apply below_alloc | apply pw_below_drewN | apply below_drew1 | refine below_set ?_ GE128.out | refine below_set ?_ GE129.out | refine below_set ?_ GE132.out | refine below_set ?_ GE133.out | refine below_set ?_ GE137.out)); (case side4 => exact HC0_1.out); rintro e w192 ⟨rfl, hb⟩; have n0_ := Aside0.mk (blk_below (g := gb128) (o := .cells #[.slice (some ad130) l0_0.length c0_0, .slice A0_1 l0_1.length c0_1, .int .i64 a0_2] 25 (0, 0)) (by (with_reducible repeat first | apply bn | apply bd | apply ba); refine blk_far ?_ NB128_137.out _; refine blk_far ?_ NB128_137.out _; refine blk_far ?_ NB128_137.out _; (with_reducible repeat first | apply bn | apply bd | apply ba); exact BK128.out) hb); have n1_ := Aside0.mk (blk_below (g := gb129) (o := .cells #[.int .i64 a1_0, .int .i64 a1_1, .int .i64 a1_2, .int .i64 a1_3] 33 (0, 0)) (by (with_reducible repeat first | apply bn | apply bd | apply ba); refine blk_far ?_ NB129_137.out _; refine blk_far ?_ NB129_137.out _; refine blk_far ?_ NB129_137.out _; (with_reducible repeat first | apply bn | apply bd | apply ba); exact BK129.out) hb); have n2_ := Aside0.mk (blk_below (g := gb132) (o := .cells #[.int .i64 ((rd_T36 l0_0 a1_0).f0), .int .i64 ((rd_T36 l0_0 a1_0).f1), .int .i64 ((rd_T36 l0_0 a1_0).f2)] 36 (0, 0)) (by (with_reducible repeat first | apply bn | apply bd | apply ba); refine blk_far ?_ NB132_137.out _; refine blk_far ?_ NB132_137.out _; refine blk_far ?_ NB132_137.out _; (with_reducible repeat first | apply bn | apply bd | apply ba); exact BK132.out) hb); have n3_ := Aside0.mk (blk_below (g := gb133) (o := .cells #[.int .i64 ((rd_T36 l0_0 a1_1).f0), .int .i64 ((rd_T36 l0_0 a1_1).f1), .int .i64 ((rd_T36 l0_0 a1_1).f2)] 36 (0, 0)) (by (with_reducible repeat first | apply bn | apply bd | apply ba); refine blk_far ?_ NB133_137.out _; refine blk_far ?_ NB133_137.out _; refine blk_far ?_ NB133_137.out _; (with_reducible repeat first | apply bn | apply bd | apply ba); exact BK133.out) hb); have n4_ := Aside0.mk (blk_below (g := gb137) (o := .cells #[.int .i64 ((rd_T36 l0_0 a1_3).f0), .int .i64 ((rd_T36 l0_0 a1_3).f1), .int .i64 ((rd_T36 l0_0 a1_3).f2)] 36 (0, 0)) (by (with_reducible repeat first | apply bn | apply bd | apply ba); refine blk_put (cs := #[.int .i64 ((rd_T36 l0_0 a1_3).f0), .int .i64 ((rd_T36 l0_0 a1_3).f1), .int .i64 0]) ?_ 2 _ rfl; refine blk_put (cs := #[.int .i64 ((rd_T36 l0_0 a1_3).f0), .int .i64 0, .int .i64 0]) ?_ 1 _ rfl; refine blk_put (cs := #[.int .i64 0, .int .i64 0, .int .i64 0]) ?_ 0 _ rfl; (with_reducible repeat first | apply bn | apply bd | apply ba); exact BK137.out) hb); have n5_ := Aside0.mk (below_step (by repeat with_reducible first | exact HB.out | apply below_alloc | apply pw_below_drewN | apply below_drew1 | refine below_set ?_ GE128.out | refine below_set ?_ GE129.out | refine below_set ?_ GE132.out | refine below_set ?_ GE133.out | refine below_set ?_ GE137.out) hb); clear BK128; clear BK129; clear BK132; clear BK133; clear BK137; clear HB; have BK128 := n0_; have BK129 := n1_; have BK132 := n2_; have BK133 := n3_; have BK137 := n4_; have HB := n5_; clear n0_ n1_ n2_ n3_ n4_ n5_; (try clear hb); (try clear hb2); (try clear hk); (try clear hi)))
                go_ret
                exact ⟨by first | rfl | (simp [errW_none, errW_some] <;> rfl) | (simp [*, errW_none, errW_some] <;> rfl), by repeat with_reducible first | exact HB.out | apply below_alloc | apply pw_below_drewN | apply below_drew1 | refine below_set ?_ GE128.out | refine below_set ?_ GE129.out | refine below_set ?_ GE132.out | refine below_set ?_ GE133.out | refine below_set ?_ GE137.out⟩
              ·rw [if_neg c131] at H
               have c131b0 : (((rd_T36 l0_0 a1_3).f1) == 2) = false := beq_eq_false_iff_ne.mpr c131
               have c131b1 : (((rd_T36 l0_0 a1_3).f1) != 2) = true := bne_iff_ne.mpr c131
               obtain rfl := Option.some.inj H
               have hnb193 := NB128_129.out
               have hnc193 := NB129_128.out
               have hnb194 := NB128_132.out
               have hnc194 := NB132_128.out
               have hnb195 := NB128_133.out
               have hnc195 := NB133_128.out
               have hcz196_0 : wc.cell? ⟨gb128, 0, none⟩ = some (.slice (some ad130) l0_0.length c0_0) := (blk_cell BK128.out 0).trans rfl
               have hcz196_1 : wc.cell? ⟨gb128, 1, none⟩ = some (.slice A0_1 l0_1.length c0_1) := (blk_cell BK128.out 1).trans rfl
               have hcz196_2 : wc.cell? ⟨gb128, 2, none⟩ = some (.int .i64 a0_2) := (blk_cell BK128.out 2).trans rfl
               have hfz196_0 := blk_frozen BK128.out 0
               have hfz196_1 := blk_frozen BK128.out 1
               have hfz196_2 := blk_frozen BK128.out 2
               have hnb197 := NB129_132.out
               have hnc197 := NB132_129.out
               have hnb198 := NB129_133.out
               have hnc198 := NB133_129.out
               have hcz199_0 : wc.cell? ⟨gb129, 0, none⟩ = some (.int .i64 a1_0) := (blk_cell BK129.out 0).trans rfl
               have hcz199_1 : wc.cell? ⟨gb129, 1, none⟩ = some (.int .i64 a1_1) := (blk_cell BK129.out 1).trans rfl
               have hcz199_2 : wc.cell? ⟨gb129, 2, none⟩ = some (.int .i64 a1_2) := (blk_cell BK129.out 2).trans rfl
               have hcz199_3 : wc.cell? ⟨gb129, 3, none⟩ = some (.int .i64 a1_3) := (blk_cell BK129.out 3).trans rfl
               have hfz199_0 := blk_frozen BK129.out 0
               have hfz199_1 := blk_frozen BK129.out 1
               have hfz199_2 := blk_frozen BK129.out 2
               have hfz199_3 := blk_frozen BK129.out 3
               have p136 : 0 ≤ (a1_3 : Int) := of_decide_eq_true (by first | (with_reducible assumption) | assumption)
               have q136 : a1_3 < (l0_0.length : Int) := of_decide_eq_true (by first | (with_reducible assumption) | assumption)
               obtain ⟨ad136, e136, hx136_0, hx136_1, hx136_2⟩ := at_T36 HR0_0.out a1_3 p136 q136
               obtain rfl : ad130 = ad136 := (by injection e136)
               replace hx136_0 := (HB.out.cell (World.block_lt_of_cell? w _ hx136_0)).trans hx136_0
               replace hx136_1 := (HB.out.cell (World.block_lt_of_cell? w _ hx136_1)).trans hx136_1
               replace hx136_2 := (HB.out.cell (World.block_lt_of_cell? w _ hx136_2)).trans hx136_2
               replace p136 := eq_true p136
               replace q136 := eq_true q136
               go_wp2_with (first | ((with_reducible refine gate_dst (N := 7) rfl ?_); refine box_event ?hg (N := 7) ?hd (cs := #[.int .i64 0, .int .i64 0, .int .i64 0]) (t := 36) ?hr ?_; (case hd => rfl); (case hg => rfl); (case hr => first | (go_simp; done) | (go_simp; rfl)); intro gb137 hg w200 hbox hb; have n0_ := Aside0.mk (blk_below (g := gb128) (o := .cells #[.slice (some ad130) l0_0.length c0_0, .slice A0_1 l0_1.length c0_1, .int .i64 a0_2] 25 (0, 0)) (by (with_reducible repeat first | apply bn | apply bd | apply ba); exact BK128.out) hb); have n1_ := Aside0.mk (blk_below (g := gb129) (o := .cells #[.int .i64 a1_0, .int .i64 a1_1, .int .i64 a1_2, .int .i64 a1_3] 33 (0, 0)) (by (with_reducible repeat first | apply bn | apply bd | apply ba); exact BK129.out) hb); have n2_ := Aside0.mk (blk_below (g := gb132) (o := .cells #[.int .i64 ((rd_T36 l0_0 a1_0).f0), .int .i64 ((rd_T36 l0_0 a1_0).f1), .int .i64 ((rd_T36 l0_0 a1_0).f2)] 36 (0, 0)) (by (with_reducible repeat first | apply bn | apply bd | apply ba); exact BK132.out) hb); have n3_ := Aside0.mk (blk_below (g := gb133) (o := .cells #[.int .i64 ((rd_T36 l0_0 a1_1).f0), .int .i64 ((rd_T36 l0_0 a1_1).f1), .int .i64 ((rd_T36 l0_0 a1_1).f2)] 36 (0, 0)) (by (with_reducible repeat first | apply bn | apply bd | apply ba); exact BK133.out) hb); have n4_ := Aside0.mk (below_step (by repeat with_reducible first | exact HB.out | apply below_alloc | apply pw_below_drewN | apply below_drew1 | refine below_set ?_ GE128.out | refine below_set ?_ GE129.out | refine below_set ?_ GE132.out | refine below_set ?_ GE133.out) hb); have n5_ := Aside0.mk (hbox); have n6_ := Aside0.mk ((by rw [hg]; exact (below_size (by repeat with_reducible first | exact HB.out | apply below_alloc | apply pw_below_drewN | apply below_drew1 | refine below_set ?_ GE128.out | refine below_set ?_ GE129.out | refine below_set ?_ GE132.out | refine below_set ?_ GE133.out)) : w.heap.size ≤ gb137)); have n7_ := Aside0.mk ((by rw [hg]; exact (below_size (by repeat with_reducible first | exact HB.out | apply below_alloc | apply pw_below_drewN | apply below_drew1 | refine below_set ?_ GE128.out | refine below_set ?_ GE129.out | refine below_set ?_ GE132.out | refine below_set ?_ GE133.out)) : w.heap.size ≤ gb137)); have n8_ := Aside0.mk ((by rw [hg]; exact Nat.ne_of_lt (blk_lt (g := gb128) (o := .cells #[.slice (some ad130) l0_0.length c0_0, .slice A0_1 l0_1.length c0_1, .int .i64 a0_2] 25 (0, 0)) (by (with_reducible repeat first | apply bn | apply bd | apply ba); exact BK128.out)) : gb128 ≠ gb137)); have n9_ := Aside0.mk ((by rw [hg]; exact Nat.ne_of_gt (blk_lt (g := gb128) (o := .cells #[.slice (some ad130) l0_0.length c0_0, .slice A0_1 l0_1.length c0_1, .int .i64 a0_2] 25 (0, 0)) (by (with_reducible repeat first | apply bn | apply bd | apply ba); exact BK128.out)) : gb137 ≠ gb128)); have n10_ := Aside0.mk ((by rw [hg]; exact Nat.ne_of_lt (blk_lt (g := gb129) (o := .cells #[.int .i64 a1_0, .int .i64 a1_1, .int .i64 a1_2, .int .i64 a1_3] 33 (0, 0)) (by (with_reducible repeat first | apply bn | apply bd | apply ba); exact BK129.out)) : gb129 ≠ gb137)); have n11_ := Aside0.mk ((by rw [hg]; exact Nat.ne_of_gt (blk_lt (g := gb129) (o := .cells #[.int .i64 a1_0, .int .i64 a1_1, .int .i64 a1_2, .int .i64 a1_3] 33 (0, 0)) (by (with_reducible repeat first | apply bn | apply bd | apply ba); exact BK129.out)) : gb137 ≠ gb129)); have n12_ := Aside0.mk ((by rw [hg]; exact Nat.ne_of_lt (blk_lt (g := gb132) (o := .cells #[.int .i64 ((rd_T36 l0_0 a1_0).f0), .int .i64 ((rd_T36 l0_0 a1_0).f1), .int .i64 ((rd_T36 l0_0 a1_0).f2)] 36 (0, 0)) (by (with_reducible repeat first | apply bn | apply bd | apply ba); exact BK132.out)) : gb132 ≠ gb137)); have n13_ := Aside0.mk ((by rw [hg]; exact Nat.ne_of_gt (blk_lt (g := gb132) (o := .cells #[.int .i64 ((rd_T36 l0_0 a1_0).f0), .int .i64 ((rd_T36 l0_0 a1_0).f1), .int .i64 ((rd_T36 l0_0 a1_0).f2)] 36 (0, 0)) (by (with_reducible repeat first | apply bn | apply bd | apply ba); exact BK132.out)) : gb137 ≠ gb132)); have n14_ := Aside0.mk ((by rw [hg]; exact Nat.ne_of_lt (blk_lt (g := gb133) (o := .cells #[.int .i64 ((rd_T36 l0_0 a1_1).f0), .int .i64 ((rd_T36 l0_0 a1_1).f1), .int .i64 ((rd_T36 l0_0 a1_1).f2)] 36 (0, 0)) (by (with_reducible repeat first | apply bn | apply bd | apply ba); exact BK133.out)) : gb133 ≠ gb137)); have n15_ := Aside0.mk ((by rw [hg]; exact Nat.ne_of_gt (blk_lt (g := gb133) (o := .cells #[.int .i64 ((rd_T36 l0_0 a1_1).f0), .int .i64 ((rd_T36 l0_0 a1_1).f1), .int .i64 ((rd_T36 l0_0 a1_1).f2)] 36 (0, 0)) (by (with_reducible repeat first | apply bn | apply bd | apply ba); exact BK133.out)) : gb137 ≠ gb133)); clear BK128; clear BK129; clear BK132; clear BK133; clear HB; have BK128 := n0_; have BK129 := n1_; have BK132 := n2_; have BK133 := n3_; have HB := n4_; have BK137 := n5_; have GW137 := n6_; have GE137 := n7_; have NB128_137 := n8_; have NB137_128 := n9_; have NB129_137 := n10_; have NB137_129 := n11_; have NB132_137 := n12_; have NB137_132 := n13_; have NB133_137 := n14_; have NB137_133 := n15_; clear n0_ n1_ n2_ n3_ n4_ n5_ n6_ n7_ n8_ n9_ n10_ n11_ n12_ n13_ n14_ n15_; clear hb hbox hg; have hnb201 := NB137_128.out; have hnc201 := NB128_137.out; have hnb202 := NB137_129.out; have hnc202 := NB129_137.out; have hnb203 := NB137_132.out; have hnc203 := NB132_137.out; have hnb204 := NB137_133.out; have hnc204 := NB133_137.out; have hcz205_0 : w200.cell? ⟨gb137, 0, none⟩ = some (.int .i64 0) := (blk_cell BK137.out 0).trans rfl; have hcz205_1 : w200.cell? ⟨gb137, 1, none⟩ = some (.int .i64 0) := (blk_cell BK137.out 1).trans rfl; have hcz205_2 : w200.cell? ⟨gb137, 2, none⟩ = some (.int .i64 0) := (blk_cell BK137.out 2).trans rfl; have hfz205_0 := blk_frozen BK137.out 0; have hfz205_1 := blk_frozen BK137.out 1; have hfz205_2 := blk_frozen BK137.out 2; have hcz206_0 : w200.cell? ⟨gb129, 0, none⟩ = some (.int .i64 a1_0) := (blk_cell BK129.out 0).trans rfl; have hcz206_1 : w200.cell? ⟨gb129, 1, none⟩ = some (.int .i64 a1_1) := (blk_cell BK129.out 1).trans rfl; have hcz206_2 : w200.cell? ⟨gb129, 2, none⟩ = some (.int .i64 a1_2) := (blk_cell BK129.out 2).trans rfl; have hcz206_3 : w200.cell? ⟨gb129, 3, none⟩ = some (.int .i64 a1_3) := (blk_cell BK129.out 3).trans rfl; have hfz206_0 := blk_frozen BK129.out 0; have hfz206_1 := blk_frozen BK129.out 1; have hfz206_2 := blk_frozen BK129.out 2; have hfz206_3 := blk_frozen BK129.out 3; have hnb207 := NB132_133.out; have hnc207 := NB133_132.out; have hcz208_0 : w200.cell? ⟨gb132, 0, none⟩ = some (.int .i64 ((rd_T36 l0_0 a1_0).f0)) := (blk_cell BK132.out 0).trans rfl; have hcz208_1 : w200.cell? ⟨gb132, 1, none⟩ = some (.int .i64 ((rd_T36 l0_0 a1_0).f1)) := (blk_cell BK132.out 1).trans rfl; have hcz208_2 : w200.cell? ⟨gb132, 2, none⟩ = some (.int .i64 ((rd_T36 l0_0 a1_0).f2)) := (blk_cell BK132.out 2).trans rfl; have hfz208_0 := blk_frozen BK132.out 0; have hfz208_1 := blk_frozen BK132.out 1; have hfz208_2 := blk_frozen BK132.out 2))
               go_ret
               exact ⟨by first | rfl | (simp [errW_none, errW_some] <;> rfl) | (simp [*, errW_none, errW_some] <;> rfl), by repeat with_reducible first | exact HB.out | apply below_alloc | apply pw_below_drewN | apply below_drew1 | refine below_set ?_ GE128.out | refine below_set ?_ GE129.out | refine below_set ?_ GE132.out | refine below_set ?_ GE133.out | refine below_set ?_ GE137.out⟩
            ·rw [if_neg c34] at H
             have c34b0 : (((rd_T36 l0_0 a1_0).f1) == 3) = false := beq_eq_false_iff_ne.mpr c34
             have c34b1 : (((rd_T36 l0_0 a1_0).f1) != 3) = true := bne_iff_ne.mpr c34
             obtain rfl := Option.some.inj H
             have hnb209 := NB128_129.out
             have hnc209 := NB129_128.out
             have hnb210 := NB128_132.out
             have hnc210 := NB132_128.out
             have hnb211 := NB128_133.out
             have hnc211 := NB133_128.out
             have hcz212_0 : wc.cell? ⟨gb128, 0, none⟩ = some (.slice (some ad130) l0_0.length c0_0) := (blk_cell BK128.out 0).trans rfl
             have hcz212_1 : wc.cell? ⟨gb128, 1, none⟩ = some (.slice A0_1 l0_1.length c0_1) := (blk_cell BK128.out 1).trans rfl
             have hcz212_2 : wc.cell? ⟨gb128, 2, none⟩ = some (.int .i64 a0_2) := (blk_cell BK128.out 2).trans rfl
             have hfz212_0 := blk_frozen BK128.out 0
             have hfz212_1 := blk_frozen BK128.out 1
             have hfz212_2 := blk_frozen BK128.out 2
             have hnb213 := NB129_132.out
             have hnc213 := NB132_129.out
             have hnb214 := NB129_133.out
             have hnc214 := NB133_129.out
             have hcz215_0 : wc.cell? ⟨gb129, 0, none⟩ = some (.int .i64 a1_0) := (blk_cell BK129.out 0).trans rfl
             have hcz215_1 : wc.cell? ⟨gb129, 1, none⟩ = some (.int .i64 a1_1) := (blk_cell BK129.out 1).trans rfl
             have hcz215_2 : wc.cell? ⟨gb129, 2, none⟩ = some (.int .i64 a1_2) := (blk_cell BK129.out 2).trans rfl
             have hcz215_3 : wc.cell? ⟨gb129, 3, none⟩ = some (.int .i64 a1_3) := (blk_cell BK129.out 3).trans rfl
             have hfz215_0 := blk_frozen BK129.out 0
             have hfz215_1 := blk_frozen BK129.out 1
             have hfz215_2 := blk_frozen BK129.out 2
             have hfz215_3 := blk_frozen BK129.out 3
             have p136 : 0 ≤ (a1_3 : Int) := of_decide_eq_true (by first | (with_reducible assumption) | assumption)
             have q136 : a1_3 < (l0_0.length : Int) := of_decide_eq_true (by first | (with_reducible assumption) | assumption)
             obtain ⟨ad136, e136, hx136_0, hx136_1, hx136_2⟩ := at_T36 HR0_0.out a1_3 p136 q136
             obtain rfl : ad130 = ad136 := (by injection e136)
             replace hx136_0 := (HB.out.cell (World.block_lt_of_cell? w _ hx136_0)).trans hx136_0
             replace hx136_1 := (HB.out.cell (World.block_lt_of_cell? w _ hx136_1)).trans hx136_1
             replace hx136_2 := (HB.out.cell (World.block_lt_of_cell? w _ hx136_2)).trans hx136_2
             replace p136 := eq_true p136
             replace q136 := eq_true q136
             go_wp2_with (first | ((with_reducible refine gate_dst (N := 7) rfl ?_); refine box_event ?hg (N := 7) ?hd (cs := #[.int .i64 0, .int .i64 0, .int .i64 0]) (t := 36) ?hr ?_; (case hd => rfl); (case hg => rfl); (case hr => first | (go_simp; done) | (go_simp; rfl)); intro gb137 hg w216 hbox hb; have n0_ := Aside0.mk (blk_below (g := gb128) (o := .cells #[.slice (some ad130) l0_0.length c0_0, .slice A0_1 l0_1.length c0_1, .int .i64 a0_2] 25 (0, 0)) (by (with_reducible repeat first | apply bn | apply bd | apply ba); exact BK128.out) hb); have n1_ := Aside0.mk (blk_below (g := gb129) (o := .cells #[.int .i64 a1_0, .int .i64 a1_1, .int .i64 a1_2, .int .i64 a1_3] 33 (0, 0)) (by (with_reducible repeat first | apply bn | apply bd | apply ba); exact BK129.out) hb); have n2_ := Aside0.mk (blk_below (g := gb132) (o := .cells #[.int .i64 ((rd_T36 l0_0 a1_0).f0), .int .i64 ((rd_T36 l0_0 a1_0).f1), .int .i64 ((rd_T36 l0_0 a1_0).f2)] 36 (0, 0)) (by (with_reducible repeat first | apply bn | apply bd | apply ba); exact BK132.out) hb); have n3_ := Aside0.mk (blk_below (g := gb133) (o := .cells #[.int .i64 ((rd_T36 l0_0 a1_1).f0), .int .i64 ((rd_T36 l0_0 a1_1).f1), .int .i64 ((rd_T36 l0_0 a1_1).f2)] 36 (0, 0)) (by (with_reducible repeat first | apply bn | apply bd | apply ba); exact BK133.out) hb); have n4_ := Aside0.mk (below_step (by repeat with_reducible first | exact HB.out | apply below_alloc | apply pw_below_drewN | apply below_drew1 | refine below_set ?_ GE128.out | refine below_set ?_ GE129.out | refine below_set ?_ GE132.out | refine below_set ?_ GE133.out) hb); have n5_ := Aside0.mk (hbox); have n6_ := Aside0.mk ((by rw [hg]; exact (below_size (by repeat with_reducible first | exact HB.out | apply below_alloc | apply pw_below_drewN | apply below_drew1 | refine below_set ?_ GE128.out | refine below_set ?_ GE129.out | refine below_set ?_ GE132.out | refine below_set ?_ GE133.out)) : w.heap.size ≤ gb137)); have n7_ := Aside0.mk ((by rw [hg]; exact (below_size (by repeat with_reducible first | exact HB.out | apply below_alloc | apply pw_below_drewN | apply below_drew1 | refine below_set ?_ GE128.out | refine below_set ?_ GE129.out | refine below_set ?_ GE132.out | refine below_set ?_ GE133.out)) : w.heap.size ≤ gb137)); have n8_ := Aside0.mk ((by rw [hg]; exact Nat.ne_of_lt (blk_lt (g := gb128) (o := .cells #[.slice (some ad130) l0_0.length c0_0, .slice A0_1 l0_1.length c0_1, .int .i64 a0_2] 25 (0, 0)) (by (with_reducible repeat first | apply bn | apply bd | apply ba); exact BK128.out)) : gb128 ≠ gb137)); have n9_ := Aside0.mk ((by rw [hg]; exact Nat.ne_of_gt (blk_lt (g := gb128) (o := .cells #[.slice (some ad130) l0_0.length c0_0, .slice A0_1 l0_1.length c0_1, .int .i64 a0_2] 25 (0, 0)) (by (with_reducible repeat first | apply bn | apply bd | apply ba); exact BK128.out)) : gb137 ≠ gb128)); have n10_ := Aside0.mk ((by rw [hg]; exact Nat.ne_of_lt (blk_lt (g := gb129) (o := .cells #[.int .i64 a1_0, .int .i64 a1_1, .int .i64 a1_2, .int .i64 a1_3] 33 (0, 0)) (by (with_reducible repeat first | apply bn | apply bd | apply ba); exact BK129.out)) : gb129 ≠ gb137)); have n11_ := Aside0.mk ((by rw [hg]; exact Nat.ne_of_gt (blk_lt (g := gb129) (o := .cells #[.int .i64 a1_0, .int .i64 a1_1, .int .i64 a1_2, .int .i64 a1_3] 33 (0, 0)) (by (with_reducible repeat first | apply bn | apply bd | apply ba); exact BK129.out)) : gb137 ≠ gb129)); have n12_ := Aside0.mk ((by rw [hg]; exact Nat.ne_of_lt (blk_lt (g := gb132) (o := .cells #[.int .i64 ((rd_T36 l0_0 a1_0).f0), .int .i64 ((rd_T36 l0_0 a1_0).f1), .int .i64 ((rd_T36 l0_0 a1_0).f2)] 36 (0, 0)) (by (with_reducible repeat first | apply bn | apply bd | apply ba); exact BK132.out)) : gb132 ≠ gb137)); have n13_ := Aside0.mk ((by rw [hg]; exact Nat.ne_of_gt (blk_lt (g := gb132) (o := .cells #[.int .i64 ((rd_T36 l0_0 a1_0).f0), .int .i64 ((rd_T36 l0_0 a1_0).f1), .int .i64 ((rd_T36 l0_0 a1_0).f2)] 36 (0, 0)) (by (with_reducible repeat first | apply bn | apply bd | apply ba); exact BK132.out)) : gb137 ≠ gb132)); have n14_ := Aside0.mk ((by rw [hg]; exact Nat.ne_of_lt (blk_lt (g := gb133) (o := .cells #[.int .i64 ((rd_T36 l0_0 a1_1).f0), .int .i64 ((rd_T36 l0_0 a1_1).f1), .int .i64 ((rd_T36 l0_0 a1_1).f2)] 36 (0, 0)) (by (with_reducible repeat first | apply bn | apply bd | apply ba); exact BK133.out)) : gb133 ≠ gb137)); have n15_ := Aside0.mk ((by rw [hg]; exact Nat.ne_of_gt (blk_lt (g := gb133) (o := .cells #[.int .i64 ((rd_T36 l0_0 a1_1).f0), .int .i64 ((rd_T36 l0_0 a1_1).f1), .int .i64 ((rd_T36 l0_0 a1_1).f2)] 36 (0, 0)) (by (with_reducible repeat first | apply bn | apply bd | apply ba); exact BK133.out)) : gb137 ≠ gb133)); clear BK128; clear BK129; clear BK132; clear BK133; clear HB; have BK128 := n0_; have BK129 := n1_; have BK132 := n2_; have BK133 := n3_; have HB := n4_; have BK137 := n5_; have GW137 := n6_; have GE137 := n7_; have NB128_137 := n8_; have NB137_128 := n9_; have NB129_137 := n10_; have NB137_129 := n11_; have NB132_137 := n12_; have NB137_132 := n13_; have NB133_137 := n14_; have NB137_133 := n15_; clear n0_ n1_ n2_ n3_ n4_ n5_ n6_ n7_ n8_ n9_ n10_ n11_ n12_ n13_ n14_ n15_; clear hb hbox hg; have hnb217 := NB137_128.out; have hnc217 := NB128_137.out; have hnb218 := NB137_129.out; have hnc218 := NB129_137.out; have hnb219 := NB137_132.out; have hnc219 := NB132_137.out; have hnb220 := NB137_133.out; have hnc220 := NB133_137.out; have hcz221_0 : w216.cell? ⟨gb137, 0, none⟩ = some (.int .i64 0) := (blk_cell BK137.out 0).trans rfl; have hcz221_1 : w216.cell? ⟨gb137, 1, none⟩ = some (.int .i64 0) := (blk_cell BK137.out 1).trans rfl; have hcz221_2 : w216.cell? ⟨gb137, 2, none⟩ = some (.int .i64 0) := (blk_cell BK137.out 2).trans rfl; have hfz221_0 := blk_frozen BK137.out 0; have hfz221_1 := blk_frozen BK137.out 1; have hfz221_2 := blk_frozen BK137.out 2; have hcz222_0 : w216.cell? ⟨gb129, 0, none⟩ = some (.int .i64 a1_0) := (blk_cell BK129.out 0).trans rfl; have hcz222_1 : w216.cell? ⟨gb129, 1, none⟩ = some (.int .i64 a1_1) := (blk_cell BK129.out 1).trans rfl; have hcz222_2 : w216.cell? ⟨gb129, 2, none⟩ = some (.int .i64 a1_2) := (blk_cell BK129.out 2).trans rfl; have hcz222_3 : w216.cell? ⟨gb129, 3, none⟩ = some (.int .i64 a1_3) := (blk_cell BK129.out 3).trans rfl; have hfz222_0 := blk_frozen BK129.out 0; have hfz222_1 := blk_frozen BK129.out 1; have hfz222_2 := blk_frozen BK129.out 2; have hfz222_3 := blk_frozen BK129.out 3; have hnb223 := NB132_133.out; have hnc223 := NB133_132.out; have hcz224_0 : w216.cell? ⟨gb132, 0, none⟩ = some (.int .i64 ((rd_T36 l0_0 a1_0).f0)) := (blk_cell BK132.out 0).trans rfl; have hcz224_1 : w216.cell? ⟨gb132, 1, none⟩ = some (.int .i64 ((rd_T36 l0_0 a1_0).f1)) := (blk_cell BK132.out 1).trans rfl; have hcz224_2 : w216.cell? ⟨gb132, 2, none⟩ = some (.int .i64 ((rd_T36 l0_0 a1_0).f2)) := (blk_cell BK132.out 2).trans rfl; have hfz224_0 := blk_frozen BK132.out 0; have hfz224_1 := blk_frozen BK132.out 1; have hfz224_2 := blk_frozen BK132.out 2))
             go_ret
             exact ⟨by first | rfl | (simp [errW_none, errW_some] <;> rfl) | (simp [*, errW_none, errW_some] <;> rfl), by repeat with_reducible first | exact HB.out | apply below_alloc | apply pw_below_drewN | apply below_drew1 | refine below_set ?_ GE128.out | refine below_set ?_ GE129.out | refine below_set ?_ GE132.out | refine below_set ?_ GE133.out | refine below_set ?_ GE137.out⟩
           ·rw [if_neg c33] at H
            have c33b0 : (a1_2 == 3) = false := beq_eq_false_iff_ne.mpr c33
            have c33b1 : (a1_2 != 3) = true := bne_iff_ne.mpr c33
            by_cases c225 : a1_2 = 4
            ·rw [if_pos c225] at H
             have c225b0 : (a1_2 == 4) = true := beq_iff_eq.mpr c225
             have c225b1 : (a1_2 != 4) = false := bne_eq_false_iff_eq.mpr c225
             clear c225
             by_cases c226 : ((rd_T36 l0_0 a1_0).f1) = 4
             ·rw [if_pos c226] at H
              have c226b0 : (((rd_T36 l0_0 a1_0).f1) == 4) = true := beq_iff_eq.mpr c226
              have c226b1 : (((rd_T36 l0_0 a1_0).f1) != 4) = false := bne_eq_false_iff_eq.mpr c226
              clear c226
              by_cases c227 : ((rd_T36 l0_0 a1_3).f1) = 2
              ·rw [if_pos c227] at H
               have c227b0 : (((rd_T36 l0_0 a1_3).f1) == 2) = true := beq_iff_eq.mpr c227
               have c227b1 : (((rd_T36 l0_0 a1_3).f1) != 2) = false := bne_eq_false_iff_eq.mpr c227
               clear c227
               replace H := Option.bind_eq_some_iff.mp H
               obtain ⟨t140, A2280, H⟩ := H
               replace H : (if t140 = true then (if ((rd_T36 l0_0 a1_1).f0) = ((rd_T36 l0_0 a1_3).f0) then (some (((rd_T36 l0_0 a1_1).f1) != 1)) else (some false)) else (some false)) = some r := H
               have A228 := Aside0.mk A2280
               clear A2280
               by_cases c229 : t140 = true
               ·subst c229
                have H1 : (if ((rd_T36 l0_0 a1_1).f0) = ((rd_T36 l0_0 a1_3).f0) then (some (((rd_T36 l0_0 a1_1).f1) != 1)) else (some false)) = some r := by rw [if_pos rfl] at H; exact H
                clear H
                have H := H1
                clear H1
                by_cases c230 : ((rd_T36 l0_0 a1_1).f0) = ((rd_T36 l0_0 a1_3).f0)
                ·rw [if_pos c230] at H
                 have c230b0 : (((rd_T36 l0_0 a1_1).f0) == ((rd_T36 l0_0 a1_3).f0)) = true := beq_iff_eq.mpr c230
                 have c230b1 : (((rd_T36 l0_0 a1_1).f0) != ((rd_T36 l0_0 a1_3).f0)) = false := bne_eq_false_iff_eq.mpr c230
                 clear c230
                 obtain rfl := Option.some.inj H
                 have hnb231 := NB128_129.out
                 have hnc231 := NB129_128.out
                 have hnb232 := NB128_132.out
                 have hnc232 := NB132_128.out
                 have hnb233 := NB128_133.out
                 have hnc233 := NB133_128.out
                 have hcz234_0 : wc.cell? ⟨gb128, 0, none⟩ = some (.slice (some ad130) l0_0.length c0_0) := (blk_cell BK128.out 0).trans rfl
                 have hcz234_1 : wc.cell? ⟨gb128, 1, none⟩ = some (.slice A0_1 l0_1.length c0_1) := (blk_cell BK128.out 1).trans rfl
                 have hcz234_2 : wc.cell? ⟨gb128, 2, none⟩ = some (.int .i64 a0_2) := (blk_cell BK128.out 2).trans rfl
                 have hfz234_0 := blk_frozen BK128.out 0
                 have hfz234_1 := blk_frozen BK128.out 1
                 have hfz234_2 := blk_frozen BK128.out 2
                 have hnb235 := NB129_132.out
                 have hnc235 := NB132_129.out
                 have hnb236 := NB129_133.out
                 have hnc236 := NB133_129.out
                 have hcz237_0 : wc.cell? ⟨gb129, 0, none⟩ = some (.int .i64 a1_0) := (blk_cell BK129.out 0).trans rfl
                 have hcz237_1 : wc.cell? ⟨gb129, 1, none⟩ = some (.int .i64 a1_1) := (blk_cell BK129.out 1).trans rfl
                 have hcz237_2 : wc.cell? ⟨gb129, 2, none⟩ = some (.int .i64 a1_2) := (blk_cell BK129.out 2).trans rfl
                 have hcz237_3 : wc.cell? ⟨gb129, 3, none⟩ = some (.int .i64 a1_3) := (blk_cell BK129.out 3).trans rfl
                 have hfz237_0 := blk_frozen BK129.out 0
                 have hfz237_1 := blk_frozen BK129.out 1
                 have hfz237_2 := blk_frozen BK129.out 2
                 have hfz237_3 := blk_frozen BK129.out 3
                 have p136 : 0 ≤ (a1_3 : Int) := of_decide_eq_true (by first | (with_reducible assumption) | assumption)
                 have q136 : a1_3 < (l0_0.length : Int) := of_decide_eq_true (by first | (with_reducible assumption) | assumption)
                 obtain ⟨ad136, e136, hx136_0, hx136_1, hx136_2⟩ := at_T36 HR0_0.out a1_3 p136 q136
                 obtain rfl : ad130 = ad136 := (by injection e136)
                 replace hx136_0 := (HB.out.cell (World.block_lt_of_cell? w _ hx136_0)).trans hx136_0
                 replace hx136_1 := (HB.out.cell (World.block_lt_of_cell? w _ hx136_1)).trans hx136_1
                 replace hx136_2 := (HB.out.cell (World.block_lt_of_cell? w _ hx136_2)).trans hx136_2
                 replace p136 := eq_true p136
                 replace q136 := eq_true q136
                 go_wp2_with (first | ((with_reducible refine gate_dst (N := 7) rfl ?_); refine box_event ?hg (N := 7) ?hd (cs := #[.int .i64 0, .int .i64 0, .int .i64 0]) (t := 36) ?hr ?_; (case hd => rfl); (case hg => rfl); (case hr => first | (go_simp; done) | (go_simp; rfl)); intro gb137 hg w238 hbox hb; have n0_ := Aside0.mk (blk_below (g := gb128) (o := .cells #[.slice (some ad130) l0_0.length c0_0, .slice A0_1 l0_1.length c0_1, .int .i64 a0_2] 25 (0, 0)) (by (with_reducible repeat first | apply bn | apply bd | apply ba); exact BK128.out) hb); have n1_ := Aside0.mk (blk_below (g := gb129) (o := .cells #[.int .i64 a1_0, .int .i64 a1_1, .int .i64 a1_2, .int .i64 a1_3] 33 (0, 0)) (by (with_reducible repeat first | apply bn | apply bd | apply ba); exact BK129.out) hb); have n2_ := Aside0.mk (blk_below (g := gb132) (o := .cells #[.int .i64 ((rd_T36 l0_0 a1_0).f0), .int .i64 ((rd_T36 l0_0 a1_0).f1), .int .i64 ((rd_T36 l0_0 a1_0).f2)] 36 (0, 0)) (by (with_reducible repeat first | apply bn | apply bd | apply ba); exact BK132.out) hb); have n3_ := Aside0.mk (blk_below (g := gb133) (o := .cells #[.int .i64 ((rd_T36 l0_0 a1_1).f0), .int .i64 ((rd_T36 l0_0 a1_1).f1), .int .i64 ((rd_T36 l0_0 a1_1).f2)] 36 (0, 0)) (by (with_reducible repeat first | apply bn | apply bd | apply ba); exact BK133.out) hb); have n4_ := Aside0.mk (below_step (by repeat with_reducible first | exact HB.out | apply below_alloc | apply pw_below_drewN | apply below_drew1 | refine below_set ?_ GE128.out | refine below_set ?_ GE129.out | refine below_set ?_ GE132.out | refine below_set ?_ GE133.out) hb); have n5_ := Aside0.mk (hbox); have n6_ := Aside0.mk ((by rw [hg]; exact (below_size (by repeat with_reducible first | exact HB.out | apply below_alloc | apply pw_below_drewN | apply below_drew1 | refine below_set ?_ GE128.out | refine below_set ?_ GE129.out | refine below_set ?_ GE132.out | refine below_set ?_ GE133.out)) : w.heap.size ≤ gb137)); have n7_ := Aside0.mk ((by rw [hg]; exact (below_size (by repeat with_reducible first | exact HB.out | apply below_alloc | apply pw_below_drewN | apply below_drew1 | refine below_set ?_ GE128.out | refine below_set ?_ GE129.out | refine below_set ?_ GE132.out | refine below_set ?_ GE133.out)) : w.heap.size ≤ gb137)); have n8_ := Aside0.mk ((by rw [hg]; exact Nat.ne_of_lt (blk_lt (g := gb128) (o := .cells #[.slice (some ad130) l0_0.length c0_0, .slice A0_1 l0_1.length c0_1, .int .i64 a0_2] 25 (0, 0)) (by (with_reducible repeat first | apply bn | apply bd | apply ba); exact BK128.out)) : gb128 ≠ gb137)); have n9_ := Aside0.mk ((by rw [hg]; exact Nat.ne_of_gt (blk_lt (g := gb128) (o := .cells #[.slice (some ad130) l0_0.length c0_0, .slice A0_1 l0_1.length c0_1, .int .i64 a0_2] 25 (0, 0)) (by (with_reducible repeat first | apply bn | apply bd | apply ba); exact BK128.out)) : gb137 ≠ gb128)); have n10_ := Aside0.mk ((by rw [hg]; exact Nat.ne_of_lt (blk_lt (g := gb129) (o := .cells #[.int .i64 a1_0, .int .i64 a1_1, .int .i64 a1_2, .int .i64 a1_3] 33 (0, 0)) (by (with_reducible repeat first | apply bn | apply bd | apply ba); exact BK129.out)) : gb129 ≠ gb137)); have n11_ := Aside0.mk ((by rw [hg]; exact Nat.ne_of_gt (blk_lt (g := gb129) (o := .cells #[.int .i64 a1_0, .int .i64 a1_1, .int .i64 a1_2, .int .i64 a1_3] 33 (0, 0)) (by (with_reducible repeat first | apply bn | apply bd | apply ba); exact BK129.out)) : gb137 ≠ gb129)); have n12_ := Aside0.mk ((by rw [hg]; exact Nat.ne_of_lt (blk_lt (g := gb132) (o := .cells #[.int .i64 ((rd_T36 l0_0 a1_0).f0), .int .i64 ((rd_T36 l0_0 a1_0).f1), .int .i64 ((rd_T36 l0_0 a1_0).f2)] 36 (0, 0)) (by (with_reducible repeat first | apply bn | apply bd | apply ba); exact BK132.out)) : gb132 ≠ gb137)); have n13_ := Aside0.mk ((by rw [hg]; exact Nat.ne_of_gt (blk_lt (g := gb132) (o := .cells #[.int .i64 ((rd_T36 l0_0 a1_0).f0), .int .i64 ((rd_T36 l0_0 a1_0).f1), .int .i64 ((rd_T36 l0_0 a1_0).f2)] 36 (0, 0)) (by (with_reducible repeat first | apply bn | apply bd | apply ba); exact BK132.out)) : gb137 ≠ gb132)); have n14_ := Aside0.mk ((by rw [hg]; exact Nat.ne_of_lt (blk_lt (g := gb133) (o := .cells #[.int .i64 ((rd_T36 l0_0 a1_1).f0), .int .i64 ((rd_T36 l0_0 a1_1).f1), .int .i64 ((rd_T36 l0_0 a1_1).f2)] 36 (0, 0)) (by (with_reducible repeat first | apply bn | apply bd | apply ba); exact BK133.out)) : gb133 ≠ gb137)); have n15_ := Aside0.mk ((by rw [hg]; exact Nat.ne_of_gt (blk_lt (g := gb133) (o := .cells #[.int .i64 ((rd_T36 l0_0 a1_1).f0), .int .i64 ((rd_T36 l0_0 a1_1).f1), .int .i64 ((rd_T36 l0_0 a1_1).f2)] 36 (0, 0)) (by (with_reducible repeat first | apply bn | apply bd | apply ba); exact BK133.out)) : gb137 ≠ gb133)); clear BK128; clear BK129; clear BK132; clear BK133; clear HB; have BK128 := n0_; have BK129 := n1_; have BK132 := n2_; have BK133 := n3_; have HB := n4_; have BK137 := n5_; have GW137 := n6_; have GE137 := n7_; have NB128_137 := n8_; have NB137_128 := n9_; have NB129_137 := n10_; have NB137_129 := n11_; have NB132_137 := n12_; have NB137_132 := n13_; have NB133_137 := n14_; have NB137_133 := n15_; clear n0_ n1_ n2_ n3_ n4_ n5_ n6_ n7_ n8_ n9_ n10_ n11_ n12_ n13_ n14_ n15_; clear hb hbox hg; have hnb239 := NB137_128.out; have hnc239 := NB128_137.out; have hnb240 := NB137_129.out; have hnc240 := NB129_137.out; have hnb241 := NB137_132.out; have hnc241 := NB132_137.out; have hnb242 := NB137_133.out; have hnc242 := NB133_137.out; have hcz243_0 : w238.cell? ⟨gb137, 0, none⟩ = some (.int .i64 0) := (blk_cell BK137.out 0).trans rfl; have hcz243_1 : w238.cell? ⟨gb137, 1, none⟩ = some (.int .i64 0) := (blk_cell BK137.out 1).trans rfl; have hcz243_2 : w238.cell? ⟨gb137, 2, none⟩ = some (.int .i64 0) := (blk_cell BK137.out 2).trans rfl; have hfz243_0 := blk_frozen BK137.out 0; have hfz243_1 := blk_frozen BK137.out 1; have hfz243_2 := blk_frozen BK137.out 2; have hcz244_0 : w238.cell? ⟨gb129, 0, none⟩ = some (.int .i64 a1_0) := (blk_cell BK129.out 0).trans rfl; have hcz244_1 : w238.cell? ⟨gb129, 1, none⟩ = some (.int .i64 a1_1) := (blk_cell BK129.out 1).trans rfl; have hcz244_2 : w238.cell? ⟨gb129, 2, none⟩ = some (.int .i64 a1_2) := (blk_cell BK129.out 2).trans rfl; have hcz244_3 : w238.cell? ⟨gb129, 3, none⟩ = some (.int .i64 a1_3) := (blk_cell BK129.out 3).trans rfl; have hfz244_0 := blk_frozen BK129.out 0; have hfz244_1 := blk_frozen BK129.out 1; have hfz244_2 := blk_frozen BK129.out 2; have hfz244_3 := blk_frozen BK129.out 3; have hnb245 := NB132_133.out; have hnc245 := NB133_132.out; have hcz246_0 : w238.cell? ⟨gb132, 0, none⟩ = some (.int .i64 ((rd_T36 l0_0 a1_0).f0)) := (blk_cell BK132.out 0).trans rfl; have hcz246_1 : w238.cell? ⟨gb132, 1, none⟩ = some (.int .i64 ((rd_T36 l0_0 a1_0).f1)) := (blk_cell BK132.out 1).trans rfl; have hcz246_2 : w238.cell? ⟨gb132, 2, none⟩ = some (.int .i64 ((rd_T36 l0_0 a1_0).f2)) := (blk_cell BK132.out 2).trans rfl; have hfz246_0 := blk_frozen BK132.out 0; have hfz246_1 := blk_frozen BK132.out 1; have hfz246_2 := blk_frozen BK132.out 2; have hcz247_0 : w238.cell? ⟨gb128, 0, none⟩ = some (.slice (some ad130) l0_0.length c0_0) := (blk_cell BK128.out 0).trans rfl; have hcz247_1 : w238.cell? ⟨gb128, 1, none⟩ = some (.slice A0_1 l0_1.length c0_1) := (blk_cell BK128.out 1).trans rfl; have hcz247_2 : w238.cell? ⟨gb128, 2, none⟩ = some (.int .i64 a0_2) := (blk_cell BK128.out 2).trans rfl; have hfz247_0 := blk_frozen BK128.out 0; have hfz247_1 := blk_frozen BK128.out 1; have hfz247_2 := blk_frozen BK128.out 2) | (go_at_call 22; (with_reducible refine (dataflowref27_calls.calls kj6 _ _ l0_0 _ _ l0_1 a0_2 a1_3 ((rd_T36 l0_0 a1_0).f0) true _ ?side1 ?side2 ?side3 ?side4 A228.out).mono ?_); (case side1 => exact Kd.C_below HR0_0.out (by repeat with_reducible first | exact HB.out | apply below_alloc | apply pw_below_drewN | apply below_drew1 | refine below_set ?_ GE128.out | refine below_set ?_ GE129.out | refine below_set ?_ GE132.out | refine below_set ?_ GE133.out | refine below_set ?_ GE137.out)); (case side2 => exact HC0_0.out); (case side3 => exact Kd.C_below HR0_1.out (by repeat with_reducible first | exact HB.out | apply below_alloc | apply pw_below_drewN | apply below_drew1 | refine below_set ?_ GE128.out | refine below_set ?_ GE129.out | refine below_set ?_ GE132.out | refine below_set ?_ GE133.out | refine below_set ?_ GE137.out)); (case side4 => exact HC0_1.out); rintro e w248 ⟨rfl, hb⟩; have n0_ := Aside0.mk (blk_below (g := gb128) (o := .cells #[.slice (some ad130) l0_0.length c0_0, .slice A0_1 l0_1.length c0_1, .int .i64 a0_2] 25 (0, 0)) (by (with_reducible repeat first | apply bn | apply bd | apply ba); refine blk_far ?_ NB128_137.out _; refine blk_far ?_ NB128_137.out _; refine blk_far ?_ NB128_137.out _; (with_reducible repeat first | apply bn | apply bd | apply ba); exact BK128.out) hb); have n1_ := Aside0.mk (blk_below (g := gb129) (o := .cells #[.int .i64 a1_0, .int .i64 a1_1, .int .i64 a1_2, .int .i64 a1_3] 33 (0, 0)) (by (with_reducible repeat first | apply bn | apply bd | apply ba); refine blk_far ?_ NB129_137.out _; refine blk_far ?_ NB129_137.out _; refine blk_far ?_ NB129_137.out _; (with_reducible repeat first | apply bn | apply bd | apply ba); exact BK129.out) hb); have n2_ := Aside0.mk (blk_below (g := gb132) (o := .cells #[.int .i64 ((rd_T36 l0_0 a1_0).f0), .int .i64 ((rd_T36 l0_0 a1_0).f1), .int .i64 ((rd_T36 l0_0 a1_0).f2)] 36 (0, 0)) (by (with_reducible repeat first | apply bn | apply bd | apply ba); refine blk_far ?_ NB132_137.out _; refine blk_far ?_ NB132_137.out _; refine blk_far ?_ NB132_137.out _; (with_reducible repeat first | apply bn | apply bd | apply ba); exact BK132.out) hb); have n3_ := Aside0.mk (blk_below (g := gb133) (o := .cells #[.int .i64 ((rd_T36 l0_0 a1_1).f0), .int .i64 ((rd_T36 l0_0 a1_1).f1), .int .i64 ((rd_T36 l0_0 a1_1).f2)] 36 (0, 0)) (by (with_reducible repeat first | apply bn | apply bd | apply ba); refine blk_far ?_ NB133_137.out _; refine blk_far ?_ NB133_137.out _; refine blk_far ?_ NB133_137.out _; (with_reducible repeat first | apply bn | apply bd | apply ba); exact BK133.out) hb); have n4_ := Aside0.mk (blk_below (g := gb137) (o := .cells #[.int .i64 ((rd_T36 l0_0 a1_3).f0), .int .i64 ((rd_T36 l0_0 a1_3).f1), .int .i64 ((rd_T36 l0_0 a1_3).f2)] 36 (0, 0)) (by (with_reducible repeat first | apply bn | apply bd | apply ba); refine blk_put (cs := #[.int .i64 ((rd_T36 l0_0 a1_3).f0), .int .i64 ((rd_T36 l0_0 a1_3).f1), .int .i64 0]) ?_ 2 _ rfl; refine blk_put (cs := #[.int .i64 ((rd_T36 l0_0 a1_3).f0), .int .i64 0, .int .i64 0]) ?_ 1 _ rfl; refine blk_put (cs := #[.int .i64 0, .int .i64 0, .int .i64 0]) ?_ 0 _ rfl; (with_reducible repeat first | apply bn | apply bd | apply ba); exact BK137.out) hb); have n5_ := Aside0.mk (below_step (by repeat with_reducible first | exact HB.out | apply below_alloc | apply pw_below_drewN | apply below_drew1 | refine below_set ?_ GE128.out | refine below_set ?_ GE129.out | refine below_set ?_ GE132.out | refine below_set ?_ GE133.out | refine below_set ?_ GE137.out) hb); clear BK128; clear BK129; clear BK132; clear BK133; clear BK137; clear HB; have BK128 := n0_; have BK129 := n1_; have BK132 := n2_; have BK133 := n3_; have BK137 := n4_; have HB := n5_; clear n0_ n1_ n2_ n3_ n4_ n5_; (try clear hb); (try clear hb2); (try clear hk); (try clear hi); have hcz249_0 : w248.cell? ⟨gb133, 0, none⟩ = some (.int .i64 ((rd_T36 l0_0 a1_1).f0)) := (blk_cell BK133.out 0).trans rfl; have hcz249_1 : w248.cell? ⟨gb133, 1, none⟩ = some (.int .i64 ((rd_T36 l0_0 a1_1).f1)) := (blk_cell BK133.out 1).trans rfl; have hcz249_2 : w248.cell? ⟨gb133, 2, none⟩ = some (.int .i64 ((rd_T36 l0_0 a1_1).f2)) := (blk_cell BK133.out 2).trans rfl; have hfz249_0 := blk_frozen BK133.out 0; have hfz249_1 := blk_frozen BK133.out 1; have hfz249_2 := blk_frozen BK133.out 2; have hcz250_0 : w248.cell? ⟨gb137, 0, none⟩ = some (.int .i64 ((rd_T36 l0_0 a1_3).f0)) := (blk_cell BK137.out 0).trans rfl; have hcz250_1 : w248.cell? ⟨gb137, 1, none⟩ = some (.int .i64 ((rd_T36 l0_0 a1_3).f1)) := (blk_cell BK137.out 1).trans rfl; have hcz250_2 : w248.cell? ⟨gb137, 2, none⟩ = some (.int .i64 ((rd_T36 l0_0 a1_3).f2)) := (blk_cell BK137.out 2).trans rfl; have hfz250_0 := blk_frozen BK137.out 0; have hfz250_1 := blk_frozen BK137.out 1; have hfz250_2 := blk_frozen BK137.out 2))
                 go_ret
                 exact ⟨by first | rfl | (simp [errW_none, errW_some] <;> rfl) | (simp [*, errW_none, errW_some] <;> rfl), by repeat with_reducible first | exact HB.out | apply below_alloc | apply pw_below_drewN | apply below_drew1 | refine below_set ?_ GE128.out | refine below_set ?_ GE129.out | refine below_set ?_ GE132.out | refine below_set ?_ GE133.out | refine below_set ?_ GE137.out⟩
                ·rw [if_neg c230] at H
                 have c230b0 : (((rd_T36 l0_0 a1_1).f0) == ((rd_T36 l0_0 a1_3).f0)) = false := beq_eq_false_iff_ne.mpr c230
                 have c230b1 : (((rd_T36 l0_0 a1_1).f0) != ((rd_T36 l0_0 a1_3).f0)) = true := bne_iff_ne.mpr c230
                 obtain rfl := Option.some.inj H
                 have hnb251 := NB128_129.out
                 have hnc251 := NB129_128.out
                 have hnb252 := NB128_132.out
                 have hnc252 := NB132_128.out
                 have hnb253 := NB128_133.out
                 have hnc253 := NB133_128.out
                 have hcz254_0 : wc.cell? ⟨gb128, 0, none⟩ = some (.slice (some ad130) l0_0.length c0_0) := (blk_cell BK128.out 0).trans rfl
                 have hcz254_1 : wc.cell? ⟨gb128, 1, none⟩ = some (.slice A0_1 l0_1.length c0_1) := (blk_cell BK128.out 1).trans rfl
                 have hcz254_2 : wc.cell? ⟨gb128, 2, none⟩ = some (.int .i64 a0_2) := (blk_cell BK128.out 2).trans rfl
                 have hfz254_0 := blk_frozen BK128.out 0
                 have hfz254_1 := blk_frozen BK128.out 1
                 have hfz254_2 := blk_frozen BK128.out 2
                 have hnb255 := NB129_132.out
                 have hnc255 := NB132_129.out
                 have hnb256 := NB129_133.out
                 have hnc256 := NB133_129.out
                 have hcz257_0 : wc.cell? ⟨gb129, 0, none⟩ = some (.int .i64 a1_0) := (blk_cell BK129.out 0).trans rfl
                 have hcz257_1 : wc.cell? ⟨gb129, 1, none⟩ = some (.int .i64 a1_1) := (blk_cell BK129.out 1).trans rfl
                 have hcz257_2 : wc.cell? ⟨gb129, 2, none⟩ = some (.int .i64 a1_2) := (blk_cell BK129.out 2).trans rfl
                 have hcz257_3 : wc.cell? ⟨gb129, 3, none⟩ = some (.int .i64 a1_3) := (blk_cell BK129.out 3).trans rfl
                 have hfz257_0 := blk_frozen BK129.out 0
                 have hfz257_1 := blk_frozen BK129.out 1
                 have hfz257_2 := blk_frozen BK129.out 2
                 have hfz257_3 := blk_frozen BK129.out 3
                 have p136 : 0 ≤ (a1_3 : Int) := of_decide_eq_true (by first | (with_reducible assumption) | assumption)
                 have q136 : a1_3 < (l0_0.length : Int) := of_decide_eq_true (by first | (with_reducible assumption) | assumption)
                 obtain ⟨ad136, e136, hx136_0, hx136_1, hx136_2⟩ := at_T36 HR0_0.out a1_3 p136 q136
                 obtain rfl : ad130 = ad136 := (by injection e136)
                 replace hx136_0 := (HB.out.cell (World.block_lt_of_cell? w _ hx136_0)).trans hx136_0
                 replace hx136_1 := (HB.out.cell (World.block_lt_of_cell? w _ hx136_1)).trans hx136_1
                 replace hx136_2 := (HB.out.cell (World.block_lt_of_cell? w _ hx136_2)).trans hx136_2
                 replace p136 := eq_true p136
                 replace q136 := eq_true q136
                 go_wp2_with (first | ((with_reducible refine gate_dst (N := 7) rfl ?_); refine box_event ?hg (N := 7) ?hd (cs := #[.int .i64 0, .int .i64 0, .int .i64 0]) (t := 36) ?hr ?_; (case hd => rfl); (case hg => rfl); (case hr => first | (go_simp; done) | (go_simp; rfl)); intro gb137 hg w258 hbox hb; have n0_ := Aside0.mk (blk_below (g := gb128) (o := .cells #[.slice (some ad130) l0_0.length c0_0, .slice A0_1 l0_1.length c0_1, .int .i64 a0_2] 25 (0, 0)) (by (with_reducible repeat first | apply bn | apply bd | apply ba); exact BK128.out) hb); have n1_ := Aside0.mk (blk_below (g := gb129) (o := .cells #[.int .i64 a1_0, .int .i64 a1_1, .int .i64 a1_2, .int .i64 a1_3] 33 (0, 0)) (by (with_reducible repeat first | apply bn | apply bd | apply ba); exact BK129.out) hb); have n2_ := Aside0.mk (blk_below (g := gb132) (o := .cells #[.int .i64 ((rd_T36 l0_0 a1_0).f0), .int .i64 ((rd_T36 l0_0 a1_0).f1), .int .i64 ((rd_T36 l0_0 a1_0).f2)] 36 (0, 0)) (by (with_reducible repeat first | apply bn | apply bd | apply ba); exact BK132.out) hb); have n3_ := Aside0.mk (blk_below (g := gb133) (o := .cells #[.int .i64 ((rd_T36 l0_0 a1_1).f0), .int .i64 ((rd_T36 l0_0 a1_1).f1), .int .i64 ((rd_T36 l0_0 a1_1).f2)] 36 (0, 0)) (by (with_reducible repeat first | apply bn | apply bd | apply ba); exact BK133.out) hb); have n4_ := Aside0.mk (below_step (by repeat with_reducible first | exact HB.out | apply below_alloc | apply pw_below_drewN | apply below_drew1 | refine below_set ?_ GE128.out | refine below_set ?_ GE129.out | refine below_set ?_ GE132.out | refine below_set ?_ GE133.out) hb); have n5_ := Aside0.mk (hbox); have n6_ := Aside0.mk ((by rw [hg]; exact (below_size (by repeat with_reducible first | exact HB.out | apply below_alloc | apply pw_below_drewN | apply below_drew1 | refine below_set ?_ GE128.out | refine below_set ?_ GE129.out | refine below_set ?_ GE132.out | refine below_set ?_ GE133.out)) : w.heap.size ≤ gb137)); have n7_ := Aside0.mk ((by rw [hg]; exact (below_size (by repeat with_reducible first | exact HB.out | apply below_alloc | apply pw_below_drewN | apply below_drew1 | refine below_set ?_ GE128.out | refine below_set ?_ GE129.out | refine below_set ?_ GE132.out | refine below_set ?_ GE133.out)) : w.heap.size ≤ gb137)); have n8_ := Aside0.mk ((by rw [hg]; exact Nat.ne_of_lt (blk_lt (g := gb128) (o := .cells #[.slice (some ad130) l0_0.length c0_0, .slice A0_1 l0_1.length c0_1, .int .i64 a0_2] 25 (0, 0)) (by (with_reducible repeat first | apply bn | apply bd | apply ba); exact BK128.out)) : gb128 ≠ gb137)); have n9_ := Aside0.mk ((by rw [hg]; exact Nat.ne_of_gt (blk_lt (g := gb128) (o := .cells #[.slice (some ad130) l0_0.length c0_0, .slice A0_1 l0_1.length c0_1, .int .i64 a0_2] 25 (0, 0)) (by (with_reducible repeat first | apply bn | apply bd | apply ba); exact BK128.out)) : gb137 ≠ gb128)); have n10_ := Aside0.mk ((by rw [hg]; exact Nat.ne_of_lt (blk_lt (g := gb129) (o := .cells #[.int .i64 a1_0, .int .i64 a1_1, .int .i64 a1_2, .int .i64 a1_3] 33 (0, 0)) (by (with_reducible repeat first | apply bn | apply bd | apply ba); exact BK129.out)) : gb129 ≠ gb137)); have n11_ := Aside0.mk ((by rw [hg]; exact Nat.ne_of_gt (blk_lt (g := gb129) (o := .cells #[.int .i64 a1_0, .int .i64 a1_1, .int .i64 a1_2, .int .i64 a1_3] 33 (0, 0)) (by (with_reducible repeat first | apply bn | apply bd | apply ba); exact BK129.out)) : gb137 ≠ gb129)); have n12_ := Aside0.mk ((by rw [hg]; exact Nat.ne_of_lt (blk_lt (g := gb132) (o := .cells #[.int .i64 ((rd_T36 l0_0 a1_0).f0), .int .i64 ((rd_T36 l0_0 a1_0).f1), .int .i64 ((rd_T36 l0_0 a1_0).f2)] 36 (0, 0)) (by (with_reducible repeat first | apply bn | apply bd | apply ba); exact BK132.out)) : gb132 ≠ gb137)); have n13_ := Aside0.mk ((by rw [hg]; exact Nat.ne_of_gt (blk_lt (g := gb132) (o := .cells #[.int .i64 ((rd_T36 l0_0 a1_0).f0), .int .i64 ((rd_T36 l0_0 a1_0).f1), .int .i64 ((rd_T36 l0_0 a1_0).f2)] 36 (0, 0)) (by (with_reducible repeat first | apply bn | apply bd | apply ba); exact BK132.out)) : gb137 ≠ gb132)); have n14_ := Aside0.mk ((by rw [hg]; exact Nat.ne_of_lt (blk_lt (g := gb133) (o := .cells #[.int .i64 ((rd_T36 l0_0 a1_1).f0), .int .i64 ((rd_T36 l0_0 a1_1).f1), .int .i64 ((rd_T36 l0_0 a1_1).f2)] 36 (0, 0)) (by (with_reducible repeat first | apply bn | apply bd | apply ba); exact BK133.out)) : gb133 ≠ gb137)); have n15_ := Aside0.mk ((by rw [hg]; exact Nat.ne_of_gt (blk_lt (g := gb133) (o := .cells #[.int .i64 ((rd_T36 l0_0 a1_1).f0), .int .i64 ((rd_T36 l0_0 a1_1).f1), .int .i64 ((rd_T36 l0_0 a1_1).f2)] 36 (0, 0)) (by (with_reducible repeat first | apply bn | apply bd | apply ba); exact BK133.out)) : gb137 ≠ gb133)); clear BK128; clear BK129; clear BK132; clear BK133; clear HB; have BK128 := n0_; have BK129 := n1_; have BK132 := n2_; have BK133 := n3_; have HB := n4_; have BK137 := n5_; have GW137 := n6_; have GE137 := n7_; have NB128_137 := n8_; have NB137_128 := n9_; have NB129_137 := n10_; have NB137_129 := n11_; have NB132_137 := n12_; have NB137_132 := n13_; have NB133_137 := n14_; have NB137_133 := n15_; clear n0_ n1_ n2_ n3_ n4_ n5_ n6_ n7_ n8_ n9_ n10_ n11_ n12_ n13_ n14_ n15_; clear hb hbox hg; have hnb259 := NB137_128.out; have hnc259 := NB128_137.out; have hnb260 := NB137_129.out; have hnc260 := NB129_137.out; have hnb261 := NB137_132.out; have hnc261 := NB132_137.out; have hnb262 := NB137_133.out; have hnc262 := NB133_137.out; have hcz263_0 : w258.cell? ⟨gb137, 0, none⟩ = some (.int .i64 0) := (blk_cell BK137.out 0).trans rfl; have hcz263_1 : w258.cell? ⟨gb137, 1, none⟩ = some (.int .i64 0) := (blk_cell BK137.out 1).trans rfl; have hcz263_2 : w258.cell? ⟨gb137, 2, none⟩ = some (.int .i64 0) := (blk_cell BK137.out 2).trans rfl; have hfz263_0 := blk_frozen BK137.out 0; have hfz263_1 := blk_frozen BK137.out 1; have hfz263_2 := blk_frozen BK137.out 2; have hcz264_0 : w258.cell? ⟨gb129, 0, none⟩ = some (.int .i64 a1_0) := (blk_cell BK129.out 0).trans rfl; have hcz264_1 : w258.cell? ⟨gb129, 1, none⟩ = some (.int .i64 a1_1) := (blk_cell BK129.out 1).trans rfl; have hcz264_2 : w258.cell? ⟨gb129, 2, none⟩ = some (.int .i64 a1_2) := (blk_cell BK129.out 2).trans rfl; have hcz264_3 : w258.cell? ⟨gb129, 3, none⟩ = some (.int .i64 a1_3) := (blk_cell BK129.out 3).trans rfl; have hfz264_0 := blk_frozen BK129.out 0; have hfz264_1 := blk_frozen BK129.out 1; have hfz264_2 := blk_frozen BK129.out 2; have hfz264_3 := blk_frozen BK129.out 3; have hnb265 := NB132_133.out; have hnc265 := NB133_132.out; have hcz266_0 : w258.cell? ⟨gb132, 0, none⟩ = some (.int .i64 ((rd_T36 l0_0 a1_0).f0)) := (blk_cell BK132.out 0).trans rfl; have hcz266_1 : w258.cell? ⟨gb132, 1, none⟩ = some (.int .i64 ((rd_T36 l0_0 a1_0).f1)) := (blk_cell BK132.out 1).trans rfl; have hcz266_2 : w258.cell? ⟨gb132, 2, none⟩ = some (.int .i64 ((rd_T36 l0_0 a1_0).f2)) := (blk_cell BK132.out 2).trans rfl; have hfz266_0 := blk_frozen BK132.out 0; have hfz266_1 := blk_frozen BK132.out 1; have hfz266_2 := blk_frozen BK132.out 2; have hcz267_0 : w258.cell? ⟨gb128, 0, none⟩ = some (.slice (some ad130) l0_0.length c0_0) := (blk_cell BK128.out 0).trans rfl; have hcz267_1 : w258.cell? ⟨gb128, 1, none⟩ = some (.slice A0_1 l0_1.length c0_1) := (blk_cell BK128.out 1).trans rfl; have hcz267_2 : w258.cell? ⟨gb128, 2, none⟩ = some (.int .i64 a0_2) := (blk_cell BK128.out 2).trans rfl; have hfz267_0 := blk_frozen BK128.out 0; have hfz267_1 := blk_frozen BK128.out 1; have hfz267_2 := blk_frozen BK128.out 2) | (go_at_call 22; (with_reducible refine (dataflowref27_calls.calls kj6 _ _ l0_0 _ _ l0_1 a0_2 a1_3 ((rd_T36 l0_0 a1_0).f0) true _ ?side1 ?side2 ?side3 ?side4 A228.out).mono ?_); (case side1 => exact Kd.C_below HR0_0.out (by repeat with_reducible first | exact HB.out | apply below_alloc | apply pw_below_drewN | apply below_drew1 | refine below_set ?_ GE128.out | refine below_set ?_ GE129.out | refine below_set ?_ GE132.out | refine below_set ?_ GE133.out | refine below_set ?_ GE137.out)); (case side2 => exact HC0_0.out); (case side3 => exact Kd.C_below HR0_1.out (by repeat with_reducible first | exact HB.out | apply below_alloc | apply pw_below_drewN | apply below_drew1 | refine below_set ?_ GE128.out | refine below_set ?_ GE129.out | refine below_set ?_ GE132.out | refine below_set ?_ GE133.out | refine below_set ?_ GE137.out)); (case side4 => exact HC0_1.out); rintro e w268 ⟨rfl, hb⟩; have n0_ := Aside0.mk (blk_below (g := gb128) (o := .cells #[.slice (some ad130) l0_0.length c0_0, .slice A0_1 l0_1.length c0_1, .int .i64 a0_2] 25 (0, 0)) (by (with_reducible repeat first | apply bn | apply bd | apply ba); refine blk_far ?_ NB128_137.out _; refine blk_far ?_ NB128_137.out _; refine blk_far ?_ NB128_137.out _; (with_reducible repeat first | apply bn | apply bd | apply ba); exact BK128.out) hb); have n1_ := Aside0.mk (blk_below (g := gb129) (o := .cells #[.int .i64 a1_0, .int .i64 a1_1, .int .i64 a1_2, .int .i64 a1_3] 33 (0, 0)) (by (with_reducible repeat first | apply bn | apply bd | apply ba); refine blk_far ?_ NB129_137.out _; refine blk_far ?_ NB129_137.out _; refine blk_far ?_ NB129_137.out _; (with_reducible repeat first | apply bn | apply bd | apply ba); exact BK129.out) hb); have n2_ := Aside0.mk (blk_below (g := gb132) (o := .cells #[.int .i64 ((rd_T36 l0_0 a1_0).f0), .int .i64 ((rd_T36 l0_0 a1_0).f1), .int .i64 ((rd_T36 l0_0 a1_0).f2)] 36 (0, 0)) (by (with_reducible repeat first | apply bn | apply bd | apply ba); refine blk_far ?_ NB132_137.out _; refine blk_far ?_ NB132_137.out _; refine blk_far ?_ NB132_137.out _; (with_reducible repeat first | apply bn | apply bd | apply ba); exact BK132.out) hb); have n3_ := Aside0.mk (blk_below (g := gb133) (o := .cells #[.int .i64 ((rd_T36 l0_0 a1_1).f0), .int .i64 ((rd_T36 l0_0 a1_1).f1), .int .i64 ((rd_T36 l0_0 a1_1).f2)] 36 (0, 0)) (by (with_reducible repeat first | apply bn | apply bd | apply ba); refine blk_far ?_ NB133_137.out _; refine blk_far ?_ NB133_137.out _; refine blk_far ?_ NB133_137.out _; (with_reducible repeat first | apply bn | apply bd | apply ba); exact BK133.out) hb); have n4_ := Aside0.mk (blk_below (g := gb137) (o := .cells #[.int .i64 ((rd_T36 l0_0 a1_3).f0), .int .i64 ((rd_T36 l0_0 a1_3).f1), .int .i64 ((rd_T36 l0_0 a1_3).f2)] 36 (0, 0)) (by (with_reducible repeat first | apply bn | apply bd | apply ba); refine blk_put (cs := #[.int .i64 ((rd_T36 l0_0 a1_3).f0), .int .i64 ((rd_T36 l0_0 a1_3).f1), .int .i64 0]) ?_ 2 _ rfl; refine blk_put (cs := #[.int .i64 ((rd_T36 l0_0 a1_3).f0), .int .i64 0, .int .i64 0]) ?_ 1 _ rfl; refine blk_put (cs := #[.int .i64 0, .int .i64 0, .int .i64 0]) ?_ 0 _ rfl; (with_reducible repeat first | apply bn | apply bd | apply ba); exact BK137.out) hb); have n5_ := Aside0.mk (below_step (by repeat with_reducible first | exact HB.out | apply below_alloc | apply pw_below_drewN | apply below_drew1 | refine below_set ?_ GE128.out | refine below_set ?_ GE129.out | refine below_set ?_ GE132.out | refine below_set ?_ GE133.out | refine below_set ?_ GE137.out) hb); clear BK128; clear BK129; clear BK132; clear BK133; clear BK137; clear HB; have BK128 := n0_; have BK129 := n1_; have BK132 := n2_; have BK133 := n3_; have BK137 := n4_; have HB := n5_; clear n0_ n1_ n2_ n3_ n4_ n5_; (try clear hb); (try clear hb2); (try clear hk); (try clear hi); have hcz269_0 : w268.cell? ⟨gb133, 0, none⟩ = some (.int .i64 ((rd_T36 l0_0 a1_1).f0)) := (blk_cell BK133.out 0).trans rfl; have hcz269_1 : w268.cell? ⟨gb133, 1, none⟩ = some (.int .i64 ((rd_T36 l0_0 a1_1).f1)) := (blk_cell BK133.out 1).trans rfl; have hcz269_2 : w268.cell? ⟨gb133, 2, none⟩ = some (.int .i64 ((rd_T36 l0_0 a1_1).f2)) := (blk_cell BK133.out 2).trans rfl; have hfz269_0 := blk_frozen BK133.out 0; have hfz269_1 := blk_frozen BK133.out 1; have hfz269_2 := blk_frozen BK133.out 2; have hcz270_0 : w268.cell? ⟨gb137, 0, none⟩ = some (.int .i64 ((rd_T36 l0_0 a1_3).f0)) := (blk_cell BK137.out 0).trans rfl; have hcz270_1 : w268.cell? ⟨gb137, 1, none⟩ = some (.int .i64 ((rd_T36 l0_0 a1_3).f1)) := (blk_cell BK137.out 1).trans rfl; have hcz270_2 : w268.cell? ⟨gb137, 2, none⟩ = some (.int .i64 ((rd_T36 l0_0 a1_3).f2)) := (blk_cell BK137.out 2).trans rfl; have hfz270_0 := blk_frozen BK137.out 0; have hfz270_1 := blk_frozen BK137.out 1; have hfz270_2 := blk_frozen BK137.out 2))
                 go_ret
                 exact ⟨by first | rfl | (simp [errW_none, errW_some] <;> rfl) | (simp [*, errW_none, errW_some] <;> rfl), by repeat with_reducible first | exact HB.out | apply below_alloc | apply pw_below_drewN | apply below_drew1 | refine below_set ?_ GE128.out | refine below_set ?_ GE129.out | refine below_set ?_ GE132.out | refine below_set ?_ GE133.out | refine below_set ?_ GE137.out⟩
               ·replace c229 := Bool.eq_false_iff.mpr c229
                subst c229
                have H1 : (some false) = some r := by rw [if_neg (show ¬ (false = true) by decide)] at H; exact H
                clear H
                have H := H1
                clear H1
                obtain rfl := Option.some.inj H
                have hnb271 := NB128_129.out
                have hnc271 := NB129_128.out
                have hnb272 := NB128_132.out
                have hnc272 := NB132_128.out
                have hnb273 := NB128_133.out
                have hnc273 := NB133_128.out
                have hcz274_0 : wc.cell? ⟨gb128, 0, none⟩ = some (.slice (some ad130) l0_0.length c0_0) := (blk_cell BK128.out 0).trans rfl
                have hcz274_1 : wc.cell? ⟨gb128, 1, none⟩ = some (.slice A0_1 l0_1.length c0_1) := (blk_cell BK128.out 1).trans rfl
                have hcz274_2 : wc.cell? ⟨gb128, 2, none⟩ = some (.int .i64 a0_2) := (blk_cell BK128.out 2).trans rfl
                have hfz274_0 := blk_frozen BK128.out 0
                have hfz274_1 := blk_frozen BK128.out 1
                have hfz274_2 := blk_frozen BK128.out 2
                have hnb275 := NB129_132.out
                have hnc275 := NB132_129.out
                have hnb276 := NB129_133.out
                have hnc276 := NB133_129.out
                have hcz277_0 : wc.cell? ⟨gb129, 0, none⟩ = some (.int .i64 a1_0) := (blk_cell BK129.out 0).trans rfl
                have hcz277_1 : wc.cell? ⟨gb129, 1, none⟩ = some (.int .i64 a1_1) := (blk_cell BK129.out 1).trans rfl
                have hcz277_2 : wc.cell? ⟨gb129, 2, none⟩ = some (.int .i64 a1_2) := (blk_cell BK129.out 2).trans rfl
                have hcz277_3 : wc.cell? ⟨gb129, 3, none⟩ = some (.int .i64 a1_3) := (blk_cell BK129.out 3).trans rfl
                have hfz277_0 := blk_frozen BK129.out 0
                have hfz277_1 := blk_frozen BK129.out 1
                have hfz277_2 := blk_frozen BK129.out 2
                have hfz277_3 := blk_frozen BK129.out 3
                have p136 : 0 ≤ (a1_3 : Int) := of_decide_eq_true (by first | (with_reducible assumption) | assumption)
                have q136 : a1_3 < (l0_0.length : Int) := of_decide_eq_true (by first | (with_reducible assumption) | assumption)
                obtain ⟨ad136, e136, hx136_0, hx136_1, hx136_2⟩ := at_T36 HR0_0.out a1_3 p136 q136
                obtain rfl : ad130 = ad136 := (by injection e136)
                replace hx136_0 := (HB.out.cell (World.block_lt_of_cell? w _ hx136_0)).trans hx136_0
                replace hx136_1 := (HB.out.cell (World.block_lt_of_cell? w _ hx136_1)).trans hx136_1
                replace hx136_2 := (HB.out.cell (World.block_lt_of_cell? w _ hx136_2)).trans hx136_2
                replace p136 := eq_true p136
                replace q136 := eq_true q136
                go_wp2_with (first | ((with_reducible refine gate_dst (N := 7) rfl ?_); refine box_event ?hg (N := 7) ?hd (cs := #[.int .i64 0, .int .i64 0, .int .i64 0]) (t := 36) ?hr ?_; (case hd => rfl); (case hg => rfl); (case hr => first | (go_simp; done) | (go_simp; rfl)); intro gb137 hg w278 hbox hb; have n0_ := Aside0.mk (blk_below (g := gb128) (o := .cells #[.slice (some ad130) l0_0.length c0_0, .slice A0_1 l0_1.length c0_1, .int .i64 a0_2] 25 (0, 0)) (by (with_reducible repeat first | apply bn | apply bd | apply ba); exact BK128.out) hb); have n1_ := Aside0.mk (blk_below (g := gb129) (o := .cells #[.int .i64 a1_0, .int .i64 a1_1, .int .i64 a1_2, .int .i64 a1_3] 33 (0, 0)) (by (with_reducible repeat first | apply bn | apply bd | apply ba); exact BK129.out) hb); have n2_ := Aside0.mk (blk_below (g := gb132) (o := .cells #[.int .i64 ((rd_T36 l0_0 a1_0).f0), .int .i64 ((rd_T36 l0_0 a1_0).f1), .int .i64 ((rd_T36 l0_0 a1_0).f2)] 36 (0, 0)) (by (with_reducible repeat first | apply bn | apply bd | apply ba); exact BK132.out) hb); have n3_ := Aside0.mk (blk_below (g := gb133) (o := .cells #[.int .i64 ((rd_T36 l0_0 a1_1).f0), .int .i64 ((rd_T36 l0_0 a1_1).f1), .int .i64 ((rd_T36 l0_0 a1_1).f2)] 36 (0, 0)) (by (with_reducible repeat first | apply bn | apply bd | apply ba); exact BK133.out) hb); have n4_ := Aside0.mk (below_step (by repeat with_reducible first | exact HB.out | apply below_alloc | apply pw_below_drewN | apply below_drew1 | refine below_set ?_ GE128.out | refine below_set ?_ GE129.out | refine below_set ?_ GE132.out | refine below_set ?_ GE133.out) hb); have n5_ := Aside0.mk (hbox); have n6_ := Aside0.mk ((by rw [hg]; exact (below_size (by repeat with_reducible first | exact HB.out | apply below_alloc | apply pw_below_drewN | apply below_drew1 | refine below_set ?_ GE128.out | refine below_set ?_ GE129.out | refine below_set ?_ GE132.out | refine below_set ?_ GE133.out)) : w.heap.size ≤ gb137)); have n7_ := Aside0.mk ((by rw [hg]; exact (below_size (by repeat with_reducible first | exact HB.out | apply below_alloc | apply pw_below_drewN | apply below_drew1 | refine below_set ?_ GE128.out | refine below_set ?_ GE129.out | refine below_set ?_ GE132.out | refine below_set ?_ GE133.out)) : w.heap.size ≤ gb137)); have n8_ := Aside0.mk ((by rw [hg]; exact Nat.ne_of_lt (blk_lt (g := gb128) (o := .cells #[.slice (some ad130) l0_0.length c0_0, .slice A0_1 l0_1.length c0_1, .int .i64 a0_2] 25 (0, 0)) (by (with_reducible repeat first | apply bn | apply bd | apply ba); exact BK128.out)) : gb128 ≠ gb137)); have n9_ := Aside0.mk ((by rw [hg]; exact Nat.ne_of_gt (blk_lt (g := gb128) (o := .cells #[.slice (some ad130) l0_0.length c0_0, .slice A0_1 l0_1.length c0_1, .int .i64 a0_2] 25 (0, 0)) (by (with_reducible repeat first | apply bn | apply bd | apply ba); exact BK128.out)) : gb137 ≠ gb128)); have n10_ := Aside0.mk ((by rw [hg]; exact Nat.ne_of_lt (blk_lt (g := gb129) (o := .cells #[.int .i64 a1_0, .int .i64 a1_1, .int .i64 a1_2, .int .i64 a1_3] 33 (0, 0)) (by (with_reducible repeat first | apply bn | apply bd | apply ba); exact BK129.out)) : gb129 ≠ gb137)); have n11_ := Aside0.mk ((by rw [hg]; exact Nat.ne_of_gt (blk_lt (g := gb129) (o := .cells #[.int .i64 a1_0, .int .i64 a1_1, .int .i64 a1_2, .int .i64 a1_3] 33 (0, 0)) (by (with_reducible repeat first | apply bn | apply bd | apply ba); exact BK129.out)) : gb137 ≠ gb129)); have n12_ := Aside0.mk ((by rw [hg]; exact Nat.ne_of_lt (blk_lt (g := gb132) (o := .cells #[.int .i64 ((rd_T36 l0_0 a1_0).f0), .int .i64 ((rd_T36 l0_0 a1_0).f1), .int .i64 ((rd_T36 l0_0 a1_0).f2)] 36 (0, 0)) (by (with_reducible repeat first | apply bn | apply bd | apply ba); exact BK132.out)) : gb132 ≠ gb137)); have n13_ := Aside0.mk ((by rw [hg]; exact Nat.ne_of_gt (blk_lt (g := gb132) (o := .cells #[.int .i64 ((rd_T36 l0_0 a1_0).f0), .int .i64 ((rd_T36 l0_0 a1_0).f1), .int .i64 ((rd_T36 l0_0 a1_0).f2)] 36 (0, 0)) (by (with_reducible repeat first | apply bn | apply bd | apply ba); exact BK132.out)) : gb137 ≠ gb132)); have n14_ := Aside0.mk ((by rw [hg]; exact Nat.ne_of_lt (blk_lt (g := gb133) (o := .cells #[.int .i64 ((rd_T36 l0_0 a1_1).f0), .int .i64 ((rd_T36 l0_0 a1_1).f1), .int .i64 ((rd_T36 l0_0 a1_1).f2)] 36 (0, 0)) (by (with_reducible repeat first | apply bn | apply bd | apply ba); exact BK133.out)) : gb133 ≠ gb137)); have n15_ := Aside0.mk ((by rw [hg]; exact Nat.ne_of_gt (blk_lt (g := gb133) (o := .cells #[.int .i64 ((rd_T36 l0_0 a1_1).f0), .int .i64 ((rd_T36 l0_0 a1_1).f1), .int .i64 ((rd_T36 l0_0 a1_1).f2)] 36 (0, 0)) (by (with_reducible repeat first | apply bn | apply bd | apply ba); exact BK133.out)) : gb137 ≠ gb133)); clear BK128; clear BK129; clear BK132; clear BK133; clear HB; have BK128 := n0_; have BK129 := n1_; have BK132 := n2_; have BK133 := n3_; have HB := n4_; have BK137 := n5_; have GW137 := n6_; have GE137 := n7_; have NB128_137 := n8_; have NB137_128 := n9_; have NB129_137 := n10_; have NB137_129 := n11_; have NB132_137 := n12_; have NB137_132 := n13_; have NB133_137 := n14_; have NB137_133 := n15_; clear n0_ n1_ n2_ n3_ n4_ n5_ n6_ n7_ n8_ n9_ n10_ n11_ n12_ n13_ n14_ n15_; clear hb hbox hg; have hnb279 := NB137_128.out; have hnc279 := NB128_137.out; have hnb280 := NB137_129.out; have hnc280 := NB129_137.out; have hnb281 := NB137_132.out; have hnc281 := NB132_137.out; have hnb282 := NB137_133.out; have hnc282 := NB133_137.out; have hcz283_0 : w278.cell? ⟨gb137, 0, none⟩ = some (.int .i64 0) := (blk_cell BK137.out 0).trans rfl; have hcz283_1 : w278.cell? ⟨gb137, 1, none⟩ = some (.int .i64 0) := (blk_cell BK137.out 1).trans rfl; have hcz283_2 : w278.cell? ⟨gb137, 2, none⟩ = some (.int .i64 0) := (blk_cell BK137.out 2).trans rfl; have hfz283_0 := blk_frozen BK137.out 0; have hfz283_1 := blk_frozen BK137.out 1; have hfz283_2 := blk_frozen BK137.out 2; have hcz284_0 : w278.cell? ⟨gb129, 0, none⟩ = some (.int .i64 a1_0) := (blk_cell BK129.out 0).trans rfl; have hcz284_1 : w278.cell? ⟨gb129, 1, none⟩ = some (.int .i64 a1_1) := (blk_cell BK129.out 1).trans rfl; have hcz284_2 : w278.cell? ⟨gb129, 2, none⟩ = some (.int .i64 a1_2) := (blk_cell BK129.out 2).trans rfl; have hcz284_3 : w278.cell? ⟨gb129, 3, none⟩ = some (.int .i64 a1_3) := (blk_cell BK129.out 3).trans rfl; have hfz284_0 := blk_frozen BK129.out 0; have hfz284_1 := blk_frozen BK129.out 1; have hfz284_2 := blk_frozen BK129.out 2; have hfz284_3 := blk_frozen BK129.out 3; have hnb285 := NB132_133.out; have hnc285 := NB133_132.out; have hcz286_0 : w278.cell? ⟨gb132, 0, none⟩ = some (.int .i64 ((rd_T36 l0_0 a1_0).f0)) := (blk_cell BK132.out 0).trans rfl; have hcz286_1 : w278.cell? ⟨gb132, 1, none⟩ = some (.int .i64 ((rd_T36 l0_0 a1_0).f1)) := (blk_cell BK132.out 1).trans rfl; have hcz286_2 : w278.cell? ⟨gb132, 2, none⟩ = some (.int .i64 ((rd_T36 l0_0 a1_0).f2)) := (blk_cell BK132.out 2).trans rfl; have hfz286_0 := blk_frozen BK132.out 0; have hfz286_1 := blk_frozen BK132.out 1; have hfz286_2 := blk_frozen BK132.out 2; have hcz287_0 : w278.cell? ⟨gb128, 0, none⟩ = some (.slice (some ad130) l0_0.length c0_0) := (blk_cell BK128.out 0).trans rfl; have hcz287_1 : w278.cell? ⟨gb128, 1, none⟩ = some (.slice A0_1 l0_1.length c0_1) := (blk_cell BK128.out 1).trans rfl; have hcz287_2 : w278.cell? ⟨gb128, 2, none⟩ = some (.int .i64 a0_2) := (blk_cell BK128.out 2).trans rfl; have hfz287_0 := blk_frozen BK128.out 0; have hfz287_1 := blk_frozen BK128.out 1; have hfz287_2 := blk_frozen BK128.out 2) | (go_at_call 22; (with_reducible refine (dataflowref27_calls.calls kj6 _ _ l0_0 _ _ l0_1 a0_2 a1_3 ((rd_T36 l0_0 a1_0).f0) false _ ?side1 ?side2 ?side3 ?side4 A228.out).mono ?_); (case side1 => exact Kd.C_below HR0_0.out (by repeat with_reducible first | exact HB.out | apply below_alloc | apply pw_below_drewN | apply below_drew1 | refine below_set ?_ GE128.out | refine below_set ?_ GE129.out | refine below_set ?_ GE132.out | refine below_set ?_ GE133.out | refine below_set ?_ GE137.out)); (case side2 => exact HC0_0.out); (case side3 => exact Kd.C_below HR0_1.out (by repeat with_reducible first | exact HB.out | apply below_alloc | apply pw_below_drewN | apply below_drew1 | refine below_set ?_ GE128.out | refine below_set ?_ GE129.out | refine below_set ?_ GE132.out | refine below_set ?_ GE133.out | refine below_set ?_ GE137.out)); (case side4 => exact HC0_1.out); rintro e w288 ⟨rfl, hb⟩; have n0_ := Aside0.mk (blk_below (g := gb128) (o := .cells #[.slice (some ad130) l0_0.length c0_0, .slice A0_1 l0_1.length c0_1, .int .i64 a0_2] 25 (0, 0)) (by (with_reducible repeat first | apply bn | apply bd | apply ba); refine blk_far ?_ NB128_137.out _; refine blk_far ?_ NB128_137.out _; refine blk_far ?_ NB128_137.out _; (with_reducible repeat first | apply bn | apply bd | apply ba); exact BK128.out) hb); have n1_ := Aside0.mk (blk_below (g := gb129) (o := .cells #[.int .i64 a1_0, .int .i64 a1_1, .int .i64 a1_2, .int .i64 a1_3] 33 (0, 0)) (by (with_reducible repeat first | apply bn | apply bd | apply ba); refine blk_far ?_ NB129_137.out _; refine blk_far ?_ NB129_137.out _; refine blk_far ?_ NB129_137.out _; (with_reducible repeat first | apply bn | apply bd | apply ba); exact BK129.out) hb); have n2_ := Aside0.mk (blk_below (g := gb132) (o := .cells #[.int .i64 ((rd_T36 l0_0 a1_0).f0), .int .i64 ((rd_T36 l0_0 a1_0).f1), .int .i64 ((rd_T36 l0_0 a1_0).f2)] 36 (0, 0)) (by (with_reducible repeat first | apply bn | apply bd | apply ba); refine blk_far ?_ NB132_137.out _; refine blk_far ?_ NB132_137.out _; refine blk_far ?_ NB132_137.out _; (with_reducible repeat first | apply bn | apply bd | apply ba); exact BK132.out) hb); have n3_ := Aside0.mk (blk_below (g := gb133) (o := .cells #[.int .i64 ((rd_T36 l0_0 a1_1).f0), .int .i64 ((rd_T36 l0_0 a1_1).f1), .int .i64 ((rd_T36 l0_0 a1_1).f2)] 36 (0, 0)) (by (with_reducible repeat first | apply bn | apply bd | apply ba); refine blk_far ?_ NB133_137.out _; refine blk_far ?_ NB133_137.out _; refine blk_far ?_ NB133_137.out _; (with_reducible repeat first | apply bn | apply bd | apply ba); exact BK133.out) hb); have n4_ := Aside0.mk (blk_below (g := gb137) (o := .cells #[.int .i64 ((rd_T36 l0_0 a1_3).f0), .int .i64 ((rd_T36 l0_0 a1_3).f1), .int .i64 ((rd_T36 l0_0 a1_3).f2)] 36 (0, 0)) (by (with_reducible repeat first | apply bn | apply bd | apply ba); refine blk_put (cs := #[.int .i64 ((rd_T36 l0_0 a1_3).f0), .int .i64 ((rd_T36 l0_0 a1_3).f1), .int .i64 0]) ?_ 2 _ rfl; refine blk_put (cs := #[.int .i64 ((rd_T36 l0_0 a1_3).f0), .int .i64 0, .int .i64 0]) ?_ 1 _ rfl; refine blk_put (cs := #[.int .i64 0, .int .i64 0, .int .i64 0]) ?_ 0 _ rfl; (with_reducible repeat first | apply bn | apply bd | apply ba); exact BK137.out) hb); have n5_ := Aside0.mk (below_step (by repeat with_reducible first | exact HB.out | apply below_alloc | apply pw_below_drewN | apply below_drew1 | refine below_set ?_ GE128.out | refine below_set ?_ GE129.out | refine below_set ?_ GE132.out | refine below_set ?_ GE133.out | refine below_set ?_ GE137.out) hb); clear BK128; clear BK129; clear BK132; clear BK133; clear BK137; clear HB; have BK128 := n0_; have BK129 := n1_; have BK132 := n2_; have BK133 := n3_; have BK137 := n4_; have HB := n5_; clear n0_ n1_ n2_ n3_ n4_ n5_; (try clear hb); (try clear hb2); (try clear hk); (try clear hi)))
                go_ret
                exact ⟨by first | rfl | (simp [errW_none, errW_some] <;> rfl) | (simp [*, errW_none, errW_some] <;> rfl), by repeat with_reducible first | exact HB.out | apply below_alloc | apply pw_below_drewN | apply below_drew1 | refine below_set ?_ GE128.out | refine below_set ?_ GE129.out | refine below_set ?_ GE132.out | refine below_set ?_ GE133.out | refine below_set ?_ GE137.out⟩
              ·rw [if_neg c227] at H
               have c227b0 : (((rd_T36 l0_0 a1_3).f1) == 2) = false := beq_eq_false_iff_ne.mpr c227
               have c227b1 : (((rd_T36 l0_0 a1_3).f1) != 2) = true := bne_iff_ne.mpr c227
               obtain rfl := Option.some.inj H
               have hnb289 := NB128_129.out
               have hnc289 := NB129_128.out
               have hnb290 := NB128_132.out
               have hnc290 := NB132_128.out
               have hnb291 := NB128_133.out
               have hnc291 := NB133_128.out
               have hcz292_0 : wc.cell? ⟨gb128, 0, none⟩ = some (.slice (some ad130) l0_0.length c0_0) := (blk_cell BK128.out 0).trans rfl
               have hcz292_1 : wc.cell? ⟨gb128, 1, none⟩ = some (.slice A0_1 l0_1.length c0_1) := (blk_cell BK128.out 1).trans rfl
               have hcz292_2 : wc.cell? ⟨gb128, 2, none⟩ = some (.int .i64 a0_2) := (blk_cell BK128.out 2).trans rfl
               have hfz292_0 := blk_frozen BK128.out 0
               have hfz292_1 := blk_frozen BK128.out 1
               have hfz292_2 := blk_frozen BK128.out 2
               have hnb293 := NB129_132.out
               have hnc293 := NB132_129.out
               have hnb294 := NB129_133.out
               have hnc294 := NB133_129.out
               have hcz295_0 : wc.cell? ⟨gb129, 0, none⟩ = some (.int .i64 a1_0) := (blk_cell BK129.out 0).trans rfl
               have hcz295_1 : wc.cell? ⟨gb129, 1, none⟩ = some (.int .i64 a1_1) := (blk_cell BK129.out 1).trans rfl
               have hcz295_2 : wc.cell? ⟨gb129, 2, none⟩ = some (.int .i64 a1_2) := (blk_cell BK129.out 2).trans rfl
               have hcz295_3 : wc.cell? ⟨gb129, 3, none⟩ = some (.int .i64 a1_3) := (blk_cell BK129.out 3).trans rfl
               have hfz295_0 := blk_frozen BK129.out 0
               have hfz295_1 := blk_frozen BK129.out 1
               have hfz295_2 := blk_frozen BK129.out 2
               have hfz295_3 := blk_frozen BK129.out 3
               have p136 : 0 ≤ (a1_3 : Int) := of_decide_eq_true (by first | (with_reducible assumption) | assumption)
               have q136 : a1_3 < (l0_0.length : Int) := of_decide_eq_true (by first | (with_reducible assumption) | assumption)
               obtain ⟨ad136, e136, hx136_0, hx136_1, hx136_2⟩ := at_T36 HR0_0.out a1_3 p136 q136
               obtain rfl : ad130 = ad136 := (by injection e136)
               replace hx136_0 := (HB.out.cell (World.block_lt_of_cell? w _ hx136_0)).trans hx136_0
               replace hx136_1 := (HB.out.cell (World.block_lt_of_cell? w _ hx136_1)).trans hx136_1
               replace hx136_2 := (HB.out.cell (World.block_lt_of_cell? w _ hx136_2)).trans hx136_2
               replace p136 := eq_true p136
               replace q136 := eq_true q136
               go_wp2_with (first | ((with_reducible refine gate_dst (N := 7) rfl ?_); refine box_event ?hg (N := 7) ?hd (cs := #[.int .i64 0, .int .i64 0, .int .i64 0]) (t := 36) ?hr ?_; (case hd => rfl); (case hg => rfl); (case hr => first | (go_simp; done) | (go_simp; rfl)); intro gb137 hg w296 hbox hb; have n0_ := Aside0.mk (blk_below (g := gb128) (o := .cells #[.slice (some ad130) l0_0.length c0_0, .slice A0_1 l0_1.length c0_1, .int .i64 a0_2] 25 (0, 0)) (by (with_reducible repeat first | apply bn | apply bd | apply ba); exact BK128.out) hb); have n1_ := Aside0.mk (blk_below (g := gb129) (o := .cells #[.int .i64 a1_0, .int .i64 a1_1, .int .i64 a1_2, .int .i64 a1_3] 33 (0, 0)) (by (with_reducible repeat first | apply bn | apply bd | apply ba); exact BK129.out) hb); have n2_ := Aside0.mk (blk_below (g := gb132) (o := .cells #[.int .i64 ((rd_T36 l0_0 a1_0).f0), .int .i64 ((rd_T36 l0_0 a1_0).f1), .int .i64 ((rd_T36 l0_0 a1_0).f2)] 36 (0, 0)) (by (with_reducible repeat first | apply bn | apply bd | apply ba); exact BK132.out) hb); have n3_ := Aside0.mk (blk_below (g := gb133) (o := .cells #[.int .i64 ((rd_T36 l0_0 a1_1).f0), .int .i64 ((rd_T36 l0_0 a1_1).f1), .int .i64 ((rd_T36 l0_0 a1_1).f2)] 36 (0, 0)) (by (with_reducible repeat first | apply bn | apply bd | apply ba); exact BK133.out) hb); have n4_ := Aside0.mk (below_step (by repeat with_reducible first | exact HB.out | apply below_alloc | apply pw_below_drewN | apply below_drew1 | refine below_set ?_ GE128.out | refine below_set ?_ GE129.out | refine below_set ?_ GE132.out | refine below_set ?_ GE133.out) hb); have n5_ := Aside0.mk (hbox); have n6_ := Aside0.mk ((by rw [hg]; exact (below_size (by repeat with_reducible first | exact HB.out | apply below_alloc | apply pw_below_drewN | apply below_drew1 | refine below_set ?_ GE128.out | refine below_set ?_ GE129.out | refine below_set ?_ GE132.out | refine below_set ?_ GE133.out)) : w.heap.size ≤ gb137)); have n7_ := Aside0.mk ((by rw [hg]; exact (below_size (by repeat with_reducible first | exact HB.out | apply below_alloc | apply pw_below_drewN | apply below_drew1 | refine below_set ?_ GE128.out | refine below_set ?_ GE129.out | refine below_set ?_ GE132.out | refine below_set ?_ GE133.out)) : w.heap.size ≤ gb137)); have n8_ := Aside0.mk ((by rw [hg]; exact Nat.ne_of_lt (blk_lt (g := gb128) (o := .cells #[.slice (some ad130) l0_0.length c0_0, .slice A0_1 l0_1.length c0_1, .int .i64 a0_2] 25 (0, 0)) (by (with_reducible repeat first | apply bn | apply bd | apply ba); exact BK128.out)) : gb128 ≠ gb137)); have n9_ := Aside0.mk ((by rw [hg]; exact Nat.ne_of_gt (blk_lt (g := gb128) (o := .cells #[.slice (some ad130) l0_0.length c0_0, .slice A0_1 l0_1.length c0_1, .int .i64 a0_2] 25 (0, 0)) (by (with_reducible repeat first | apply bn | apply bd | apply ba); exact BK128.out)) : gb137 ≠ gb128)); have n10_ := Aside0.mk ((by rw [hg]; exact Nat.ne_of_lt (blk_lt (g := gb129) (o := .cells #[.int .i64 a1_0, .int .i64 a1_1, .int .i64 a1_2, .int .i64 a1_3] 33 (0, 0)) (by (with_reducible repeat first | apply bn | apply bd | apply ba); exact BK129.out)) : gb129 ≠ gb137)); have n11_ := Aside0.mk ((by rw [hg]; exact Nat.ne_of_gt (blk_lt (g := gb129) (o := .cells #[.int .i64 a1_0, .int .i64 a1_1, .int .i64 a1_2, .int .i64 a1_3] 33 (0, 0)) (by (with_reducible repeat first | apply bn | apply bd | apply ba); exact BK129.out)) : gb137 ≠ gb129)); have n12_ := Aside0.mk ((by rw [hg]; exact Nat.ne_of_lt (blk_lt (g := gb132) (o := .cells #[.int .i64 ((rd_T36 l0_0 a1_0).f0), .int .i64 ((rd_T36 l0_0 a1_0).f1), .int .i64 ((rd_T36 l0_0 a1_0).f2)] 36 (0, 0)) (by (with_reducible repeat first | apply bn | apply bd | apply ba); exact BK132.out)) : gb132 ≠ gb137)); have n13_ := Aside0.mk ((by rw [hg]; exact Nat.ne_of_gt (blk_lt (g := gb132) (o := .cells #[.int .i64 ((rd_T36 l0_0 a1_0).f0), .int .i64 ((rd_T36 l0_0 a1_0).f1), .int .i64 ((rd_T36 l0_0 a1_0).f2)] 36 (0, 0)) (by (with_reducible repeat first | apply bn | apply bd | apply ba); exact BK132.out)) : gb137 ≠ gb132)); have n14_ := Aside0.mk ((by rw [hg]; exact Nat.ne_of_lt (blk_lt (g := gb133) (o := .cells #[.int .i64 ((rd_T36 l0_0 a1_1).f0), .int .i64 ((rd_T36 l0_0 a1_1).f1), .int .i64 ((rd_T36 l0_0 a1_1).f2)] 36 (0, 0)) (by (with_reducible repeat first | apply bn | apply bd | apply ba); exact BK133.out)) : gb133 ≠ gb137)); have n15_ := Aside0.mk ((by rw [hg]; exact Nat.ne_of_gt (blk_lt (g := gb133) (o := .cells #[.int .i64 ((rd_T36 l0_0 a1_1).f0), .int .i64 ((rd_T36 l0_0 a1_1).f1), .int .i64 ((rd_T36 l0_0 a1_1).f2)] 36 (0, 0)) (by (with_reducible repeat first | apply bn | apply bd | apply ba); exact BK133.out)) : gb137 ≠ gb133)); clear BK128; clear BK129; clear BK132; clear BK133; clear HB; have BK128 := n0_; have BK129 := n1_; have BK132 := n2_; have BK133 := n3_; have HB := n4_; have BK137 := n5_; have GW137 := n6_; have GE137 := n7_; have NB128_137 := n8_; have NB137_128 := n9_; have NB129_137 := n10_; have NB137_129 := n11_; have NB132_137 := n12_; have NB137_132 := n13_; have NB133_137 := n14_; have NB137_133 := n15_; clear n0_ n1_ n2_ n3_ n4_ n5_ n6_ n7_ n8_ n9_ n10_ n11_ n12_ n13_ n14_ n15_; clear hb hbox hg; have hnb297 := NB137_128.out; have hnc297 := NB128_137.out; have hnb298 := NB137_129.out; have hnc298 := NB129_137.out; have hnb299 := NB137_132.out; have hnc299 := NB132_137.out; have hnb300 := NB137_133.out; have hnc300 := NB133_137.out; have hcz301_0 : w296.cell? ⟨gb137, 0, none⟩ = some (.int .i64 0) := (blk_cell BK137.out 0).trans rfl; have hcz301_1 : w296.cell? ⟨gb137, 1, none⟩ = some (.int .i64 0) := (blk_cell BK137.out 1).trans rfl; have hcz301_2 : w296.cell? ⟨gb137, 2, none⟩ = some (.int .i64 0) := (blk_cell BK137.out 2).trans rfl; have hfz301_0 := blk_frozen BK137.out 0; have hfz301_1 := blk_frozen BK137.out 1; have hfz301_2 := blk_frozen BK137.out 2; have hcz302_0 : w296.cell? ⟨gb129, 0, none⟩ = some (.int .i64 a1_0) := (blk_cell BK129.out 0).trans rfl; have hcz302_1 : w296.cell? ⟨gb129, 1, none⟩ = some (.int .i64 a1_1) := (blk_cell BK129.out 1).trans rfl; have hcz302_2 : w296.cell? ⟨gb129, 2, none⟩ = some (.int .i64 a1_2) := (blk_cell BK129.out 2).trans rfl; have hcz302_3 : w296.cell? ⟨gb129, 3, none⟩ = some (.int .i64 a1_3) := (blk_cell BK129.out 3).trans rfl; have hfz302_0 := blk_frozen BK129.out 0; have hfz302_1 := blk_frozen BK129.out 1; have hfz302_2 := blk_frozen BK129.out 2; have hfz302_3 := blk_frozen BK129.out 3; have hnb303 := NB132_133.out; have hnc303 := NB133_132.out; have hcz304_0 : w296.cell? ⟨gb132, 0, none⟩ = some (.int .i64 ((rd_T36 l0_0 a1_0).f0)) := (blk_cell BK132.out 0).trans rfl; have hcz304_1 : w296.cell? ⟨gb132, 1, none⟩ = some (.int .i64 ((rd_T36 l0_0 a1_0).f1)) := (blk_cell BK132.out 1).trans rfl; have hcz304_2 : w296.cell? ⟨gb132, 2, none⟩ = some (.int .i64 ((rd_T36 l0_0 a1_0).f2)) := (blk_cell BK132.out 2).trans rfl; have hfz304_0 := blk_frozen BK132.out 0; have hfz304_1 := blk_frozen BK132.out 1; have hfz304_2 := blk_frozen BK132.out 2))
               go_ret
               exact ⟨by first | rfl | (simp [errW_none, errW_some] <;> rfl) | (simp [*, errW_none, errW_some] <;> rfl), by repeat with_reducible first | exact HB.out | apply below_alloc | apply pw_below_drewN | apply below_drew1 | refine below_set ?_ GE128.out | refine below_set ?_ GE129.out | refine below_set ?_ GE132.out | refine below_set ?_ GE133.out | refine below_set ?_ GE137.out⟩
             ·rw [if_neg c226] at H
              have c226b0 : (((rd_T36 l0_0 a1_0).f1) == 4) = false := beq_eq_false_iff_ne.mpr c226
              have c226b1 : (((rd_T36 l0_0 a1_0).f1) != 4) = true := bne_iff_ne.mpr c226
              obtain rfl := Option.some.inj H
              have hnb305 := NB128_129.out
              have hnc305 := NB129_128.out
              have hnb306 := NB128_132.out
              have hnc306 := NB132_128.out
              have hnb307 := NB128_133.out
              have hnc307 := NB133_128.out
              have hcz308_0 : wc.cell? ⟨gb128, 0, none⟩ = some (.slice (some ad130) l0_0.length c0_0) := (blk_cell BK128.out 0).trans rfl
              have hcz308_1 : wc.cell? ⟨gb128, 1, none⟩ = some (.slice A0_1 l0_1.length c0_1) := (blk_cell BK128.out 1).trans rfl
              have hcz308_2 : wc.cell? ⟨gb128, 2, none⟩ = some (.int .i64 a0_2) := (blk_cell BK128.out 2).trans rfl
              have hfz308_0 := blk_frozen BK128.out 0
              have hfz308_1 := blk_frozen BK128.out 1
              have hfz308_2 := blk_frozen BK128.out 2
              have hnb309 := NB129_132.out
              have hnc309 := NB132_129.out
              have hnb310 := NB129_133.out
              have hnc310 := NB133_129.out
              have hcz311_0 : wc.cell? ⟨gb129, 0, none⟩ = some (.int .i64 a1_0) := (blk_cell BK129.out 0).trans rfl
              have hcz311_1 : wc.cell? ⟨gb129, 1, none⟩ = some (.int .i64 a1_1) := (blk_cell BK129.out 1).trans rfl
              have hcz311_2 : wc.cell? ⟨gb129, 2, none⟩ = some (.int .i64 a1_2) := (blk_cell BK129.out 2).trans rfl
              have hcz311_3 : wc.cell? ⟨gb129, 3, none⟩ = some (.int .i64 a1_3) := (blk_cell BK129.out 3).trans rfl
              have hfz311_0 := blk_frozen BK129.out 0
              have hfz311_1 := blk_frozen BK129.out 1
              have hfz311_2 := blk_frozen BK129.out 2
              have hfz311_3 := blk_frozen BK129.out 3
              have p136 : 0 ≤ (a1_3 : Int) := of_decide_eq_true (by first | (with_reducible assumption) | assumption)
              have q136 : a1_3 < (l0_0.length : Int) := of_decide_eq_true (by first | (with_reducible assumption) | assumption)
              obtain ⟨ad136, e136, hx136_0, hx136_1, hx136_2⟩ := at_T36 HR0_0.out a1_3 p136 q136
              obtain rfl : ad130 = ad136 := (by injection e136)
              replace hx136_0 := (HB.out.cell (World.block_lt_of_cell? w _ hx136_0)).trans hx136_0
              replace hx136_1 := (HB.out.cell (World.block_lt_of_cell? w _ hx136_1)).trans hx136_1
              replace hx136_2 := (HB.out.cell (World.block_lt_of_cell? w _ hx136_2)).trans hx136_2
              replace p136 := eq_true p136
              replace q136 := eq_true q136
              go_wp2_with (first | ((with_reducible refine gate_dst (N := 7) rfl ?_); refine box_event ?hg (N := 7) ?hd (cs := #[.int .i64 0, .int .i64 0, .int .i64 0]) (t := 36) ?hr ?_; (case hd => rfl); (case hg => rfl); (case hr => first | (go_simp; done) | (go_simp; rfl)); intro gb137 hg w312 hbox hb; have n0_ := Aside0.mk (blk_below (g := gb128) (o := .cells #[.slice (some ad130) l0_0.length c0_0, .slice A0_1 l0_1.length c0_1, .int .i64 a0_2] 25 (0, 0)) (by (with_reducible repeat first | apply bn | apply bd | apply ba); exact BK128.out) hb); have n1_ := Aside0.mk (blk_below (g := gb129) (o := .cells #[.int .i64 a1_0, .int .i64 a1_1, .int .i64 a1_2, .int .i64 a1_3] 33 (0, 0)) (by (with_reducible repeat first | apply bn | apply bd | apply ba); exact BK129.out) hb); have n2_ := Aside0.mk (blk_below (g := gb132) (o := .cells #[.int .i64 ((rd_T36 l0_0 a1_0).f0), .int .i64 ((rd_T36 l0_0 a1_0).f1), .int .i64 ((rd_T36 l0_0 a1_0).f2)] 36 (0, 0)) (by (with_reducible repeat first | apply bn | apply bd | apply ba); exact BK132.out) hb); have n3_ := Aside0.mk (blk_below (g := gb133) (o := .cells #[.int .i64 ((rd_T36 l0_0 a1_1).f0), .int .i64 ((rd_T36 l0_0 a1_1).f1), .int .i64 ((rd_T36 l0_0 a1_1).f2)] 36 (0, 0)) (by (with_reducible repeat first | apply bn | apply bd | apply ba); exact BK133.out) hb); have n4_ := Aside0.mk (below_step (by repeat with_reducible first | exact HB.out | apply below_alloc | apply pw_below_drewN | apply below_drew1 | refine below_set ?_ GE128.out | refine below_set ?_ GE129.out | refine below_set ?_ GE132.out | refine below_set ?_ GE133.out) hb); have n5_ := Aside0.mk (hbox); have n6_ := Aside0.mk ((by rw [hg]; exact (below_size (by repeat with_reducible first | exact HB.out | apply below_alloc | apply pw_below_drewN | apply below_drew1 | refine below_set ?_ GE128.out | refine below_set ?_ GE129.out | refine below_set ?_ GE132.out | refine below_set ?_ GE133.out)) : w.heap.size ≤ gb137)); have n7_ := Aside0.mk ((by rw [hg]; exact (below_size (by repeat with_reducible first | exact HB.out | apply below_alloc | apply pw_below_drewN | apply below_drew1 | refine below_set ?_ GE128.out | refine below_set ?_ GE129.out | refine below_set ?_ GE132.out | refine below_set ?_ GE133.out)) : w.heap.size ≤ gb137)); have n8_ := Aside0.mk ((by rw [hg]; exact Nat.ne_of_lt (blk_lt (g := gb128) (o := .cells #[.slice (some ad130) l0_0.length c0_0, .slice A0_1 l0_1.length c0_1, .int .i64 a0_2] 25 (0, 0)) (by (with_reducible repeat first | apply bn | apply bd | apply ba); exact BK128.out)) : gb128 ≠ gb137)); have n9_ := Aside0.mk ((by rw [hg]; exact Nat.ne_of_gt (blk_lt (g := gb128) (o := .cells #[.slice (some ad130) l0_0.length c0_0, .slice A0_1 l0_1.length c0_1, .int .i64 a0_2] 25 (0, 0)) (by (with_reducible repeat first | apply bn | apply bd | apply ba); exact BK128.out)) : gb137 ≠ gb128)); have n10_ := Aside0.mk ((by rw [hg]; exact Nat.ne_of_lt (blk_lt (g := gb129) (o := .cells #[.int .i64 a1_0, .int .i64 a1_1, .int .i64 a1_2, .int .i64 a1_3] 33 (0, 0)) (by (with_reducible repeat first | apply bn | apply bd | apply ba); exact BK129.out)) : gb129 ≠ gb137)); have n11_ := Aside0.mk ((by rw [hg]; exact Nat.ne_of_gt (blk_lt (g := gb129) (o := .cells #[.int .i64 a1_0, .int .i64 a1_1, .int .i64 a1_2, .int .i64 a1_3] 33 (0, 0)) (by (with_reducible repeat first | apply bn | apply bd | apply ba); exact BK129.out)) : gb137 ≠ gb129)); have n12_ := Aside0.mk ((by rw [hg]; exact Nat.ne_of_lt (blk_lt (g := gb132) (o := .cells #[.int .i64 ((rd_T36 l0_0 a1_0).f0), .int .i64 ((rd_T36 l0_0 a1_0).f1), .int .i64 ((rd_T36 l0_0 a1_0).f2)] 36 (0, 0)) (by (with_reducible repeat first | apply bn | apply bd | apply ba); exact BK132.out)) : gb132 ≠ gb137)); have n13_ := Aside0.mk ((by rw [hg]; exact Nat.ne_of_gt (blk_lt (g := gb132) (o := .cells #[.int .i64 ((rd_T36 l0_0 a1_0).f0), .int .i64 ((rd_T36 l0_0 a1_0).f1), .int .i64 ((rd_T36 l0_0 a1_0).f2)] 36 (0, 0)) (by (with_reducible repeat first | apply bn | apply bd | apply ba); exact BK132.out)) : gb137 ≠ gb132)); have n14_ := Aside0.mk ((by rw [hg]; exact Nat.ne_of_lt (blk_lt (g := gb133) (o := .cells #[.int .i64 ((rd_T36 l0_0 a1_1).f0), .int .i64 ((rd_T36 l0_0 a1_1).f1), .int .i64 ((rd_T36 l0_0 a1_1).f2)] 36 (0, 0)) (by (with_reducible repeat first | apply bn | apply bd | apply ba); exact BK133.out)) : gb133 ≠ gb137)); have n15_ := Aside0.mk ((by rw [hg]; exact Nat.ne_of_gt (blk_lt (g := gb133) (o := .cells #[.int .i64 ((rd_T36 l0_0 a1_1).f0), .int .i64 ((rd_T36 l0_0 a1_1).f1), .int .i64 ((rd_T36 l0_0 a1_1).f2)] 36 (0, 0)) (by (with_reducible repeat first | apply bn | apply bd | apply ba); exact BK133.out)) : gb137 ≠ gb133)); clear BK128; clear BK129; clear BK132; clear BK133; clear HB; have BK128 := n0_; have BK129 := n1_; have BK132 := n2_; have BK133 := n3_; have HB := n4_; have BK137 := n5_; have GW137 := n6_; have GE137 := n7_; have NB128_137 := n8_; have NB137_128 := n9_; have NB129_137 := n10_; have NB137_129 := n11_; have NB132_137 := n12_; have NB137_132 := n13_; have NB133_137 := n14_; have NB137_133 := n15_; clear n0_ n1_ n2_ n3_ n4_ n5_ n6_ n7_ n8_ n9_ n10_ n11_ n12_ n13_ n14_ n15_; clear hb hbox hg; have hnb313 := NB137_128.out; have hnc313 := NB128_137.out; have hnb314 := NB137_129.out; have hnc314 := NB129_137.out; have hnb315 := NB137_132.out; have hnc315 := NB132_137.out; have hnb316 := NB137_133.out; have hnc316 := NB133_137.out; have hcz317_0 : w312.cell? ⟨gb137, 0, none⟩ = some (.int .i64 0) := (blk_cell BK137.out 0).trans rfl; have hcz317_1 : w312.cell? ⟨gb137, 1, none⟩ = some (.int .i64 0) := (blk_cell BK137.out 1).trans rfl; have hcz317_2 : w312.cell? ⟨gb137, 2, none⟩ = some (.int .i64 0) := (blk_cell BK137.out 2).trans rfl; have hfz317_0 := blk_frozen BK137.out 0; have hfz317_1 := blk_frozen BK137.out 1; have hfz317_2 := blk_frozen BK137.out 2; have hcz318_0 : w312.cell? ⟨gb129, 0, none⟩ = some (.int .i64 a1_0) := (blk_cell BK129.out 0).trans rfl; have hcz318_1 : w312.cell? ⟨gb129, 1, none⟩ = some (.int .i64 a1_1) := (blk_cell BK129.out 1).trans rfl; have hcz318_2 : w312.cell? ⟨gb129, 2, none⟩ = some (.int .i64 a1_2) := (blk_cell BK129.out 2).trans rfl; have hcz318_3 : w312.cell? ⟨gb129, 3, none⟩ = some (.int .i64 a1_3) := (blk_cell BK129.out 3).trans rfl; have hfz318_0 := blk_frozen BK129.out 0; have hfz318_1 := blk_frozen BK129.out 1; have hfz318_2 := blk_frozen BK129.out 2; have hfz318_3 := blk_frozen BK129.out 3; have hnb319 := NB132_133.out; have hnc319 := NB133_132.out; have hcz320_0 : w312.cell? ⟨gb132, 0, none⟩ = some (.int .i64 ((rd_T36 l0_0 a1_0).f0)) := (blk_cell BK132.out 0).trans rfl; have hcz320_1 : w312.cell? ⟨gb132, 1, none⟩ = some (.int .i64 ((rd_T36 l0_0 a1_0).f1)) := (blk_cell BK132.out 1).trans rfl; have hcz320_2 : w312.cell? ⟨gb132, 2, none⟩ = some (.int .i64 ((rd_T36 l0_0 a1_0).f2)) := (blk_cell BK132.out 2).trans rfl; have hfz320_0 := blk_frozen BK132.out 0; have hfz320_1 := blk_frozen BK132.out 1; have hfz320_2 := blk_frozen BK132.out 2))
              go_ret
              exact ⟨by first | rfl | (simp [errW_none, errW_some] <;> rfl) | (simp [*, errW_none, errW_some] <;> rfl), by repeat with_reducible first | exact HB.out | apply below_alloc | apply pw_below_drewN | apply below_drew1 | refine below_set ?_ GE128.out | refine below_set ?_ GE129.out | refine below_set ?_ GE132.out | refine below_set ?_ GE133.out | refine below_set ?_ GE137.out⟩
            ·rw [if_neg c225] at H
             exact absurd H (by simp)
          ·rw [if_neg c32] at H
           exact absurd H (by simp)
         ·rw [if_neg c31] at H
          exact absurd H (by simp)
    ·rw [if_neg c6] at H
     exact absurd H (by simp)
   ·rw [if_neg c5] at H
    exact absurd H (by simp)
  ·rw [if_neg c4] at H
   exact absurd H (by simp)
 ·rw [if_neg c3] at H
  exact absurd H (by simp)

end Go.Proofs.Ytbmhpnegigccnaa.PS
