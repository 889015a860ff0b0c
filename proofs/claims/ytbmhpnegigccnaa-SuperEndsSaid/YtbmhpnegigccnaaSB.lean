/- Printed by a program of this session out of the translation: plain functions with the answers of the Go functions, and the proofs that they have them. -/
import Derived.Test.YtbmhpnegigccnaaS8
namespace Go.Proofs.Ytbmhpnegigccnaa.PS
open Go.RowKit Go.Proofs.YtbmhpnegigccnaaW.PrintWords Go.Proofs.YtbmhpnegigccnaaW.PrintLast Go.Proofs.YtbmhpnegigccnaaW.PrintMore
attribute [local go_sem] max2_int min2_int max_two min_two max_three min_three max_four min_four   -- for this text's walks alone
set_option linter.unusedVariables false
set_option linter.unusedSimpArgs false

/-! ### super_fits: function 37 -/
def super_fits.j0 : Nat → Bool → List (S36) → Int → Bool → Int → Int → Int → Int → Int → Int → Int → Int → Int → Int → Option (Bool)
 | 0, _, _, _, _, _, _, _, _, _, _, _, _, _, _ => none
 | k + 1, x4, x10, x22, x23, x202000, x202001, x202002, x202003, x205000, x205001, x205002, x206000, x206001, x206002 => if x23 = true then (if x202002 = 5 then (none) else (if x205000 = x206000 then (if x205001 = 3 then (none) else (if x205001 = 4 then (none) else (some (x206001 != 1)))) else (none))) else (if x22 = 2 then (if 0 ≤ (-1) then (if (-1) < (x10.length : Int) then (some x4) else (none)) else (none)) else (if 0 ≤ (-1) then (if (-1) < (x10.length : Int) then (some x4) else (none)) else (none)))
def super_fits.f (k : Nat) (l0_0 : List (S36)) (l0_1 : List (S33)) (a0_2 : Int) (a1_0 : Int) (a1_1 : Int) (a1_2 : Int) (a1_3 : Int) : Option (Bool) := if 0 ≤ a1_0 then (if a1_0 < (l0_0.length : Int) then (if 0 ≤ a1_1 then (if a1_1 < (l0_0.length : Int) then (if a1_2 = 1 then (super_fits.j0 k false l0_0 a1_2 (a1_2 == 1) a1_0 a1_1 a1_2 a1_3 ((rd_T36 l0_0 a1_0).f0) ((rd_T36 l0_0 a1_0).f1) ((rd_T36 l0_0 a1_0).f2) ((rd_T36 l0_0 a1_1).f0) ((rd_T36 l0_0 a1_1).f1) ((rd_T36 l0_0 a1_1).f2)) else (none)) else (none)) else (none)) else (none)) else (none)
theorem super_fits.mono_l : ∀ k, (∀ y0 y1 y2 y3 y4 y5 y6 y7 y8 y9 y10 y11 y12 y13, LeO (super_fits.j0 k y0 y1 y2 y3 y4 y5 y6 y7 y8 y9 y10 y11 y12 y13) (super_fits.j0 (k + 1) y0 y1 y2 y3 y4 y5 y6 y7 y8 y9 y10 y11 y12 y13))
 | 0 => fun _ _ _ _ _ _ _ _ _ _ _ _ _ _ r h => by simp [super_fits.j0] at h
 | k + 1 => by
  have ih0 := super_fits.mono_l k
  ·intro y0 y1 y2 y3 y4 y5 y6 y7 y8 y9 y10 y11 y12 y13
   unfold super_fits.j0
   repeat' first
   | (with_reducible exact ih0 _ _ _ _ _ _ _ _ _ _ _ _ _ _)
   | (with_reducible exact LeO.refl _)
   | (with_reducible exact LeO.none _)
   | (with_reducible refine LeO.ite ?_ ?_)
   | (with_reducible refine LeO.bind ?_ (fun _ => ?_))
   | exact ih0 _ _ _ _ _ _ _ _ _ _ _ _ _ _
   | exact LeO.none _
   | refine LeO.ite ?_ ?_
   | refine LeO.bind ?_ (fun _ => ?_)
theorem super_fits.mono : ∀ a0 a1 a2 a3 a4 a5 a6 k, LeO (super_fits.f k a0 a1 a2 a3 a4 a5 a6) (super_fits.f (k + 1) a0 a1 a2 a3 a4 a5 a6) := by
 intro a0 a1 a2 a3 a4 a5 a6 k
 have ih0 := super_fits.mono_l k
 unfold super_fits.f
 repeat' first
   | (with_reducible exact ih0 _ _ _ _ _ _ _ _ _ _ _ _ _ _)
   | (with_reducible exact LeO.refl _)
   | (with_reducible exact LeO.none _)
   | (with_reducible refine LeO.ite ?_ ?_)
   | (with_reducible refine LeO.bind ?_ (fun _ => ?_))
   | exact ih0 _ _ _ _ _ _ _ _ _ _ _ _ _ _
   | exact LeO.none _
   | refine LeO.ite ?_ ?_
   | refine LeO.bind ?_ (fun _ => ?_)
def super_fits.T1 : Bool × List (List Nat × List Nat) := (true, [([], []), ([0], [0]), ([], []), ([2], [2]), ([1, 3], [1, 3]), ([4], [4]), ([], []), ([6], [6]), ([], []), ([8], [8]), ([7, 9], [7, 9]), ([10], [10]), ([], []), ([], []), ([12, 5, 0, 1, 2, 3, 4, 5, 12, 13], [5, 12]), ([13, 11, 14, 0, 1, 2, 3, 4, 5, 6, 7, 8, 9, 10, 11, 12, 13, 14], [11, 13])])
def super_fits.B1 : List Nat := [0, 1, 0, 4, 15, 31, 0, 64, 0, 256, 960, 1984, 0, 0, 12351, 32767]
theorem super_fits.tab1 : rtab .any (opsOf Try.f37 1) = super_fits.T1 := by kernel_rfl
theorem super_fits.bits1 : waitsOk super_fits.T1.2 super_fits.B1 = true := by kernel_rfl
set_option maxHeartbeats 8000000 in
set_option maxRecDepth 100000 in
theorem super_fits.calls (k : Nat) (A0_0 : Option Addr) (c0_0 : Nat) (l0_0 : List (S36)) (A0_1 : Option Addr) (c0_1 : Nat) (l0_1 : List (S33)) (a0_2 : Int) (a1_0 : Int) (a1_1 : Int) (a1_2 : Int) (a1_3 : Int) (r : Bool) (w : World) (hr0_0 : Kd.C k36 w A0_0 l0_0.length l0_0) (hc0_0 : l0_0.length ≤ c0_0) (hr0_1 : Kd.C k33 w A0_1 l0_1.length l0_1) (hc0_1 : l0_1.length ≤ c0_1) (h : super_fits.f k l0_0 l0_1 a0_2 a1_0 a1_1 a1_2 a1_3 = some r) :
  Calls Try.prog 37 #[.agg #[.slice A0_0 l0_0.length c0_0, .slice A0_1 l0_1.length c0_1, .int .i64 a0_2], .agg #[.int .i64 a1_0, .int .i64 a1_1, .int .i64 a1_2, .int .i64 a1_3]] w fun e w' => e = .returned (.bool r) ∧ Below w.heap.size w w' := by
 have hu25 := Try.underlying25
 have hu33 := Try.underlying33
 have hu36 := Try.underlying36
 have HR0_0 := Aside0.mk hr0_0
 have HC0_0 := Aside0.mk hc0_0
 clear hr0_0 hc0_0
 have HR0_1 := Aside0.mk hr0_1
 have HC0_1 := Aside0.mk hc0_1
 clear hr0_1 hc0_1
 have HB := Aside0.mk (Below.refl w.heap.size w)
 have H : (if 0 ≤ a1_0 then (if a1_0 < (l0_0.length : Int) then (if 0 ≤ a1_1 then (if a1_1 < (l0_0.length : Int) then (if a1_2 = 1 then (super_fits.j0 k false l0_0 a1_2 (a1_2 == 1) a1_0 a1_1 a1_2 a1_3 ((rd_T36 l0_0 a1_0).f0) ((rd_T36 l0_0 a1_0).f1) ((rd_T36 l0_0 a1_0).f2) ((rd_T36 l0_0 a1_1).f0) ((rd_T36 l0_0 a1_1).f1) ((rd_T36 l0_0 a1_1).f2)) else (none)) else (none)) else (none)) else (none)) else (none)) = some r := h
 clear h
 by_cases c3 : 0 ≤ a1_0
 ·rw [if_pos c3] at H
  have c3b0 : decide (0 ≤ a1_0) = true := decide_eq_true c3
  clear c3
  by_cases c4 : a1_0 < (l0_0.length : Int)
  ·rw [if_pos c4] at H
   have c4b0 : decide (a1_0 < (l0_0.length : Int)) = true := decide_eq_true c4
   clear c4
   by_cases c5 : 0 ≤ a1_1
   ·rw [if_pos c5] at H
    have c5b0 : decide (0 ≤ a1_1) = true := decide_eq_true c5
    clear c5
    by_cases c6 : a1_1 < (l0_0.length : Int)
    ·rw [if_pos c6] at H
     have c6b0 : decide (a1_1 < (l0_0.length : Int)) = true := decide_eq_true c6
     clear c6
     have HC7 := Aside0.mk H
     clear H
     go_enter Try.func37, Try.ntmps37
     try go_wp2_with (first | ((with_reducible refine gate_dst (N := 2) rfl ?_); refine box_event ?hg (N := 2) ?hd (cs := #[.slice A0_0 l0_0.length c0_0, .slice A0_1 l0_1.length c0_1, .int .i64 a0_2]) (t := 25) ?hr ?_; (case hd => rfl); (case hg => rfl); (case hr => first | (go_simp; done) | (go_simp; rfl)); intro gb200 hg w8 hbox hb; have n0_ := Aside0.mk (below_step (by repeat with_reducible first | exact HB.out | apply below_alloc | apply pw_below_drewN | apply below_drew1) hb); have n1_ := Aside0.mk (hbox); have n2_ := Aside0.mk ((by rw [hg]; exact (below_size (by repeat with_reducible first | exact HB.out | apply below_alloc | apply pw_below_drewN | apply below_drew1)) : w.heap.size ≤ gb200)); have n3_ := Aside0.mk ((by rw [hg]; exact (below_size (by repeat with_reducible first | exact HB.out | apply below_alloc | apply pw_below_drewN | apply below_drew1)) : w.heap.size ≤ gb200)); clear HB; have HB := n0_; have BK200 := n1_; have GW200 := n2_; have GE200 := n3_; clear n0_ n1_ n2_ n3_; clear hb hbox hg) | ((with_reducible refine gate_dst (N := 3) rfl ?_); refine box_event ?hg (N := 3) ?hd (cs := #[.int .i64 a1_0, .int .i64 a1_1, .int .i64 a1_2, .int .i64 a1_3]) (t := 33) ?hr ?_; (case hd => rfl); (case hg => rfl); (case hr => first | (go_simp; done) | (go_simp; rfl)); intro gb201 hg w9 hbox hb; have n0_ := Aside0.mk (blk_below (g := gb200) (o := .cells #[.slice A0_0 l0_0.length c0_0, .slice A0_1 l0_1.length c0_1, .int .i64 a0_2] 25 (0, 0)) (by (with_reducible repeat first | apply bn | apply bd | apply ba); exact BK200.out) hb); have n1_ := Aside0.mk (below_step (by repeat with_reducible first | exact HB.out | apply below_alloc | apply pw_below_drewN | apply below_drew1 | refine below_set ?_ GE200.out) hb); have n2_ := Aside0.mk (hbox); have n3_ := Aside0.mk ((by rw [hg]; exact (below_size (by repeat with_reducible first | exact HB.out | apply below_alloc | apply pw_below_drewN | apply below_drew1 | refine below_set ?_ GE200.out)) : w.heap.size ≤ gb201)); have n4_ := Aside0.mk ((by rw [hg]; exact (below_size (by repeat with_reducible first | exact HB.out | apply below_alloc | apply pw_below_drewN | apply below_drew1 | refine below_set ?_ GE200.out)) : w.heap.size ≤ gb201)); have n5_ := Aside0.mk ((by rw [hg]; exact Nat.ne_of_lt (blk_lt (g := gb200) (o := .cells #[.slice A0_0 l0_0.length c0_0, .slice A0_1 l0_1.length c0_1, .int .i64 a0_2] 25 (0, 0)) (by (with_reducible repeat first | apply bn | apply bd | apply ba); exact BK200.out)) : gb200 ≠ gb201)); have n6_ := Aside0.mk ((by rw [hg]; exact Nat.ne_of_gt (blk_lt (g := gb200) (o := .cells #[.slice A0_0 l0_0.length c0_0, .slice A0_1 l0_1.length c0_1, .int .i64 a0_2] 25 (0, 0)) (by (with_reducible repeat first | apply bn | apply bd | apply ba); exact BK200.out)) : gb201 ≠ gb200)); clear BK200; clear HB; have BK200 := n0_; have HB := n1_; have BK201 := n2_; have GW201 := n3_; have GE201 := n4_; have NB200_201 := n5_; have NB201_200 := n6_; clear n0_ n1_ n2_ n3_ n4_ n5_ n6_; clear hb hbox hg))
     have n0_ := Aside0.mk (blk_drew BK200.out)
     have n1_ := Aside0.mk (blk_drew BK201.out)
     have n2_ := Aside0.mk (below_drew1 HB.out)
     clear BK200
     clear BK201
     clear HB
     have BK200 := n0_
     have BK201 := n1_
     have HB := n2_
     clear n0_ n1_ n2_
     have p202 : 0 ≤ (a1_0 : Int) := of_decide_eq_true (by first | (with_reducible assumption) | assumption)
     have q202 : a1_0 < (l0_0.length : Int) := of_decide_eq_true (by first | (with_reducible assumption) | assumption)
     obtain ⟨ad202, e202, hx202_0, hx202_1, hx202_2⟩ := at_T36 HR0_0.out a1_0 p202 q202
     have hw202_2 := hx202_2
     have hw202_1 := hx202_1
     have hw202_0 := hx202_0
     cases e202
     replace hx202_0 := (HB.out.cell (World.block_lt_of_cell? w _ hx202_0)).trans hx202_0
     replace hx202_1 := (HB.out.cell (World.block_lt_of_cell? w _ hx202_1)).trans hx202_1
     replace hx202_2 := (HB.out.cell (World.block_lt_of_cell? w _ hx202_2)).trans hx202_2
     replace p202 := eq_true p202
     replace q202 := eq_true q202
     have p203 : 0 ≤ (a1_1 : Int) := of_decide_eq_true (by first | (with_reducible assumption) | assumption)
     have q203 : a1_1 < (l0_0.length : Int) := of_decide_eq_true (by first | (with_reducible assumption) | assumption)
     obtain ⟨ad203, e203, hx203_0, hx203_1, hx203_2⟩ := at_T36 HR0_0.out a1_1 p203 q203
     have hw203_2 := hx203_2
     have hw203_1 := hx203_1
     have hw203_0 := hx203_0
     obtain rfl : ad202 = ad203 := (by injection e203)
     replace hx203_0 := (HB.out.cell (World.block_lt_of_cell? w _ hx203_0)).trans hx203_0
     replace hx203_1 := (HB.out.cell (World.block_lt_of_cell? w _ hx203_1)).trans hx203_1
     replace hx203_2 := (HB.out.cell (World.block_lt_of_cell? w _ hx203_2)).trans hx203_2
     replace p203 := eq_true p203
     replace q203 := eq_true q203
     refine start_ (n := 16) (S := fun w' => w'.cell? ⟨gb200, 0, none⟩ = some (.slice (some ad202) l0_0.length c0_0) ∧ w'.cell? ⟨gb200, 1, none⟩ = some (.slice A0_1 l0_1.length c0_1) ∧ w'.cell? ⟨gb200, 2, none⟩ = some (.int .i64 a0_2) ∧ w'.cell? ⟨gb201, 0, none⟩ = some (.int .i64 a1_0) ∧ w'.cell? ⟨gb201, 1, none⟩ = some (.int .i64 a1_1) ∧ w'.cell? ⟨gb201, 2, none⟩ = some (.int .i64 a1_2) ∧ w'.cell? ⟨gb201, 3, none⟩ = some (.int .i64 a1_3) ∧ w'.cell? (ad202.add ((a1_0).toNat * 3)) = some (.int .i64 ((rd_T36 l0_0 a1_0).f0)) ∧ w'.cell? ⟨(ad202.add ((a1_0).toNat * 3)).block, (ad202.add ((a1_0).toNat * 3)).off + 1, none⟩ = some (.int .i64 ((rd_T36 l0_0 a1_0).f1)) ∧ w'.cell? ⟨(ad202.add ((a1_0).toNat * 3)).block, (ad202.add ((a1_0).toNat * 3)).off + 2, none⟩ = some (.int .i64 ((rd_T36 l0_0 a1_0).f2)) ∧ w'.cell? (ad202.add ((a1_1).toNat * 3)) = some (.int .i64 ((rd_T36 l0_0 a1_1).f0)) ∧ w'.cell? ⟨(ad202.add ((a1_1).toNat * 3)).block, (ad202.add ((a1_1).toNat * 3)).off + 1, none⟩ = some (.int .i64 ((rd_T36 l0_0 a1_1).f1)) ∧ w'.cell? ⟨(ad202.add ((a1_1).toNat * 3)).block, (ad202.add ((a1_1).toNat * 3)).off + 2, none⟩ = some (.int .i64 ((rd_T36 l0_0 a1_1).f2))) (ds := []) #[false, false, false, false, false, false, false, false, false, false, false, false, false, false, false, false] (by kernel_rfl) rfl rfl ⟨(blk_cell BK200.out 0).trans rfl, (blk_cell BK200.out 1).trans rfl, (blk_cell BK200.out 2).trans rfl, (blk_cell BK201.out 0).trans rfl, (blk_cell BK201.out 1).trans rfl, (blk_cell BK201.out 2).trans rfl, (blk_cell BK201.out 3).trans rfl, ((HB.out.cell (World.block_lt_of_cell? w _ hw202_0)).trans hw202_0), ((HB.out.cell (World.block_lt_of_cell? w _ hw202_1)).trans hw202_1), ((HB.out.cell (World.block_lt_of_cell? w _ hw202_2)).trans hw202_2), ((HB.out.cell (World.block_lt_of_cell? w _ hw203_0)).trans hw203_0), ((HB.out.cell (World.block_lt_of_cell? w _ hw203_1)).trans hw203_1), ((HB.out.cell (World.block_lt_of_cell? w _ hw203_2)).trans hw203_2)⟩ (fun hHeld => ?_); refine with_tabW super_fits.tab1 super_fits.bits1 (fun HT_ HW_ => ?_)
     generalize w9.drew = w10 at BK200 BK201 HB hx202_0 hx202_1 hx202_2 hx203_0 hx203_1 hx203_2 hHeld ⊢
     refine pure_ (i := 0) (N := some 9) (v := ?_) (a' := ?_) #[true, false, false, false, false, false, false, false, false, false, false, false, false, false, false, false] rfl rfl (any_of HT_.out (by kernel_rfl)) (fun _ _ _ h => h) (Or.inl ⟨by rfl, ?_⟩) ?_ ?_
     rotate_left;focus(intro w';go_simp;with_reducible rfl)
     rotate_left;focus(simp only [Act.put, List.setIfInBounds_toArray, List.set_cons_zero, List.set_cons_succ, i64_w];rfl)
     refine pure_ (i := 2) (N := some 11) (v := ?_) (a' := ?_) #[true, false, true, false, false, false, false, false, false, false, false, false, false, false, false, false] rfl rfl (any_of HT_.out (by kernel_rfl)) (fun _ _ _ h => h) (Or.inl ⟨by rfl, ?_⟩) ?_ ?_
     rotate_left;focus(intro w';go_simp;with_reducible rfl)
     rotate_left;focus(simp only [Act.put, List.setIfInBounds_toArray, List.set_cons_zero, List.set_cons_succ, i64_w];rfl)
     refine pure_ (i := 6) (N := some 15) (v := ?_) (a' := ?_) #[true, false, true, false, false, false, true, false, false, false, false, false, false, false, false, false] rfl rfl (any_of HT_.out (by kernel_rfl)) (fun _ _ _ h => h) (Or.inl ⟨by rfl, ?_⟩) ?_ ?_
     rotate_left;focus(intro w';go_simp;with_reducible rfl)
     rotate_left;focus(simp only [Act.put, List.setIfInBounds_toArray, List.set_cons_zero, List.set_cons_succ, i64_w];rfl)
     refine pure_ (i := 8) (N := some 17) (v := ?_) (a' := ?_) #[true, false, true, false, false, false, true, false, true, false, false, false, false, false, false, false] rfl rfl (any_of HT_.out (by kernel_rfl)) (fun _ _ _ h => h) (Or.inl ⟨by rfl, ?_⟩) ?_ ?_
     rotate_left;focus(intro w';go_simp;with_reducible rfl)
     rotate_left;focus(simp only [Act.put, List.setIfInBounds_toArray, List.set_cons_zero, List.set_cons_succ, i64_w];rfl)
     refine take_ (i := 1) (N := some 10) (v := ?_) (a' := ?_) #[true, true, true, false, false, false, true, false, true, false, false, false, false, false, false, false] rfl rfl (take_ofW HT_.out HW_.out (by kernel_rfl)) (fun _ _ _ h => h) (Or.inl ⟨by rfl, ?_⟩) hHeld ?_ ?_
     rotate_left;focus(rintro w' ⟨s0, s1, s2, s3, s4, s5, s6, s7, s8, s9, s10, s11, s12⟩;go_simp;with_reducible rfl)
     rotate_left;focus(simp only [Act.put, List.setIfInBounds_toArray, List.set_cons_zero, List.set_cons_succ, i64_w];rfl)
     refine take_ (i := 3) (N := some 12) (v := ?_) (a' := ?_) #[true, true, true, true, false, false, true, false, true, false, false, false, false, false, false, false] rfl rfl (take_ofW HT_.out HW_.out (by kernel_rfl)) (fun _ _ _ h => h) (Or.inl ⟨by rfl, ?_⟩) hHeld ?_ ?_
     rotate_left;focus(rintro w' ⟨s0, s1, s2, s3, s4, s5, s6, s7, s8, s9, s10, s11, s12⟩;go_simp;with_reducible rfl)
     rotate_left;focus(simp only [Act.put, List.setIfInBounds_toArray, List.set_cons_zero, List.set_cons_succ, i64_w];rfl)
     refine pure_ (i := 4) (N := some 13) (v := ?_) (a' := ?_) #[true, true, true, true, true, false, true, false, true, false, false, false, false, false, false, false] rfl rfl (any_of HT_.out (by kernel_rfl)) (fun _ _ _ h => h) (Or.inl ⟨by rfl, ?_⟩) ?_ ?_
     rotate_left;focus(intro w';go_simp;with_reducible rfl)
     rotate_left;focus(simp only [Act.put, List.setIfInBounds_toArray, List.set_cons_zero, List.set_cons_succ, i64_w];rfl)
     refine take_ (i := 5) (N := some 14) (v := ?_) (a' := ?_) #[true, true, true, true, true, true, true, false, true, false, false, false, false, false, false, false] rfl rfl (take_ofW HT_.out HW_.out (by kernel_rfl)) (fun _ _ _ h => h) (Or.inl ⟨by rfl, ?_⟩) hHeld ?_ ?_
     rotate_left;focus(rintro w' ⟨s0, s1, s2, s3, s4, s5, s6, s7, s8, s9, s10, s11, s12⟩;go_simp;with_reducible rfl)
     rotate_left;focus(simp only [Act.put, List.setIfInBounds_toArray, List.set_cons_zero, List.set_cons_succ, i64_w];rfl)
     refine take_ (i := 7) (N := some 16) (v := ?_) (a' := ?_) #[true, true, true, true, true, true, true, true, true, false, false, false, false, false, false, false] rfl rfl (take_ofW HT_.out HW_.out (by kernel_rfl)) (fun _ _ _ h => h) (Or.inl ⟨by rfl, ?_⟩) hHeld ?_ ?_
     rotate_left;focus(rintro w' ⟨s0, s1, s2, s3, s4, s5, s6, s7, s8, s9, s10, s11, s12⟩;go_simp;with_reducible rfl)
     rotate_left;focus(simp only [Act.put, List.setIfInBounds_toArray, List.set_cons_zero, List.set_cons_succ, i64_w];rfl)
     refine take_ (i := 9) (N := some 18) (v := ?_) (a' := ?_) #[true, true, true, true, true, true, true, true, true, true, false, false, false, false, false, false] rfl rfl (take_ofW HT_.out HW_.out (by kernel_rfl)) (fun _ _ _ h => h) (Or.inl ⟨by rfl, ?_⟩) hHeld ?_ ?_
     rotate_left;focus(rintro w' ⟨s0, s1, s2, s3, s4, s5, s6, s7, s8, s9, s10, s11, s12⟩;go_simp;with_reducible rfl)
     rotate_left;focus(simp only [Act.put, List.setIfInBounds_toArray, List.set_cons_zero, List.set_cons_succ, i64_w];rfl)
     refine pure_ (i := 10) (N := some 19) (v := ?_) (a' := ?_) #[true, true, true, true, true, true, true, true, true, true, true, false, false, false, false, false] rfl rfl (any_of HT_.out (by kernel_rfl)) (fun _ _ _ h => h) (Or.inl ⟨by rfl, ?_⟩) ?_ ?_
     rotate_left;focus(intro w';go_simp;with_reducible rfl)
     rotate_left;focus(simp only [Act.put, List.setIfInBounds_toArray, List.set_cons_zero, List.set_cons_succ, i64_w];rfl)
     refine take_ (i := 11) (N := some 20) (v := ?_) (a' := ?_) #[true, true, true, true, true, true, true, true, true, true, true, true, false, false, false, false] rfl rfl (take_ofW HT_.out HW_.out (by kernel_rfl)) (fun _ _ _ h => h) (Or.inl ⟨by rfl, ?_⟩) hHeld ?_ ?_
     rotate_left;focus(rintro w' ⟨s0, s1, s2, s3, s4, s5, s6, s7, s8, s9, s10, s11, s12⟩;go_simp;with_reducible rfl)
     rotate_left;focus(simp only [Act.put, List.setIfInBounds_toArray, List.set_cons_zero, List.set_cons_succ, i64_w];rfl)
     refine join_ (σ := Nat × Nat) 2 #[true, true, true, true, true, true, true, true, true, true, true, true, true, true, false, false] (fun s_ => [(5, .pointer (some ⟨s_.1, 0, none⟩)), (6, .pointer (some ⟨s_.2, 0, none⟩))]) (fun s_ w' => (w'.cell? ⟨gb200, 0, none⟩ = some (.slice (some ad202) l0_0.length c0_0) ∧ w'.cell? ⟨gb200, 1, none⟩ = some (.slice A0_1 l0_1.length c0_1) ∧ w'.cell? ⟨gb200, 2, none⟩ = some (.int .i64 a0_2) ∧ w'.cell? ⟨gb201, 0, none⟩ = some (.int .i64 a1_0) ∧ w'.cell? ⟨gb201, 1, none⟩ = some (.int .i64 a1_1) ∧ w'.cell? ⟨gb201, 2, none⟩ = some (.int .i64 a1_2) ∧ w'.cell? ⟨gb201, 3, none⟩ = some (.int .i64 a1_3) ∧ w'.cell? (ad202.add ((a1_0).toNat * 3)) = some (.int .i64 ((rd_T36 l0_0 a1_0).f0)) ∧ w'.cell? ⟨(ad202.add ((a1_0).toNat * 3)).block, (ad202.add ((a1_0).toNat * 3)).off + 1, none⟩ = some (.int .i64 ((rd_T36 l0_0 a1_0).f1)) ∧ w'.cell? ⟨(ad202.add ((a1_0).toNat * 3)).block, (ad202.add ((a1_0).toNat * 3)).off + 2, none⟩ = some (.int .i64 ((rd_T36 l0_0 a1_0).f2)) ∧ w'.cell? (ad202.add ((a1_1).toNat * 3)) = some (.int .i64 ((rd_T36 l0_0 a1_1).f0)) ∧ w'.cell? ⟨(ad202.add ((a1_1).toNat * 3)).block, (ad202.add ((a1_1).toNat * 3)).off + 1, none⟩ = some (.int .i64 ((rd_T36 l0_0 a1_1).f1)) ∧ w'.cell? ⟨(ad202.add ((a1_1).toNat * 3)).block, (ad202.add ((a1_1).toNat * 3)).off + 2, none⟩ = some (.int .i64 ((rd_T36 l0_0 a1_1).f2))) ∧ (w'.heap[gb200]? = some (.cells #[.slice (some ad202) l0_0.length c0_0, .slice A0_1 l0_1.length c0_1, .int .i64 a0_2] 25 (0, 0))) ∧ (w'.heap[gb201]? = some (.cells #[.int .i64 a1_0, .int .i64 a1_1, .int .i64 a1_2, .int .i64 a1_3] 33 (0, 0))) ∧ (w'.heap[s_.1]? = some (.cells #[.int .i64 0, .int .i64 0, .int .i64 0] 36 (0, 0))) ∧ (w'.heap[s_.2]? = some (.cells #[.int .i64 0, .int .i64 0, .int .i64 0] 36 (0, 0))) ∧ (w.heap.size ≤ s_.1) ∧ (w.heap.size ≤ s_.1) ∧ (gb200 ≠ s_.1) ∧ (s_.1 ≠ gb200) ∧ (gb201 ≠ s_.1) ∧ (s_.1 ≠ gb201) ∧ (s_.2 ≠ s_.1) ∧ (s_.1 ≠ s_.2) ∧ (w.heap.size ≤ s_.2) ∧ (w.heap.size ≤ s_.2) ∧ (gb200 ≠ s_.2) ∧ (s_.2 ≠ gb200) ∧ (gb201 ≠ s_.2) ∧ (s_.2 ≠ gb201) ∧ (Below w.heap.size w w')) ?_ ?_
     rotate_left
     ·intro hCont
      refine two_ (i := 12) (j := 13) (Ni := some 5) (Nj := some 6) #[true, true, true, true, true, true, true, true, true, true, true, true, true, false, false, false] #[true, true, true, true, true, true, true, true, true, true, true, true, false, true, false, false] rfl rfl rfl rfl (two_of HT_.out (by kernel_rfl)) (by decide) (by decide) (fun K hK => ?_) (fun K hK => ?_)
      ·skip
       refine box_step ?hg (N := 5) ?hd (cs := #[.int .i64 0, .int .i64 0, .int .i64 0]) (t := 36) ?hr ?_; (case hd => rfl); (case hg => rfl); (case hr => first | (go_simp; done) | (go_simp; rfl))
       intro gb204 hg w11 hbox hb
       have n0_ := Aside0.mk (blk_below (g := gb200) (o := .cells #[.slice (some ad202) l0_0.length c0_0, .slice A0_1 l0_1.length c0_1, .int .i64 a0_2] 25 (0, 0)) (by (with_reducible repeat first | apply bn | apply bd | apply ba); exact BK200.out) hb)
       have n1_ := Aside0.mk (blk_below (g := gb201) (o := .cells #[.int .i64 a1_0, .int .i64 a1_1, .int .i64 a1_2, .int .i64 a1_3] 33 (0, 0)) (by (with_reducible repeat first | apply bn | apply bd | apply ba); exact BK201.out) hb)
       have n2_ := Aside0.mk (below_step (by repeat with_reducible first | exact HB.out | apply below_alloc | apply pw_below_drewN | apply below_drew1 | refine below_set ?_ GE200.out | refine below_set ?_ GE201.out) hb)
       have n3_ := Aside0.mk (hbox)
       have n4_ := Aside0.mk ((by rw [hg]; exact (below_size (by repeat with_reducible first | exact HB.out | apply below_alloc | apply pw_below_drewN | apply below_drew1 | refine below_set ?_ GE200.out | refine below_set ?_ GE201.out)) : w.heap.size ≤ gb204))
       have n5_ := Aside0.mk ((by rw [hg]; exact (below_size (by repeat with_reducible first | exact HB.out | apply below_alloc | apply pw_below_drewN | apply below_drew1 | refine below_set ?_ GE200.out | refine below_set ?_ GE201.out)) : w.heap.size ≤ gb204))
       have n6_ := Aside0.mk ((by rw [hg]; exact Nat.ne_of_lt (blk_lt (g := gb200) (o := .cells #[.slice (some ad202) l0_0.length c0_0, .slice A0_1 l0_1.length c0_1, .int .i64 a0_2] 25 (0, 0)) (by (with_reducible repeat first | apply bn | apply bd | apply ba); exact BK200.out)) : gb200 ≠ gb204))
       have n7_ := Aside0.mk ((by rw [hg]; exact Nat.ne_of_gt (blk_lt (g := gb200) (o := .cells #[.slice (some ad202) l0_0.length c0_0, .slice A0_1 l0_1.length c0_1, .int .i64 a0_2] 25 (0, 0)) (by (with_reducible repeat first | apply bn | apply bd | apply ba); exact BK200.out)) : gb204 ≠ gb200))
       have n8_ := Aside0.mk ((by rw [hg]; exact Nat.ne_of_lt (blk_lt (g := gb201) (o := .cells #[.int .i64 a1_0, .int .i64 a1_1, .int .i64 a1_2, .int .i64 a1_3] 33 (0, 0)) (by (with_reducible repeat first | apply bn | apply bd | apply ba); exact BK201.out)) : gb201 ≠ gb204))
       have n9_ := Aside0.mk ((by rw [hg]; exact Nat.ne_of_gt (blk_lt (g := gb201) (o := .cells #[.int .i64 a1_0, .int .i64 a1_1, .int .i64 a1_2, .int .i64 a1_3] 33 (0, 0)) (by (with_reducible repeat first | apply bn | apply bd | apply ba); exact BK201.out)) : gb204 ≠ gb201))
       clear BK200
       clear BK201
       clear HB
       have BK200 := n0_
       have BK201 := n1_
       have HB := n2_
       have BK204 := n3_
       have GW204 := n4_
       have GE204 := n5_
       have NB200_204 := n6_
       have NB204_200 := n7_
       have NB201_204 := n8_
       have NB204_201 := n9_
       clear n0_ n1_ n2_ n3_ n4_ n5_ n6_ n7_ n8_ n9_
       clear hb hbox hg
       refine hK.out _ _ ⟨(blk_cell BK200.out 0).trans rfl, (blk_cell BK200.out 1).trans rfl, (blk_cell BK200.out 2).trans rfl, (blk_cell BK201.out 0).trans rfl, (blk_cell BK201.out 1).trans rfl, (blk_cell BK201.out 2).trans rfl, (blk_cell BK201.out 3).trans rfl, ((HB.out.cell (World.block_lt_of_cell? w _ hw202_0)).trans hw202_0), ((HB.out.cell (World.block_lt_of_cell? w _ hw202_1)).trans hw202_1), ((HB.out.cell (World.block_lt_of_cell? w _ hw202_2)).trans hw202_2), ((HB.out.cell (World.block_lt_of_cell? w _ hw203_0)).trans hw203_0), ((HB.out.cell (World.block_lt_of_cell? w _ hw203_1)).trans hw203_1), ((HB.out.cell (World.block_lt_of_cell? w _ hw203_2)).trans hw203_2)⟩ (fun hHeld => ?_)
       clear hK K
       refine norm_ (a' := ?_) ?_ ?_
       rotate_left;focus(show Act.put _ (some 5) _ = _;simp only [Act.put, List.setIfInBounds_toArray, List.set_cons_zero, List.set_cons_succ, i64_w];rfl)
       refine one_ (i := 13) (N := some 6) #[true, true, true, true, true, true, true, true, true, true, true, true, true, true, false, false] rfl rfl (one_of HT_.out (by kernel_rfl)) (by decide) (fun K hK => ?_)
       refine box_step ?hg (N := 6) ?hd (cs := #[.int .i64 0, .int .i64 0, .int .i64 0]) (t := 36) ?hr ?_; (case hd => rfl); (case hg => rfl); (case hr => first | (go_simp; done) | (go_simp; rfl))
       intro gb205 hg w12 hbox hb
       have n0_ := Aside0.mk (blk_below (g := gb200) (o := .cells #[.slice (some ad202) l0_0.length c0_0, .slice A0_1 l0_1.length c0_1, .int .i64 a0_2] 25 (0, 0)) (by (with_reducible repeat first | apply bn | apply bd | apply ba); exact BK200.out) hb)
       have n1_ := Aside0.mk (blk_below (g := gb201) (o := .cells #[.int .i64 a1_0, .int .i64 a1_1, .int .i64 a1_2, .int .i64 a1_3] 33 (0, 0)) (by (with_reducible repeat first | apply bn | apply bd | apply ba); exact BK201.out) hb)
       have n2_ := Aside0.mk (blk_below (g := gb204) (o := .cells #[.int .i64 0, .int .i64 0, .int .i64 0] 36 (0, 0)) (by (with_reducible repeat first | apply bn | apply bd | apply ba); exact BK204.out) hb)
       have n3_ := Aside0.mk (below_step (by repeat with_reducible first | exact HB.out | apply below_alloc | apply pw_below_drewN | apply below_drew1 | refine below_set ?_ GE200.out | refine below_set ?_ GE201.out | refine below_set ?_ GE204.out) hb)
       have n4_ := Aside0.mk (hbox)
       have n5_ := Aside0.mk ((by rw [hg]; exact (below_size (by repeat with_reducible first | exact HB.out | apply below_alloc | apply pw_below_drewN | apply below_drew1 | refine below_set ?_ GE200.out | refine below_set ?_ GE201.out | refine below_set ?_ GE204.out)) : w.heap.size ≤ gb205))
       have n6_ := Aside0.mk ((by rw [hg]; exact (below_size (by repeat with_reducible first | exact HB.out | apply below_alloc | apply pw_below_drewN | apply below_drew1 | refine below_set ?_ GE200.out | refine below_set ?_ GE201.out | refine below_set ?_ GE204.out)) : w.heap.size ≤ gb205))
       have n7_ := Aside0.mk ((by rw [hg]; exact Nat.ne_of_lt (blk_lt (g := gb200) (o := .cells #[.slice (some ad202) l0_0.length c0_0, .slice A0_1 l0_1.length c0_1, .int .i64 a0_2] 25 (0, 0)) (by (with_reducible repeat first | apply bn | apply bd | apply ba); exact BK200.out)) : gb200 ≠ gb205))
       have n8_ := Aside0.mk ((by rw [hg]; exact Nat.ne_of_gt (blk_lt (g := gb200) (o := .cells #[.slice (some ad202) l0_0.length c0_0, .slice A0_1 l0_1.length c0_1, .int .i64 a0_2] 25 (0, 0)) (by (with_reducible repeat first | apply bn | apply bd | apply ba); exact BK200.out)) : gb205 ≠ gb200))
       have n9_ := Aside0.mk ((by rw [hg]; exact Nat.ne_of_lt (blk_lt (g := gb201) (o := .cells #[.int .i64 a1_0, .int .i64 a1_1, .int .i64 a1_2, .int .i64 a1_3] 33 (0, 0)) (by (with_reducible repeat first | apply bn | apply bd | apply ba); exact BK201.out)) : gb201 ≠ gb205))
       have n10_ := Aside0.mk ((by rw [hg]; exact Nat.ne_of_gt (blk_lt (g := gb201) (o := .cells #[.int .i64 a1_0, .int .i64 a1_1, .int .i64 a1_2, .int .i64 a1_3] 33 (0, 0)) (by (with_reducible repeat first | apply bn | apply bd | apply ba); exact BK201.out)) : gb205 ≠ gb201))
       have n11_ := Aside0.mk ((by rw [hg]; exact Nat.ne_of_lt (blk_lt (g := gb204) (o := .cells #[.int .i64 0, .int .i64 0, .int .i64 0] 36 (0, 0)) (by (with_reducible repeat first | apply bn | apply bd | apply ba); exact BK204.out)) : gb204 ≠ gb205))
       have n12_ := Aside0.mk ((by rw [hg]; exact Nat.ne_of_gt (blk_lt (g := gb204) (o := .cells #[.int .i64 0, .int .i64 0, .int .i64 0] 36 (0, 0)) (by (with_reducible repeat first | apply bn | apply bd | apply ba); exact BK204.out)) : gb205 ≠ gb204))
       clear BK200
       clear BK201
       clear BK204
       clear HB
       have BK200 := n0_
       have BK201 := n1_
       have BK204 := n2_
       have HB := n3_
       have BK205 := n4_
       have GW205 := n5_
       have GE205 := n6_
       have NB200_205 := n7_
       have NB205_200 := n8_
       have NB201_205 := n9_
       have NB205_201 := n10_
       have NB204_205 := n11_
       have NB205_204 := n12_
       clear n0_ n1_ n2_ n3_ n4_ n5_ n6_ n7_ n8_ n9_ n10_ n11_ n12_
       clear hb hbox hg
       refine hK.out _ _ ⟨(blk_cell BK200.out 0).trans rfl, (blk_cell BK200.out 1).trans rfl, (blk_cell BK200.out 2).trans rfl, (blk_cell BK201.out 0).trans rfl, (blk_cell BK201.out 1).trans rfl, (blk_cell BK201.out 2).trans rfl, (blk_cell BK201.out 3).trans rfl, ((HB.out.cell (World.block_lt_of_cell? w _ hw202_0)).trans hw202_0), ((HB.out.cell (World.block_lt_of_cell? w _ hw202_1)).trans hw202_1), ((HB.out.cell (World.block_lt_of_cell? w _ hw202_2)).trans hw202_2), ((HB.out.cell (World.block_lt_of_cell? w _ hw203_0)).trans hw203_0), ((HB.out.cell (World.block_lt_of_cell? w _ hw203_1)).trans hw203_1), ((HB.out.cell (World.block_lt_of_cell? w _ hw203_2)).trans hw203_2)⟩ (fun hHeld => ?_)
       clear hK K
       refine norm_ (a' := ?_) ?_ ?_
       rotate_left;focus(show Act.put _ (some 6) _ = _;simp only [Act.put, List.setIfInBounds_toArray, List.set_cons_zero, List.set_cons_succ, i64_w];rfl)
       exact norm_ (by simp only [putAll, Act.put, List.setIfInBounds_toArray, List.set_cons_zero, List.set_cons_succ]) (hCont (gb204, gb205) _ ⟨hHeld, (by (with_reducible repeat first | apply bn | apply bd | apply ba); exact BK200.out), (by (with_reducible repeat first | apply bn | apply bd | apply ba); exact BK201.out), (by (with_reducible repeat first | apply bn | apply bd | apply ba); exact BK204.out), (by (with_reducible repeat first | apply bn | apply bd | apply ba); exact BK205.out), GW204.out, GE204.out, NB200_204.out, NB204_200.out, NB201_204.out, NB204_201.out, NB205_204.out, NB204_205.out, GW205.out, GE205.out, NB200_205.out, NB205_200.out, NB201_205.out, NB205_201.out, (by repeat with_reducible first | exact HB.out | apply below_alloc | apply pw_below_drewN | apply below_drew1 | refine below_set ?_ GE200.out | refine below_set ?_ GE201.out | refine below_set ?_ GE204.out | refine below_set ?_ GE205.out)⟩)
      ·skip
       refine box_step ?hg (N := 6) ?hd (cs := #[.int .i64 0, .int .i64 0, .int .i64 0]) (t := 36) ?hr ?_; (case hd => rfl); (case hg => rfl); (case hr => first | (go_simp; done) | (go_simp; rfl))
       intro gb205 hg w11 hbox hb
       have n0_ := Aside0.mk (blk_below (g := gb200) (o := .cells #[.slice (some ad202) l0_0.length c0_0, .slice A0_1 l0_1.length c0_1, .int .i64 a0_2] 25 (0, 0)) (by (with_reducible repeat first | apply bn | apply bd | apply ba); exact BK200.out) hb)
       have n1_ := Aside0.mk (blk_below (g := gb201) (o := .cells #[.int .i64 a1_0, .int .i64 a1_1, .int .i64 a1_2, .int .i64 a1_3] 33 (0, 0)) (by (with_reducible repeat first | apply bn | apply bd | apply ba); exact BK201.out) hb)
       have n2_ := Aside0.mk (below_step (by repeat with_reducible first | exact HB.out | apply below_alloc | apply pw_below_drewN | apply below_drew1 | refine below_set ?_ GE200.out | refine below_set ?_ GE201.out) hb)
       have n3_ := Aside0.mk (hbox)
       have n4_ := Aside0.mk ((by rw [hg]; exact (below_size (by repeat with_reducible first | exact HB.out | apply below_alloc | apply pw_below_drewN | apply below_drew1 | refine below_set ?_ GE200.out | refine below_set ?_ GE201.out)) : w.heap.size ≤ gb205))
       have n5_ := Aside0.mk ((by rw [hg]; exact (below_size (by repeat with_reducible first | exact HB.out | apply below_alloc | apply pw_below_drewN | apply below_drew1 | refine below_set ?_ GE200.out | refine below_set ?_ GE201.out)) : w.heap.size ≤ gb205))
       have n6_ := Aside0.mk ((by rw [hg]; exact Nat.ne_of_lt (blk_lt (g := gb200) (o := .cells #[.slice (some ad202) l0_0.length c0_0, .slice A0_1 l0_1.length c0_1, .int .i64 a0_2] 25 (0, 0)) (by (with_reducible repeat first | apply bn | apply bd | apply ba); exact BK200.out)) : gb200 ≠ gb205))
       have n7_ := Aside0.mk ((by rw [hg]; exact Nat.ne_of_gt (blk_lt (g := gb200) (o := .cells #[.slice (some ad202) l0_0.length c0_0, .slice A0_1 l0_1.length c0_1, .int .i64 a0_2] 25 (0, 0)) (by (with_reducible repeat first | apply bn | apply bd | apply ba); exact BK200.out)) : gb205 ≠ gb200))
       have n8_ := Aside0.mk ((by rw [hg]; exact Nat.ne_of_lt (blk_lt (g := gb201) (o := .cells #[.int .i64 a1_0, .int .i64 a1_1, .int .i64 a1_2, .int .i64 a1_3] 33 (0, 0)) (by (with_reducible repeat first | apply bn | apply bd | apply ba); exact BK201.out)) : gb201 ≠ gb205))
       have n9_ := Aside0.mk ((by rw [hg]; exact Nat.ne_of_gt (blk_lt (g := gb201) (o := .cells #[.int .i64 a1_0, .int .i64 a1_1, .int .i64 a1_2, .int .i64 a1_3] 33 (0, 0)) (by (with_reducible repeat first | apply bn | apply bd | apply ba); exact BK201.out)) : gb205 ≠ gb201))
       clear BK200
       clear BK201
       clear HB
       have BK200 := n0_
       have BK201 := n1_
       have HB := n2_
       have BK205 := n3_
       have GW205 := n4_
       have GE205 := n5_
       have NB200_205 := n6_
       have NB205_200 := n7_
       have NB201_205 := n8_
       have NB205_201 := n9_
       clear n0_ n1_ n2_ n3_ n4_ n5_ n6_ n7_ n8_ n9_
       clear hb hbox hg
       refine hK.out _ _ ⟨(blk_cell BK200.out 0).trans rfl, (blk_cell BK200.out 1).trans rfl, (blk_cell BK200.out 2).trans rfl, (blk_cell BK201.out 0).trans rfl, (blk_cell BK201.out 1).trans rfl, (blk_cell BK201.out 2).trans rfl, (blk_cell BK201.out 3).trans rfl, ((HB.out.cell (World.block_lt_of_cell? w _ hw202_0)).trans hw202_0), ((HB.out.cell (World.block_lt_of_cell? w _ hw202_1)).trans hw202_1), ((HB.out.cell (World.block_lt_of_cell? w _ hw202_2)).trans hw202_2), ((HB.out.cell (World.block_lt_of_cell? w _ hw203_0)).trans hw203_0), ((HB.out.cell (World.block_lt_of_cell? w _ hw203_1)).trans hw203_1), ((HB.out.cell (World.block_lt_of_cell? w _ hw203_2)).trans hw203_2)⟩ (fun hHeld => ?_)
       clear hK K
       refine norm_ (a' := ?_) ?_ ?_
       rotate_left;focus(show Act.put _ (some 6) _ = _;simp only [Act.put, List.setIfInBounds_toArray, List.set_cons_zero, List.set_cons_succ, i64_w];rfl)
       refine one_ (i := 12) (N := some 5) #[true, true, true, true, true, true, true, true, true, true, true, true, true, true, false, false] rfl rfl (one_of HT_.out (by kernel_rfl)) (by decide) (fun K hK => ?_)
       refine box_step ?hg (N := 5) ?hd (cs := #[.int .i64 0, .int .i64 0, .int .i64 0]) (t := 36) ?hr ?_; (case hd => rfl); (case hg => rfl); (case hr => first | (go_simp; done) | (go_simp; rfl))
       intro gb204 hg w12 hbox hb
       have n0_ := Aside0.mk (blk_below (g := gb200) (o := .cells #[.slice (some ad202) l0_0.length c0_0, .slice A0_1 l0_1.length c0_1, .int .i64 a0_2] 25 (0, 0)) (by (with_reducible repeat first | apply bn | apply bd | apply ba); exact BK200.out) hb)
       have n1_ := Aside0.mk (blk_below (g := gb201) (o := .cells #[.int .i64 a1_0, .int .i64 a1_1, .int .i64 a1_2, .int .i64 a1_3] 33 (0, 0)) (by (with_reducible repeat first | apply bn | apply bd | apply ba); exact BK201.out) hb)
       have n2_ := Aside0.mk (blk_below (g := gb205) (o := .cells #[.int .i64 0, .int .i64 0, .int .i64 0] 36 (0, 0)) (by (with_reducible repeat first | apply bn | apply bd | apply ba); exact BK205.out) hb)
       have n3_ := Aside0.mk (below_step (by repeat with_reducible first | exact HB.out | apply below_alloc | apply pw_below_drewN | apply below_drew1 | refine below_set ?_ GE200.out | refine below_set ?_ GE201.out | refine below_set ?_ GE205.out) hb)
       have n4_ := Aside0.mk (hbox)
       have n5_ := Aside0.mk ((by rw [hg]; exact (below_size (by repeat with_reducible first | exact HB.out | apply below_alloc | apply pw_below_drewN | apply below_drew1 | refine below_set ?_ GE200.out | refine below_set ?_ GE201.out | refine below_set ?_ GE205.out)) : w.heap.size ≤ gb204))
       have n6_ := Aside0.mk ((by rw [hg]; exact (below_size (by repeat with_reducible first | exact HB.out | apply below_alloc | apply pw_below_drewN | apply below_drew1 | refine below_set ?_ GE200.out | refine below_set ?_ GE201.out | refine below_set ?_ GE205.out)) : w.heap.size ≤ gb204))
       have n7_ := Aside0.mk ((by rw [hg]; exact Nat.ne_of_lt (blk_lt (g := gb200) (o := .cells #[.slice (some ad202) l0_0.length c0_0, .slice A0_1 l0_1.length c0_1, .int .i64 a0_2] 25 (0, 0)) (by (with_reducible repeat first | apply bn | apply bd | apply ba); exact BK200.out)) : gb200 ≠ gb204))
       have n8_ := Aside0.mk ((by rw [hg]; exact Nat.ne_of_gt (blk_lt (g := gb200) (o := .cells #[.slice (some ad202) l0_0.length c0_0, .slice A0_1 l0_1.length c0_1, .int .i64 a0_2] 25 (0, 0)) (by (with_reducible repeat first | apply bn | apply bd | apply ba); exact BK200.out)) : gb204 ≠ gb200))
       have n9_ := Aside0.mk ((by rw [hg]; exact Nat.ne_of_lt (blk_lt (g := gb201) (o := .cells #[.int .i64 a1_0, .int .i64 a1_1, .int .i64 a1_2, .int .i64 a1_3] 33 (0, 0)) (by (with_reducible repeat first | apply bn | apply bd | apply ba); exact BK201.out)) : gb201 ≠ gb204))
       have n10_ := Aside0.mk ((by rw [hg]; exact Nat.ne_of_gt (blk_lt (g := gb201) (o := .cells #[.int .i64 a1_0, .int .i64 a1_1, .int .i64 a1_2, .int .i64 a1_3] 33 (0, 0)) (by (with_reducible repeat first | apply bn | apply bd | apply ba); exact BK201.out)) : gb204 ≠ gb201))
       have n11_ := Aside0.mk ((by rw [hg]; exact Nat.ne_of_lt (blk_lt (g := gb205) (o := .cells #[.int .i64 0, .int .i64 0, .int .i64 0] 36 (0, 0)) (by (with_reducible repeat first | apply bn | apply bd | apply ba); exact BK205.out)) : gb205 ≠ gb204))
       have n12_ := Aside0.mk ((by rw [hg]; exact Nat.ne_of_gt (blk_lt (g := gb205) (o := .cells #[.int .i64 0, .int .i64 0, .int .i64 0] 36 (0, 0)) (by (with_reducible repeat first | apply bn | apply bd | apply ba); exact BK205.out)) : gb204 ≠ gb205))
       clear BK200
       clear BK201
       clear BK205
       clear HB
       have BK200 := n0_
       have BK201 := n1_
       have BK205 := n2_
       have HB := n3_
       have BK204 := n4_
       have GW204 := n5_
       have GE204 := n6_
       have NB200_204 := n7_
       have NB204_200 := n8_
       have NB201_204 := n9_
       have NB204_201 := n10_
       have NB205_204 := n11_
       have NB204_205 := n12_
       clear n0_ n1_ n2_ n3_ n4_ n5_ n6_ n7_ n8_ n9_ n10_ n11_ n12_
       clear hb hbox hg
       refine hK.out _ _ ⟨(blk_cell BK200.out 0).trans rfl, (blk_cell BK200.out 1).trans rfl, (blk_cell BK200.out 2).trans rfl, (blk_cell BK201.out 0).trans rfl, (blk_cell BK201.out 1).trans rfl, (blk_cell BK201.out 2).trans rfl, (blk_cell BK201.out 3).trans rfl, ((HB.out.cell (World.block_lt_of_cell? w _ hw202_0)).trans hw202_0), ((HB.out.cell (World.block_lt_of_cell? w _ hw202_1)).trans hw202_1), ((HB.out.cell (World.block_lt_of_cell? w _ hw202_2)).trans hw202_2), ((HB.out.cell (World.block_lt_of_cell? w _ hw203_0)).trans hw203_0), ((HB.out.cell (World.block_lt_of_cell? w _ hw203_1)).trans hw203_1), ((HB.out.cell (World.block_lt_of_cell? w _ hw203_2)).trans hw203_2)⟩ (fun hHeld => ?_)
       clear hK K
       refine norm_ (a' := ?_) ?_ ?_
       rotate_left;focus(show Act.put _ (some 5) _ = _;simp only [Act.put, List.setIfInBounds_toArray, List.set_cons_zero, List.set_cons_succ, i64_w];rfl)
       exact norm_ (by simp only [putAll, Act.put, List.setIfInBounds_toArray, List.set_cons_zero, List.set_cons_succ]) (hCont (gb204, gb205) _ ⟨hHeld, (by (with_reducible repeat first | apply bn | apply bd | apply ba); exact BK200.out), (by (with_reducible repeat first | apply bn | apply bd | apply ba); exact BK201.out), (by (with_reducible repeat first | apply bn | apply bd | apply ba); exact BK204.out), (by (with_reducible repeat first | apply bn | apply bd | apply ba); exact BK205.out), GW204.out, GE204.out, NB200_204.out, NB204_200.out, NB201_204.out, NB204_201.out, NB205_204.out, NB204_205.out, GW205.out, GE205.out, NB200_205.out, NB205_200.out, NB201_205.out, NB205_201.out, (by repeat with_reducible first | exact HB.out | apply below_alloc | apply pw_below_drewN | apply below_drew1 | refine below_set ?_ GE200.out | refine below_set ?_ GE201.out | refine below_set ?_ GE205.out | refine below_set ?_ GE204.out)⟩)
     rintro ⟨gb204, gb205⟩ w13 ⟨hS_, h0_, h1_, h2_, h3_, h4_, h5_, h6_, h7_, h8_, h9_, h10_, h11_, h12_, h13_, h14_, h15_, h16_, h17_, h18_⟩
     have n0_ : Aside0 (w13.heap[gb200]? = some (.cells #[.slice (some ad202) l0_0.length c0_0, .slice A0_1 l0_1.length c0_1, .int .i64 a0_2] 25 (0, 0))) := ⟨h0_⟩
     have n1_ : Aside0 (w13.heap[gb201]? = some (.cells #[.int .i64 a1_0, .int .i64 a1_1, .int .i64 a1_2, .int .i64 a1_3] 33 (0, 0))) := ⟨h1_⟩
     have n2_ : Aside0 (w13.heap[gb204]? = some (.cells #[.int .i64 0, .int .i64 0, .int .i64 0] 36 (0, 0))) := ⟨h2_⟩
     have n3_ : Aside0 (w13.heap[gb205]? = some (.cells #[.int .i64 0, .int .i64 0, .int .i64 0] 36 (0, 0))) := ⟨h3_⟩
     have n4_ : Aside0 (w.heap.size ≤ gb204) := ⟨h4_⟩
     have n5_ : Aside0 (w.heap.size ≤ gb204) := ⟨h5_⟩
     have n6_ : Aside0 (gb200 ≠ gb204) := ⟨h6_⟩
     have n7_ : Aside0 (gb204 ≠ gb200) := ⟨h7_⟩
     have n8_ : Aside0 (gb201 ≠ gb204) := ⟨h8_⟩
     have n9_ : Aside0 (gb204 ≠ gb201) := ⟨h9_⟩
     have n10_ : Aside0 (gb205 ≠ gb204) := ⟨h10_⟩
     have n11_ : Aside0 (gb204 ≠ gb205) := ⟨h11_⟩
     have n12_ : Aside0 (w.heap.size ≤ gb205) := ⟨h12_⟩
     have n13_ : Aside0 (w.heap.size ≤ gb205) := ⟨h13_⟩
     have n14_ : Aside0 (gb200 ≠ gb205) := ⟨h14_⟩
     have n15_ : Aside0 (gb205 ≠ gb200) := ⟨h15_⟩
     have n16_ : Aside0 (gb201 ≠ gb205) := ⟨h16_⟩
     have n17_ : Aside0 (gb205 ≠ gb201) := ⟨h17_⟩
     have n18_ : Aside0 (Below w.heap.size w w13) := ⟨h18_⟩
     clear BK200
     clear BK201
     clear HB
     clear h0_ h1_ h2_ h3_ h4_ h5_ h6_ h7_ h8_ h9_ h10_ h11_ h12_ h13_ h14_ h15_ h16_ h17_ h18_
     have BK200 := n0_
     have BK201 := n1_
     have BK204 := n2_
     have BK205 := n3_
     have GW204 := n4_
     have GE204 := n5_
     have NB200_204 := n6_
     have NB204_200 := n7_
     have NB201_204 := n8_
     have NB204_201 := n9_
     have NB205_204 := n10_
     have NB204_205 := n11_
     have GW205 := n12_
     have GE205 := n13_
     have NB200_205 := n14_
     have NB205_200 := n15_
     have NB201_205 := n16_
     have NB205_201 := n17_
     have HB := n18_
     clear n0_ n1_ n2_ n3_ n4_ n5_ n6_ n7_ n8_ n9_ n10_ n11_ n12_ n13_ n14_ n15_ n16_ n17_ n18_
     have hHeld : w13.cell? ⟨gb200, 0, none⟩ = some (.slice (some ad202) l0_0.length c0_0) ∧ w13.cell? ⟨gb200, 1, none⟩ = some (.slice A0_1 l0_1.length c0_1) ∧ w13.cell? ⟨gb200, 2, none⟩ = some (.int .i64 a0_2) ∧ w13.cell? ⟨gb201, 0, none⟩ = some (.int .i64 a1_0) ∧ w13.cell? ⟨gb201, 1, none⟩ = some (.int .i64 a1_1) ∧ w13.cell? ⟨gb201, 2, none⟩ = some (.int .i64 a1_2) ∧ w13.cell? ⟨gb201, 3, none⟩ = some (.int .i64 a1_3) ∧ w13.cell? (ad202.add ((a1_0).toNat * 3)) = some (.int .i64 ((rd_T36 l0_0 a1_0).f0)) ∧ w13.cell? ⟨(ad202.add ((a1_0).toNat * 3)).block, (ad202.add ((a1_0).toNat * 3)).off + 1, none⟩ = some (.int .i64 ((rd_T36 l0_0 a1_0).f1)) ∧ w13.cell? ⟨(ad202.add ((a1_0).toNat * 3)).block, (ad202.add ((a1_0).toNat * 3)).off + 2, none⟩ = some (.int .i64 ((rd_T36 l0_0 a1_0).f2)) ∧ w13.cell? (ad202.add ((a1_1).toNat * 3)) = some (.int .i64 ((rd_T36 l0_0 a1_1).f0)) ∧ w13.cell? ⟨(ad202.add ((a1_1).toNat * 3)).block, (ad202.add ((a1_1).toNat * 3)).off + 1, none⟩ = some (.int .i64 ((rd_T36 l0_0 a1_1).f1)) ∧ w13.cell? ⟨(ad202.add ((a1_1).toNat * 3)).block, (ad202.add ((a1_1).toNat * 3)).off + 2, none⟩ = some (.int .i64 ((rd_T36 l0_0 a1_1).f2)) := hS_
     refine norm_ (a' := ?_) ?_ ?_
     rotate_left;focus(simp only [putAll, Act.put, List.setIfInBounds_toArray, List.set_cons_zero, List.set_cons_succ];rfl)
     refine one_ (i := 14) (N := none) #[true, true, true, true, true, true, true, true, true, true, true, true, true, true, true, false] rfl rfl (one_of HT_.out (by kernel_rfl)) (by decide) (fun K hK => ?_)
     have hs14 : w13.cell? ⟨gb204, 0, none⟩ = some (.int .i64 0) := (blk_cell BK204.out 0).trans rfl
     have hfs14 := blk_frozen BK204.out 0
     have hns14_0 := NB200_204.out
     have hns14_1 := NB201_204.out
     have hns14_3 := NB205_204.out
     have hms14_0 := NB204_200.out
     have hms14_1 := NB204_201.out
     have hms14_3 := NB204_205.out
     have hs15 : w13.cell? ⟨gb204, 1, none⟩ = some (.int .i64 0) := (blk_cell BK204.out 1).trans rfl
     have hfs15 := blk_frozen BK204.out 1
     have hns15_0 := NB200_204.out
     have hns15_1 := NB201_204.out
     have hns15_3 := NB205_204.out
     have hms15_0 := NB204_200.out
     have hms15_1 := NB204_201.out
     have hms15_3 := NB204_205.out
     have hs16 : w13.cell? ⟨gb204, 2, none⟩ = some (.int .i64 0) := (blk_cell BK204.out 2).trans rfl
     have hfs16 := blk_frozen BK204.out 2
     have hns16_0 := NB200_204.out
     have hns16_1 := NB201_204.out
     have hns16_3 := NB205_204.out
     have hms16_0 := NB204_200.out
     have hms16_1 := NB204_201.out
     have hms16_3 := NB204_205.out
     refine skip_ (w1 := ?_) (by rfl) rfl ?_ ?_
     rotate_left;focus(go_simp;rfl)
     refine hK.out _ _ ⟨(far3 (g := gb204) NB200_204.out (hHeld.1)), (far3 (g := gb204) NB200_204.out (hHeld.2.1)), (far3 (g := gb204) NB200_204.out (hHeld.2.2.1)), (far3 (g := gb204) NB201_204.out (hHeld.2.2.2.1)), (far3 (g := gb204) NB201_204.out (hHeld.2.2.2.2.1)), (far3 (g := gb204) NB201_204.out (hHeld.2.2.2.2.2.1)), (far3 (g := gb204) NB201_204.out (hHeld.2.2.2.2.2.2.1)), (far3 (g := gb204) (ltw hw202_0 GW204.out) (hHeld.2.2.2.2.2.2.2.1)), (far3 (g := gb204) (ltw hw202_1 GW204.out) (hHeld.2.2.2.2.2.2.2.2.1)), (far3 (g := gb204) (ltw hw202_2 GW204.out) (hHeld.2.2.2.2.2.2.2.2.2.1)), (far3 (g := gb204) (ltw hw203_0 GW204.out) (hHeld.2.2.2.2.2.2.2.2.2.2.1)), (far3 (g := gb204) (ltw hw203_1 GW204.out) (hHeld.2.2.2.2.2.2.2.2.2.2.2.1)), (far3 (g := gb204) (ltw hw203_2 GW204.out) (hHeld.2.2.2.2.2.2.2.2.2.2.2.2))⟩ (fun hHeld => ?_)
     clear hK K
     refine one_ (i := 15) (N := none) #[true, true, true, true, true, true, true, true, true, true, true, true, true, true, true, true] rfl rfl (one_of HT_.out (by kernel_rfl)) (by decide) (fun K hK => ?_)
     have hs17 : w13.cell? ⟨gb205, 0, none⟩ = some (.int .i64 0) := (blk_cell BK205.out 0).trans rfl
     have hfs17 := blk_frozen BK205.out 0
     have hns17_0 := NB200_205.out
     have hns17_1 := NB201_205.out
     have hns17_2 := NB204_205.out
     have hms17_0 := NB205_200.out
     have hms17_1 := NB205_201.out
     have hms17_2 := NB205_204.out
     have hs18 : w13.cell? ⟨gb205, 1, none⟩ = some (.int .i64 0) := (blk_cell BK205.out 1).trans rfl
     have hfs18 := blk_frozen BK205.out 1
     have hns18_0 := NB200_205.out
     have hns18_1 := NB201_205.out
     have hns18_2 := NB204_205.out
     have hms18_0 := NB205_200.out
     have hms18_1 := NB205_201.out
     have hms18_2 := NB205_204.out
     have hs19 : w13.cell? ⟨gb205, 2, none⟩ = some (.int .i64 0) := (blk_cell BK205.out 2).trans rfl
     have hfs19 := blk_frozen BK205.out 2
     have hns19_0 := NB200_205.out
     have hns19_1 := NB201_205.out
     have hns19_2 := NB204_205.out
     have hms19_0 := NB205_200.out
     have hms19_1 := NB205_201.out
     have hms19_2 := NB205_204.out
     refine skip_ (w1 := ?_) (by rfl) rfl ?_ ?_
     rotate_left;focus(go_simp;rfl)
     refine hK.out _ _ ⟨(far3 (g := gb205) NB200_205.out (hHeld.1)), (far3 (g := gb205) NB200_205.out (hHeld.2.1)), (far3 (g := gb205) NB200_205.out (hHeld.2.2.1)), (far3 (g := gb205) NB201_205.out (hHeld.2.2.2.1)), (far3 (g := gb205) NB201_205.out (hHeld.2.2.2.2.1)), (far3 (g := gb205) NB201_205.out (hHeld.2.2.2.2.2.1)), (far3 (g := gb205) NB201_205.out (hHeld.2.2.2.2.2.2.1)), (far3 (g := gb205) (ltw hw202_0 GW205.out) (hHeld.2.2.2.2.2.2.2.1)), (far3 (g := gb205) (ltw hw202_1 GW205.out) (hHeld.2.2.2.2.2.2.2.2.1)), (far3 (g := gb205) (ltw hw202_2 GW205.out) (hHeld.2.2.2.2.2.2.2.2.2.1)), (far3 (g := gb205) (ltw hw203_0 GW205.out) (hHeld.2.2.2.2.2.2.2.2.2.2.1)), (far3 (g := gb205) (ltw hw203_1 GW205.out) (hHeld.2.2.2.2.2.2.2.2.2.2.2.1)), (far3 (g := gb205) (ltw hw203_2 GW205.out) (hHeld.2.2.2.2.2.2.2.2.2.2.2.2))⟩ (fun hHeld => ?_)
     clear hK K
     refine done_ (done_of HT_.out (by kernel_rfl)) ?_
     have hnb20 := NB201_200.out
     have hnc20 := NB200_201.out
     have hnb21 := NB201_204.out
     have hnc21 := NB204_201.out
     have hnb22 := NB201_205.out
     have hnc22 := NB205_201.out
     have hcz23_0 : w13.cell? ⟨gb201, 0, none⟩ = some (.int .i64 a1_0) := (blk_cell BK201.out 0).trans rfl
     have hcz23_1 : w13.cell? ⟨gb201, 1, none⟩ = some (.int .i64 a1_1) := (blk_cell BK201.out 1).trans rfl
     have hcz23_2 : w13.cell? ⟨gb201, 2, none⟩ = some (.int .i64 a1_2) := (blk_cell BK201.out 2).trans rfl
     have hcz23_3 : w13.cell? ⟨gb201, 3, none⟩ = some (.int .i64 a1_3) := (blk_cell BK201.out 3).trans rfl
     have hfz23_0 := blk_frozen BK201.out 0
     have hfz23_1 := blk_frozen BK201.out 1
     have hfz23_2 := blk_frozen BK201.out 2
     have hfz23_3 := blk_frozen BK201.out 3
     go_upto_if 23 with (fail)
     go_cut [23] (fun v23 wc => ∃ (kq : Nat) (x23_6 : Bool), v23 = .bool x23_6 ∧ Aside0 (super_fits.j0 kq false l0_0 a1_2 x23_6 a1_0 a1_1 a1_2 a1_3 ((rd_T36 l0_0 a1_0).f0) ((rd_T36 l0_0 a1_0).f1) ((rd_T36 l0_0 a1_0).f2) ((rd_T36 l0_0 a1_1).f0) ((rd_T36 l0_0 a1_1).f1) ((rd_T36 l0_0 a1_1).f2) = some r) ∧ Aside0 (kq ≤ k) ∧ Aside0 (wc.heap[gb200]? = some (.cells #[(.slice (some ad202) l0_0.length c0_0), (.slice A0_1 l0_1.length c0_1), .int .i64 a0_2] 25 (0, 0))) ∧ Aside0 (wc.heap[gb201]? = some (.cells #[.int .i64 a1_0, .int .i64 a1_1, .int .i64 a1_2, .int .i64 a1_3] 33 (0, 0))) ∧ Aside0 (wc.heap[gb204]? = some (.cells #[.int .i64 ((rd_T36 l0_0 a1_0).f0), .int .i64 ((rd_T36 l0_0 a1_0).f1), .int .i64 ((rd_T36 l0_0 a1_0).f2)] 36 (0, 0))) ∧ Aside0 (wc.heap[gb205]? = some (.cells #[.int .i64 ((rd_T36 l0_0 a1_1).f0), .int .i64 ((rd_T36 l0_0 a1_1).f1), .int .i64 ((rd_T36 l0_0 a1_1).f2)] 36 (0, 0))) ∧ Aside0 (Below w.heap.size w wc))
     case first =>
      have H := HC7.out
      clear HC7
      by_cases c24 : a1_2 = 1
      ·rw [if_pos c24] at H
       have c24b0 : (a1_2 == 1) = true := beq_iff_eq.mpr c24
       have c24b1 : (a1_2 != 1) = false := bne_eq_false_iff_eq.mpr c24
       clear c24
       (first | rw [c24b0] | (simp only [i64_w, i32_w]; rw [c24b0]) | skip)
       have H' := Aside0.mk H
       clear H
       go_wp2
       go_meet
       case rel => exact ⟨_, ((a1_2 == 1)), (by first | rfl | (simp; done) | (simp [*]; done)), H', ⟨by first | omega | exact Nat.le_refl _⟩, ⟨by (with_reducible repeat first | apply bn | apply bd | apply ba); refine blk_far ?_ NB200_205.out _; refine blk_far ?_ NB200_205.out _; refine blk_far ?_ NB200_205.out _; refine blk_far ?_ NB200_204.out _; refine blk_far ?_ NB200_204.out _; refine blk_far ?_ NB200_204.out _; (with_reducible repeat first | apply bn | apply bd | apply ba); exact BK200.out⟩, ⟨by (with_reducible repeat first | apply bn | apply bd | apply ba); refine blk_far ?_ NB201_205.out _; refine blk_far ?_ NB201_205.out _; refine blk_far ?_ NB201_205.out _; refine blk_far ?_ NB201_204.out _; refine blk_far ?_ NB201_204.out _; refine blk_far ?_ NB201_204.out _; (with_reducible repeat first | apply bn | apply bd | apply ba); exact BK201.out⟩, ⟨by (with_reducible repeat first | apply bn | apply bd | apply ba); refine blk_far ?_ NB204_205.out _; refine blk_far ?_ NB204_205.out _; refine blk_far ?_ NB204_205.out _; refine blk_put (cs := #[.int .i64 ((rd_T36 l0_0 a1_0).f0), .int .i64 ((rd_T36 l0_0 a1_0).f1), .int .i64 0]) ?_ 2 _ rfl; refine blk_put (cs := #[.int .i64 ((rd_T36 l0_0 a1_0).f0), .int .i64 0, .int .i64 0]) ?_ 1 _ rfl; refine blk_put (cs := #[.int .i64 0, .int .i64 0, .int .i64 0]) ?_ 0 _ rfl; (with_reducible repeat first | apply bn | apply bd | apply ba); exact BK204.out⟩, ⟨by (with_reducible repeat first | apply bn | apply bd | apply ba); refine blk_put (cs := #[.int .i64 ((rd_T36 l0_0 a1_1).f0), .int .i64 ((rd_T36 l0_0 a1_1).f1), .int .i64 0]) ?_ 2 _ rfl; refine blk_put (cs := #[.int .i64 ((rd_T36 l0_0 a1_1).f0), .int .i64 0, .int .i64 0]) ?_ 1 _ rfl; refine blk_put (cs := #[.int .i64 0, .int .i64 0, .int .i64 0]) ?_ 0 _ rfl; refine blk_far ?_ NB205_204.out _; refine blk_far ?_ NB205_204.out _; refine blk_far ?_ NB205_204.out _; (with_reducible repeat first | apply bn | apply bd | apply ba); exact BK205.out⟩, ⟨by repeat with_reducible first | exact HB.out | apply below_alloc | apply pw_below_drewN | apply below_drew1 | refine below_set ?_ GE200.out | refine below_set ?_ GE201.out | refine below_set ?_ GE204.out | refine below_set ?_ GE205.out⟩⟩
      ·rw [if_neg c24] at H
       exact absurd H (by simp)
     case rest =>
      clear HC7
      (try clear c2);(try clear p2);(try clear q2);(try clear hx2);(try clear c3);(try clear c3b0);(try clear c4);(try clear c4b0);(try clear c5);(try clear c5b0);(try clear c6);(try clear c6b0);(try clear c20);(try clear p20);(try clear q20);(try clear hx20);(try clear c21);(try clear c22);(try clear c24);(try clear c24b0);(try clear c24b1);(try clear hcz23_0);(try clear hcz23_1);(try clear hcz23_2);(try clear hcz23_3);(try clear hfz23_0);(try clear hfz23_1);(try clear hfz23_2);(try clear hfz23_3);(try clear hx202_0);(try clear hx202_1);(try clear hx202_2);(try clear hx203_0);(try clear hx203_1);(try clear hx203_2);(try clear p202);(try clear p203);(try clear q202);(try clear q203)
      obtain ⟨kq, x23_6, rfl, HA, HJ6, BK200, BK201, BK204, BK205, HB⟩ := hcut
      cases kq with
      | zero => exact absurd HA.out (by simp [super_fits.j0])
      | succ kj6 =>
       have H := HA.out
       clear HA
       simp only [super_fits.j0] at H
       by_cases c25 : x23_6 = true
       ·subst c25
        have H1 : (if a1_2 = 5 then (none) else (if ((rd_T36 l0_0 a1_0).f0) = ((rd_T36 l0_0 a1_1).f0) then (if ((rd_T36 l0_0 a1_0).f1) = 3 then (none) else (if ((rd_T36 l0_0 a1_0).f1) = 4 then (none) else (some (((rd_T36 l0_0 a1_1).f1) != 1)))) else (none))) = some r := by rw [if_pos rfl] at H; exact H
        clear H
        have H := H1
        clear H1
        by_cases c26 : a1_2 = 5
        ·rw [if_pos c26] at H
         exact absurd H (by simp)
        ·rw [if_neg c26] at H
         have c26b0 : (a1_2 == 5) = false := beq_eq_false_iff_ne.mpr c26
         have c26b1 : (a1_2 != 5) = true := bne_iff_ne.mpr c26
         by_cases c76 : ((rd_T36 l0_0 a1_0).f0) = ((rd_T36 l0_0 a1_1).f0)
         ·rw [if_pos c76] at H
          have c76b0 : (((rd_T36 l0_0 a1_0).f0) == ((rd_T36 l0_0 a1_1).f0)) = true := beq_iff_eq.mpr c76
          have c76b1 : (((rd_T36 l0_0 a1_0).f0) != ((rd_T36 l0_0 a1_1).f0)) = false := bne_eq_false_iff_eq.mpr c76
          clear c76
          by_cases c77 : ((rd_T36 l0_0 a1_0).f1) = 3
          ·rw [if_pos c77] at H
           exact absurd H (by simp)
          ·rw [if_neg c77] at H
           have c77b0 : (((rd_T36 l0_0 a1_0).f1) == 3) = false := beq_eq_false_iff_ne.mpr c77
           have c77b1 : (((rd_T36 l0_0 a1_0).f1) != 3) = true := bne_iff_ne.mpr c77
           by_cases c87 : ((rd_T36 l0_0 a1_0).f1) = 4
           ·rw [if_pos c87] at H
            exact absurd H (by simp)
           ·rw [if_neg c87] at H
            have c87b0 : (((rd_T36 l0_0 a1_0).f1) == 4) = false := beq_eq_false_iff_ne.mpr c87
            have c87b1 : (((rd_T36 l0_0 a1_0).f1) != 4) = true := bne_iff_ne.mpr c87
            obtain rfl := Option.some.inj H
            have hnb97 := NB201_200.out
            have hnc97 := NB200_201.out
            have hnb98 := NB201_204.out
            have hnc98 := NB204_201.out
            have hnb99 := NB201_205.out
            have hnc99 := NB205_201.out
            have hcz100_0 : wc.cell? ⟨gb201, 0, none⟩ = some (.int .i64 a1_0) := (blk_cell BK201.out 0).trans rfl
            have hcz100_1 : wc.cell? ⟨gb201, 1, none⟩ = some (.int .i64 a1_1) := (blk_cell BK201.out 1).trans rfl
            have hcz100_2 : wc.cell? ⟨gb201, 2, none⟩ = some (.int .i64 a1_2) := (blk_cell BK201.out 2).trans rfl
            have hcz100_3 : wc.cell? ⟨gb201, 3, none⟩ = some (.int .i64 a1_3) := (blk_cell BK201.out 3).trans rfl
            have hfz100_0 := blk_frozen BK201.out 0
            have hfz100_1 := blk_frozen BK201.out 1
            have hfz100_2 := blk_frozen BK201.out 2
            have hfz100_3 := blk_frozen BK201.out 3
            have hnb101 := NB204_200.out
            have hnc101 := NB200_204.out
            have hnb102 := NB204_205.out
            have hnc102 := NB205_204.out
            have hcz103_0 : wc.cell? ⟨gb204, 0, none⟩ = some (.int .i64 ((rd_T36 l0_0 a1_0).f0)) := (blk_cell BK204.out 0).trans rfl
            have hcz103_1 : wc.cell? ⟨gb204, 1, none⟩ = some (.int .i64 ((rd_T36 l0_0 a1_0).f1)) := (blk_cell BK204.out 1).trans rfl
            have hcz103_2 : wc.cell? ⟨gb204, 2, none⟩ = some (.int .i64 ((rd_T36 l0_0 a1_0).f2)) := (blk_cell BK204.out 2).trans rfl
            have hfz103_0 := blk_frozen BK204.out 0
            have hfz103_1 := blk_frozen BK204.out 1
            have hfz103_2 := blk_frozen BK204.out 2
            have hnb104 := NB205_200.out
            have hnc104 := NB200_205.out
            have hcz105_0 : wc.cell? ⟨gb205, 0, none⟩ = some (.int .i64 ((rd_T36 l0_0 a1_1).f0)) := (blk_cell BK205.out 0).trans rfl
            have hcz105_1 : wc.cell? ⟨gb205, 1, none⟩ = some (.int .i64 ((rd_T36 l0_0 a1_1).f1)) := (blk_cell BK205.out 1).trans rfl
            have hcz105_2 : wc.cell? ⟨gb205, 2, none⟩ = some (.int .i64 ((rd_T36 l0_0 a1_1).f2)) := (blk_cell BK205.out 2).trans rfl
            have hfz105_0 := blk_frozen BK205.out 0
            have hfz105_1 := blk_frozen BK205.out 1
            have hfz105_2 := blk_frozen BK205.out 2
            go_wp2
            go_ret
            exact ⟨by first | rfl | (simp [errW_none, errW_some] <;> rfl) | (simp [*, errW_none, errW_some] <;> rfl), by repeat with_reducible first | exact HB.out | apply below_alloc | apply pw_below_drewN | apply below_drew1 | refine below_set ?_ GE200.out | refine below_set ?_ GE201.out | refine below_set ?_ GE204.out | refine below_set ?_ GE205.out⟩
         ·rw [if_neg c76] at H
          exact absurd H (by simp)
       ·replace c25 := Bool.eq_false_iff.mpr c25
        subst c25
        have H1 : (if a1_2 = 2 then (if 0 ≤ (-1) then (if (-1) < (l0_0.length : Int) then (none) else (none)) else (none)) else (if 0 ≤ (-1) then (if (-1) < (l0_0.length : Int) then (none) else (none)) else (none))) = some r := by rw [if_neg (show ¬ (false = true) by decide)] at H; exact H
        clear H
        have H := H1
        clear H1
        by_cases c115 : a1_2 = 2
        ·rw [if_pos c115] at H
         have c115b0 : (a1_2 == 2) = true := beq_iff_eq.mpr c115
         have c115b1 : (a1_2 != 2) = false := bne_eq_false_iff_eq.mpr c115
         clear c115
         by_cases c116 : 0 ≤ (-1)
         ·exact absurd c116 (by decide)
         ·rw [if_neg c116] at H
          exact absurd H (by simp)
        ·rw [if_neg c115] at H
         have c115b0 : (a1_2 == 2) = false := beq_eq_false_iff_ne.mpr c115
         have c115b1 : (a1_2 != 2) = true := bne_iff_ne.mpr c115
         by_cases c118 : 0 ≤ (-1)
         ·exact absurd c118 (by decide)
         ·rw [if_neg c118] at H
          exact absurd H (by simp)
    ·rw [if_neg c6] at H
     exact absurd H (by simp)
   ·rw [if_neg c5] at H
    exact absurd H (by simp)
  ·rw [if_neg c4] at H
   exact absurd H (by simp)
 ·rw [if_neg c3] at H
  exact absurd H (by simp)

end Go.Proofs.Ytbmhpnegigccnaa.PS
