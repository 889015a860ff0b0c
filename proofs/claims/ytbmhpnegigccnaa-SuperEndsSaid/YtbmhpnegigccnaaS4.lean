/- Printed by a program of this session out of the translation: plain functions with the answers of the Go functions, and the proofs that they have them. -/
import Derived.Test.YtbmhpnegigccnaaPSx0
namespace Go.Proofs.Ytbmhpnegigccnaa.PS
open Go.RowKit Go.Proofs.YtbmhpnegigccnaaW.PrintWords Go.Proofs.YtbmhpnegigccnaaW.PrintLast Go.Proofs.YtbmhpnegigccnaaW.PrintMore
attribute [local go_sem] max2_int min2_int max_two min_two max_three min_three max_four min_four   -- for this text's walks alone
set_option linter.unusedVariables false
set_option linter.unusedSimpArgs false

/-! ### fitsA: function 13 -/
def fitsA.j0 : Nat → Bool → List (S36) → Int → Bool → Int → Int → Int → Int → Int → Int → Int → Int → Int → Int → Option (Bool)
 | 0, _, _, _, _, _, _, _, _, _, _, _, _, _, _ => none
 | k + 1, x4, x9, x21, x22, x130000, x130001, x130002, x130003, x133000, x133001, x133002, x134000, x134001, x134002 => if x22 = true then (if x133000 = x134000 then (if x133001 = 3 then (some false) else (if x133001 = 4 then (some false) else (if x134001 = 1 then (some false) else (if x130002 = 1 then (some true) else (some (x133001 == 2)))))) else (some false)) else (if x21 = 2 then (if 0 ≤ (-1) then (if (-1) < (x9.length : Int) then (some x4) else (none)) else (none)) else (if 0 ≤ (-1) then (if (-1) < (x9.length : Int) then (some x4) else (none)) else (none)))
def fitsA.f (k : Nat) (l0_0 : List (S36)) (l0_1 : List (S33)) (a0_2 : Int) (a1_0 : Int) (a1_1 : Int) (a1_2 : Int) (a1_3 : Int) : Option (Bool) := if 0 ≤ a1_0 then (if a1_0 < (l0_0.length : Int) then (if 0 ≤ a1_1 then (if a1_1 < (l0_0.length : Int) then (if a1_2 = 1 then (fitsA.j0 k false l0_0 a1_2 (a1_2 == 1) a1_0 a1_1 a1_2 a1_3 ((rd_T36 l0_0 a1_0).f0) ((rd_T36 l0_0 a1_0).f1) ((rd_T36 l0_0 a1_0).f2) ((rd_T36 l0_0 a1_1).f0) ((rd_T36 l0_0 a1_1).f1) ((rd_T36 l0_0 a1_1).f2)) else (fitsA.j0 k false l0_0 a1_2 (a1_2 == 5) a1_0 a1_1 a1_2 a1_3 ((rd_T36 l0_0 a1_0).f0) ((rd_T36 l0_0 a1_0).f1) ((rd_T36 l0_0 a1_0).f2) ((rd_T36 l0_0 a1_1).f0) ((rd_T36 l0_0 a1_1).f1) ((rd_T36 l0_0 a1_1).f2))) else (none)) else (none)) else (none)) else (none)
theorem fitsA.mono_l : ∀ k, (∀ y0 y1 y2 y3 y4 y5 y6 y7 y8 y9 y10 y11 y12 y13, LeO (fitsA.j0 k y0 y1 y2 y3 y4 y5 y6 y7 y8 y9 y10 y11 y12 y13) (fitsA.j0 (k + 1) y0 y1 y2 y3 y4 y5 y6 y7 y8 y9 y10 y11 y12 y13))
 | 0 => fun _ _ _ _ _ _ _ _ _ _ _ _ _ _ r h => by simp [fitsA.j0] at h
 | k + 1 => by
  have ih0 := fitsA.mono_l k
  ·intro y0 y1 y2 y3 y4 y5 y6 y7 y8 y9 y10 y11 y12 y13
   unfold fitsA.j0
   repeat' first
   | (with_reducible exact ih0 _ _ _ _ _ _ _ _ _ _ _ _ _ _)
   | (with_reducible exact LeO.refl _)
   | (with_reducible exact LeO.none _)
   | (with_reducible refine LeO.ite ?_ ?_)
   | (with_reducible refine LeO.bind ?_ (fun _ => ?_))
   | exact ih0 _ _ _ _ _ _ _ _ _ _ _ _ _ _
   | exact LeO.none _
   | refine LeO.ite ?_ ?_
   | refine LeO.bind ?_ (fun _ => ?_)
theorem fitsA.mono : ∀ a0 a1 a2 a3 a4 a5 a6 k, LeO (fitsA.f k a0 a1 a2 a3 a4 a5 a6) (fitsA.f (k + 1) a0 a1 a2 a3 a4 a5 a6) := by
 intro a0 a1 a2 a3 a4 a5 a6 k
 have ih0 := fitsA.mono_l k
 unfold fitsA.f
 repeat' first
   | (with_reducible exact ih0 _ _ _ _ _ _ _ _ _ _ _ _ _ _)
   | (with_reducible exact LeO.refl _)
   | (with_reducible exact LeO.none _)
   | (with_reducible refine LeO.ite ?_ ?_)
   | (with_reducible refine LeO.bind ?_ (fun _ => ?_))
   | exact ih0 _ _ _ _ _ _ _ _ _ _ _ _ _ _
   | exact LeO.none _
   | refine LeO.ite ?_ ?_
   | refine LeO.bind ?_ (fun _ => ?_)
def fitsA.T1 : Bool × List (List Nat × List Nat) := (true, [([], []), ([0], [0]), ([], []), ([2], [2]), ([1, 3], [1, 3]), ([4], [4]), ([], []), ([6], [6]), ([], []), ([8], [8]), ([7, 9], [7, 9]), ([10], [10]), ([], []), ([], []), ([12, 5, 0, 1, 2, 3, 4, 5, 12, 13], [5, 12]), ([13, 11, 14, 0, 1, 2, 3, 4, 5, 6, 7, 8, 9, 10, 11, 12, 13, 14], [11, 13])])
def fitsA.B1 : List Nat := [0, 1, 0, 4, 15, 31, 0, 64, 0, 256, 960, 1984, 0, 0, 12351, 32767]
theorem fitsA.tab1 : rtab .any (opsOf Try.f13 1) = fitsA.T1 := by kernel_rfl
theorem fitsA.bits1 : waitsOk fitsA.T1.2 fitsA.B1 = true := by kernel_rfl
set_option maxHeartbeats 8000000 in
set_option maxRecDepth 100000 in
theorem fitsA.calls (k : Nat) (A0_0 : Option Addr) (c0_0 : Nat) (l0_0 : List (S36)) (A0_1 : Option Addr) (c0_1 : Nat) (l0_1 : List (S33)) (a0_2 : Int) (a1_0 : Int) (a1_1 : Int) (a1_2 : Int) (a1_3 : Int) (r : Bool) (w : World) (hr0_0 : Kd.C k36 w A0_0 l0_0.length l0_0) (hc0_0 : l0_0.length ≤ c0_0) (hr0_1 : Kd.C k33 w A0_1 l0_1.length l0_1) (hc0_1 : l0_1.length ≤ c0_1) (h : fitsA.f k l0_0 l0_1 a0_2 a1_0 a1_1 a1_2 a1_3 = some r) :
  Calls Try.prog 13 #[.agg #[.slice A0_0 l0_0.length c0_0, .slice A0_1 l0_1.length c0_1, .int .i64 a0_2], .agg #[.int .i64 a1_0, .int .i64 a1_1, .int .i64 a1_2, .int .i64 a1_3]] w fun e w' => e = .returned (.bool r) ∧ Below w.heap.size w w' := by
 have hu25 := Try.underlying25
 have hu33 := Try.underlying33
 have hu36 := Try.underlying36
 have HR0_0 := Aside0.mk hr0_0
 have HC0_0 := Aside0.mk hc0_0
 clear hr0_0 hc0_0
 have HR0_1 := Aside0.mk hr0_1
 have HC0_1 := Aside0.mk hc0_1
 clear hr0_1 hc0_1
 have HB := Aside0.mk (Below.refl w.heap.size w)
 have H : (if 0 ≤ a1_0 then (if a1_0 < (l0_0.length : Int) then (if 0 ≤ a1_1 then (if a1_1 < (l0_0.length : Int) then (if a1_2 = 1 then (fitsA.j0 k false l0_0 a1_2 (a1_2 == 1) a1_0 a1_1 a1_2 a1_3 ((rd_T36 l0_0 a1_0).f0) ((rd_T36 l0_0 a1_0).f1) ((rd_T36 l0_0 a1_0).f2) ((rd_T36 l0_0 a1_1).f0) ((rd_T36 l0_0 a1_1).f1) ((rd_T36 l0_0 a1_1).f2)) else (fitsA.j0 k false l0_0 a1_2 (a1_2 == 5) a1_0 a1_1 a1_2 a1_3 ((rd_T36 l0_0 a1_0).f0) ((rd_T36 l0_0 a1_0).f1) ((rd_T36 l0_0 a1_0).f2) ((rd_T36 l0_0 a1_1).f0) ((rd_T36 l0_0 a1_1).f1) ((rd_T36 l0_0 a1_1).f2))) else (none)) else (none)) else (none)) else (none)) = some r := h
 clear h
 by_cases c3 : 0 ≤ a1_0
 ·rw [if_pos c3] at H
  have c3b0 : decide (0 ≤ a1_0) = true := decide_eq_true c3
  clear c3
  by_cases c4 : a1_0 < (l0_0.length : Int)
  ·rw [if_pos c4] at H
   have c4b0 : decide (a1_0 < (l0_0.length : Int)) = true := decide_eq_true c4
   clear c4
   by_cases c5 : 0 ≤ a1_1
   ·rw [if_pos c5] at H
    have c5b0 : decide (0 ≤ a1_1) = true := decide_eq_true c5
    clear c5
    by_cases c6 : a1_1 < (l0_0.length : Int)
    ·rw [if_pos c6] at H
     have c6b0 : decide (a1_1 < (l0_0.length : Int)) = true := decide_eq_true c6
     clear c6
     have HC7 := Aside0.mk H
     clear H
     go_enter Try.func13, Try.ntmps13
     try go_wp2_with (first | ((with_reducible refine gate_dst (N := 2) rfl ?_); refine box_event ?hg (N := 2) ?hd (cs := #[.slice A0_0 l0_0.length c0_0, .slice A0_1 l0_1.length c0_1, .int .i64 a0_2]) (t := 25) ?hr ?_; (case hd => rfl); (case hg => rfl); (case hr => first | (go_simp; done) | (go_simp; rfl)); intro gb128 hg w8 hbox hb; have n0_ := Aside0.mk (below_step (by repeat with_reducible first | exact HB.out | apply below_alloc | apply pw_below_drewN | apply below_drew1) hb); have n1_ := Aside0.mk (hbox); have n2_ := Aside0.mk ((by rw [hg]; exact (below_size (by repeat with_reducible first | exact HB.out | apply below_alloc | apply pw_below_drewN | apply below_drew1)) : w.heap.size ≤ gb128)); have n3_ := Aside0.mk ((by rw [hg]; exact (below_size (by repeat with_reducible first | exact HB.out | apply below_alloc | apply pw_below_drewN | apply below_drew1)) : w.heap.size ≤ gb128)); clear HB; have HB := n0_; have BK128 := n1_; have GW128 := n2_; have GE128 := n3_; clear n0_ n1_ n2_ n3_; clear hb hbox hg) | ((with_reducible refine gate_dst (N := 3) rfl ?_); refine box_event ?hg (N := 3) ?hd (cs := #[.int .i64 a1_0, .int .i64 a1_1, .int .i64 a1_2, .int .i64 a1_3]) (t := 33) ?hr ?_; (case hd => rfl); (case hg => rfl); (case hr => first | (go_simp; done) | (go_simp; rfl)); intro gb129 hg w9 hbox hb; have n0_ := Aside0.mk (blk_below (g := gb128) (o := .cells #[.slice A0_0 l0_0.length c0_0, .slice A0_1 l0_1.length c0_1, .int .i64 a0_2] 25 (0, 0)) (by (with_reducible repeat first | apply bn | apply bd | apply ba); exact BK128.out) hb); have n1_ := Aside0.mk (below_step (by repeat with_reducible first | exact HB.out | apply below_alloc | apply pw_below_drewN | apply below_drew1 | refine below_set ?_ GE128.out) hb); have n2_ := Aside0.mk (hbox); have n3_ := Aside0.mk ((by rw [hg]; exact (below_size (by repeat with_reducible first | exact HB.out | apply below_alloc | apply pw_below_drewN | apply below_drew1 | refine below_set ?_ GE128.out)) : w.heap.size ≤ gb129)); have n4_ := Aside0.mk ((by rw [hg]; exact (below_size (by repeat with_reducible first | exact HB.out | apply below_alloc | apply pw_below_drewN | apply below_drew1 | refine below_set ?_ GE128.out)) : w.heap.size ≤ gb129)); have n5_ := Aside0.mk ((by rw [hg]; exact Nat.ne_of_lt (blk_lt (g := gb128) (o := .cells #[.slice A0_0 l0_0.length c0_0, .slice A0_1 l0_1.length c0_1, .int .i64 a0_2] 25 (0, 0)) (by (with_reducible repeat first | apply bn | apply bd | apply ba); exact BK128.out)) : gb128 ≠ gb129)); have n6_ := Aside0.mk ((by rw [hg]; exact Nat.ne_of_gt (blk_lt (g := gb128) (o := .cells #[.slice A0_0 l0_0.length c0_0, .slice A0_1 l0_1.length c0_1, .int .i64 a0_2] 25 (0, 0)) (by (with_reducible repeat first | apply bn | apply bd | apply ba); exact BK128.out)) : gb129 ≠ gb128)); clear BK128; clear HB; have BK128 := n0_; have HB := n1_; have BK129 := n2_; have GW129 := n3_; have GE129 := n4_; have NB128_129 := n5_; have NB129_128 := n6_; clear n0_ n1_ n2_ n3_ n4_ n5_ n6_; clear hb hbox hg))
     have n0_ := Aside0.mk (blk_drew BK128.out)
     have n1_ := Aside0.mk (blk_drew BK129.out)
     have n2_ := Aside0.mk (below_drew1 HB.out)
     clear BK128
     clear BK129
     clear HB
     have BK128 := n0_
     have BK129 := n1_
     have HB := n2_
     clear n0_ n1_ n2_
     have p130 : 0 ≤ (a1_0 : Int) := of_decide_eq_true (by first | (with_reducible assumption) | assumption)
     have q130 : a1_0 < (l0_0.length : Int) := of_decide_eq_true (by first | (with_reducible assumption) | assumption)
     obtain ⟨ad130, e130, hx130_0, hx130_1, hx130_2⟩ := at_T36 HR0_0.out a1_0 p130 q130
     have hw130_2 := hx130_2
     have hw130_1 := hx130_1
     have hw130_0 := hx130_0
     cases e130
     replace hx130_0 := (HB.out.cell (World.block_lt_of_cell? w _ hx130_0)).trans hx130_0
     replace hx130_1 := (HB.out.cell (World.block_lt_of_cell? w _ hx130_1)).trans hx130_1
     replace hx130_2 := (HB.out.cell (World.block_lt_of_cell? w _ hx130_2)).trans hx130_2
     replace p130 := eq_true p130
     replace q130 := eq_true q130
     have p131 : 0 ≤ (a1_1 : Int) := of_decide_eq_true (by first | (with_reducible assumption) | assumption)
     have q131 : a1_1 < (l0_0.length : Int) := of_decide_eq_true (by first | (with_reducible assumption) | assumption)
     obtain ⟨ad131, e131, hx131_0, hx131_1, hx131_2⟩ := at_T36 HR0_0.out a1_1 p131 q131
     have hw131_2 := hx131_2
     have hw131_1 := hx131_1
     have hw131_0 := hx131_0
     obtain rfl : ad130 = ad131 := (by injection e131)
     replace hx131_0 := (HB.out.cell (World.block_lt_of_cell? w _ hx131_0)).trans hx131_0
     replace hx131_1 := (HB.out.cell (World.block_lt_of_cell? w _ hx131_1)).trans hx131_1
     replace hx131_2 := (HB.out.cell (World.block_lt_of_cell? w _ hx131_2)).trans hx131_2
     replace p131 := eq_true p131
     replace q131 := eq_true q131
     refine start_ (n := 16) (S := fun w' => w'.cell? ⟨gb128, 0, none⟩ = some (.slice (some ad130) l0_0.length c0_0) ∧ w'.cell? ⟨gb128, 1, none⟩ = some (.slice A0_1 l0_1.length c0_1) ∧ w'.cell? ⟨gb128, 2, none⟩ = some (.int .i64 a0_2) ∧ w'.cell? ⟨gb129, 0, none⟩ = some (.int .i64 a1_0) ∧ w'.cell? ⟨gb129, 1, none⟩ = some (.int .i64 a1_1) ∧ w'.cell? ⟨gb129, 2, none⟩ = some (.int .i64 a1_2) ∧ w'.cell? ⟨gb129, 3, none⟩ = some (.int .i64 a1_3) ∧ w'.cell? (ad130.add ((a1_0).toNat * 3)) = some (.int .i64 ((rd_T36 l0_0 a1_0).f0)) ∧ w'.cell? ⟨(ad130.add ((a1_0).toNat * 3)).block, (ad130.add ((a1_0).toNat * 3)).off + 1, none⟩ = some (.int .i64 ((rd_T36 l0_0 a1_0).f1)) ∧ w'.cell? ⟨(ad130.add ((a1_0).toNat * 3)).block, (ad130.add ((a1_0).toNat * 3)).off + 2, none⟩ = some (.int .i64 ((rd_T36 l0_0 a1_0).f2)) ∧ w'.cell? (ad130.add ((a1_1).toNat * 3)) = some (.int .i64 ((rd_T36 l0_0 a1_1).f0)) ∧ w'.cell? ⟨(ad130.add ((a1_1).toNat * 3)).block, (ad130.add ((a1_1).toNat * 3)).off + 1, none⟩ = some (.int .i64 ((rd_T36 l0_0 a1_1).f1)) ∧ w'.cell? ⟨(ad130.add ((a1_1).toNat * 3)).block, (ad130.add ((a1_1).toNat * 3)).off + 2, none⟩ = some (.int .i64 ((rd_T36 l0_0 a1_1).f2))) (ds := []) #[false, false, false, false, false, false, false, false, false, false, false, false, false, false, false, false] (by kernel_rfl) rfl rfl ⟨(blk_cell BK128.out 0).trans rfl, (blk_cell BK128.out 1).trans rfl, (blk_cell BK128.out 2).trans rfl, (blk_cell BK129.out 0).trans rfl, (blk_cell BK129.out 1).trans rfl, (blk_cell BK129.out 2).trans rfl, (blk_cell BK129.out 3).trans rfl, ((HB.out.cell (World.block_lt_of_cell? w _ hw130_0)).trans hw130_0), ((HB.out.cell (World.block_lt_of_cell? w _ hw130_1)).trans hw130_1), ((HB.out.cell (World.block_lt_of_cell? w _ hw130_2)).trans hw130_2), ((HB.out.cell (World.block_lt_of_cell? w _ hw131_0)).trans hw131_0), ((HB.out.cell (World.block_lt_of_cell? w _ hw131_1)).trans hw131_1), ((HB.out.cell (World.block_lt_of_cell? w _ hw131_2)).trans hw131_2)⟩ (fun hHeld => ?_); refine with_tabW fitsA.tab1 fitsA.bits1 (fun HT_ HW_ => ?_)
     generalize w9.drew = w10 at BK128 BK129 HB hx130_0 hx130_1 hx130_2 hx131_0 hx131_1 hx131_2 hHeld ⊢
     refine pure_ (i := 0) (N := some 8) (v := ?_) (a' := ?_) #[true, false, false, false, false, false, false, false, false, false, false, false, false, false, false, false] rfl rfl (any_of HT_.out (by kernel_rfl)) (fun _ _ _ h => h) (Or.inl ⟨by rfl, ?_⟩) ?_ ?_
     rotate_left;focus(intro w';go_simp;with_reducible rfl)
     rotate_left;focus(simp only [Act.put, List.setIfInBounds_toArray, List.set_cons_zero, List.set_cons_succ, i64_w];rfl)
     refine pure_ (i := 2) (N := some 10) (v := ?_) (a' := ?_) #[true, false, true, false, false, false, false, false, false, false, false, false, false, false, false, false] rfl rfl (any_of HT_.out (by kernel_rfl)) (fun _ _ _ h => h) (Or.inl ⟨by rfl, ?_⟩) ?_ ?_
     rotate_left;focus(intro w';go_simp;with_reducible rfl)
     rotate_left;focus(simp only [Act.put, List.setIfInBounds_toArray, List.set_cons_zero, List.set_cons_succ, i64_w];rfl)
     refine pure_ (i := 6) (N := some 14) (v := ?_) (a' := ?_) #[true, false, true, false, false, false, true, false, false, false, false, false, false, false, false, false] rfl rfl (any_of HT_.out (by kernel_rfl)) (fun _ _ _ h => h) (Or.inl ⟨by rfl, ?_⟩) ?_ ?_
     rotate_left;focus(intro w';go_simp;with_reducible rfl)
     rotate_left;focus(simp only [Act.put, List.setIfInBounds_toArray, List.set_cons_zero, List.set_cons_succ, i64_w];rfl)
     refine pure_ (i := 8) (N := some 16) (v := ?_) (a' := ?_) #[true, false, true, false, false, false, true, false, true, false, false, false, false, false, false, false] rfl rfl (any_of HT_.out (by kernel_rfl)) (fun _ _ _ h => h) (Or.inl ⟨by rfl, ?_⟩) ?_ ?_
     rotate_left;focus(intro w';go_simp;with_reducible rfl)
     rotate_left;focus(simp only [Act.put, List.setIfInBounds_toArray, List.set_cons_zero, List.set_cons_succ, i64_w];rfl)
     refine take_ (i := 1) (N := some 9) (v := ?_) (a' := ?_) #[true, true, true, false, false, false, true, false, true, false, false, false, false, false, false, false] rfl rfl (take_ofW HT_.out HW_.out (by kernel_rfl)) (fun _ _ _ h => h) (Or.inl ⟨by rfl, ?_⟩) hHeld ?_ ?_
     rotate_left;focus(rintro w' ⟨s0, s1, s2, s3, s4, s5, s6, s7, s8, s9, s10, s11, s12⟩;go_simp;with_reducible rfl)
     rotate_left;focus(simp only [Act.put, List.setIfInBounds_toArray, List.set_cons_zero, List.set_cons_succ, i64_w];rfl)
     refine take_ (i := 3) (N := some 11) (v := ?_) (a' := ?_) #[true, true, true, true, false, false, true, false, true, false, false, false, false, false, false, false] rfl rfl (take_ofW HT_.out HW_.out (by kernel_rfl)) (fun _ _ _ h => h) (Or.inl ⟨by rfl, ?_⟩) hHeld ?_ ?_
     rotate_left;focus(rintro w' ⟨s0, s1, s2, s3, s4, s5, s6, s7, s8, s9, s10, s11, s12⟩;go_simp;with_reducible rfl)
     rotate_left;focus(simp only [Act.put, List.setIfInBounds_toArray, List.set_cons_zero, List.set_cons_succ, i64_w];rfl)
     refine pure_ (i := 4) (N := some 12) (v := ?_) (a' := ?_) #[true, true, true, true, true, false, true, false, true, false, false, false, false, false, false, false] rfl rfl (any_of HT_.out (by kernel_rfl)) (fun _ _ _ h => h) (Or.inl ⟨by rfl, ?_⟩) ?_ ?_
     rotate_left;focus(intro w';go_simp;with_reducible rfl)
     rotate_left;focus(simp only [Act.put, List.setIfInBounds_toArray, List.set_cons_zero, List.set_cons_succ, i64_w];rfl)
     refine take_ (i := 5) (N := some 13) (v := ?_) (a' := ?_) #[true, true, true, true, true, true, true, false, true, false, false, false, false, false, false, false] rfl rfl (take_ofW HT_.out HW_.out (by kernel_rfl)) (fun _ _ _ h => h) (Or.inl ⟨by rfl, ?_⟩) hHeld ?_ ?_
     rotate_left;focus(rintro w' ⟨s0, s1, s2, s3, s4, s5, s6, s7, s8, s9, s10, s11, s12⟩;go_simp;with_reducible rfl)
     rotate_left;focus(simp only [Act.put, List.setIfInBounds_toArray, List.set_cons_zero, List.set_cons_succ, i64_w];rfl)
     refine take_ (i := 7) (N := some 15) (v := ?_) (a' := ?_) #[true, true, true, true, true, true, true, true, true, false, false, false, false, false, false, false] rfl rfl (take_ofW HT_.out HW_.out (by kernel_rfl)) (fun _ _ _ h => h) (Or.inl ⟨by rfl, ?_⟩) hHeld ?_ ?_
     rotate_left;focus(rintro w' ⟨s0, s1, s2, s3, s4, s5, s6, s7, s8, s9, s10, s11, s12⟩;go_simp;with_reducible rfl)
     rotate_left;focus(simp only [Act.put, List.setIfInBounds_toArray, List.set_cons_zero, List.set_cons_succ, i64_w];rfl)
     refine take_ (i := 9) (N := some 17) (v := ?_) (a' := ?_) #[true, true, true, true, true, true, true, true, true, true, false, false, false, false, false, false] rfl rfl (take_ofW HT_.out HW_.out (by kernel_rfl)) (fun _ _ _ h => h) (Or.inl ⟨by rfl, ?_⟩) hHeld ?_ ?_
     rotate_left;focus(rintro w' ⟨s0, s1, s2, s3, s4, s5, s6, s7, s8, s9, s10, s11, s12⟩;go_simp;with_reducible rfl)
     rotate_left;focus(simp only [Act.put, List.setIfInBounds_toArray, List.set_cons_zero, List.set_cons_succ, i64_w];rfl)
     refine pure_ (i := 10) (N := some 18) (v := ?_) (a' := ?_) #[true, true, true, true, true, true, true, true, true, true, true, false, false, false, false, false] rfl rfl (any_of HT_.out (by kernel_rfl)) (fun _ _ _ h => h) (Or.inl ⟨by rfl, ?_⟩) ?_ ?_
     rotate_left;focus(intro w';go_simp;with_reducible rfl)
     rotate_left;focus(simp only [Act.put, List.setIfInBounds_toArray, List.set_cons_zero, List.set_cons_succ, i64_w];rfl)
     refine take_ (i := 11) (N := some 19) (v := ?_) (a' := ?_) #[true, true, true, true, true, true, true, true, true, true, true, true, false, false, false, false] rfl rfl (take_ofW HT_.out HW_.out (by kernel_rfl)) (fun _ _ _ h => h) (Or.inl ⟨by rfl, ?_⟩) hHeld ?_ ?_
     rotate_left;focus(rintro w' ⟨s0, s1, s2, s3, s4, s5, s6, s7, s8, s9, s10, s11, s12⟩;go_simp;with_reducible rfl)
     rotate_left;focus(simp only [Act.put, List.setIfInBounds_toArray, List.set_cons_zero, List.set_cons_succ, i64_w];rfl)
     refine join_ (σ := Nat × Nat) 2 #[true, true, true, true, true, true, true, true, true, true, true, true, true, true, false, false] (fun s_ => [(5, .pointer (some ⟨s_.1, 0, none⟩)), (6, .pointer (some ⟨s_.2, 0, none⟩))]) (fun s_ w' => (w'.cell? ⟨gb128, 0, none⟩ = some (.slice (some ad130) l0_0.length c0_0) ∧ w'.cell? ⟨gb128, 1, none⟩ = some (.slice A0_1 l0_1.length c0_1) ∧ w'.cell? ⟨gb128, 2, none⟩ = some (.int .i64 a0_2) ∧ w'.cell? ⟨gb129, 0, none⟩ = some (.int .i64 a1_0) ∧ w'.cell? ⟨gb129, 1, none⟩ = some (.int .i64 a1_1) ∧ w'.cell? ⟨gb129, 2, none⟩ = some (.int .i64 a1_2) ∧ w'.cell? ⟨gb129, 3, none⟩ = some (.int .i64 a1_3) ∧ w'.cell? (ad130.add ((a1_0).toNat * 3)) = some (.int .i64 ((rd_T36 l0_0 a1_0).f0)) ∧ w'.cell? ⟨(ad130.add ((a1_0).toNat * 3)).block, (ad130.add ((a1_0).toNat * 3)).off + 1, none⟩ = some (.int .i64 ((rd_T36 l0_0 a1_0).f1)) ∧ w'.cell? ⟨(ad130.add ((a1_0).toNat * 3)).block, (ad130.add ((a1_0).toNat * 3)).off + 2, none⟩ = some (.int .i64 ((rd_T36 l0_0 a1_0).f2)) ∧ w'.cell? (ad130.add ((a1_1).toNat * 3)) = some (.int .i64 ((rd_T36 l0_0 a1_1).f0)) ∧ w'.cell? ⟨(ad130.add ((a1_1).toNat * 3)).block, (ad130.add ((a1_1).toNat * 3)).off + 1, none⟩ = some (.int .i64 ((rd_T36 l0_0 a1_1).f1)) ∧ w'.cell? ⟨(ad130.add ((a1_1).toNat * 3)).block, (ad130.add ((a1_1).toNat * 3)).off + 2, none⟩ = some (.int .i64 ((rd_T36 l0_0 a1_1).f2))) ∧ (w'.heap[gb128]? = some (.cells #[.slice (some ad130) l0_0.length c0_0, .slice A0_1 l0_1.length c0_1, .int .i64 a0_2] 25 (0, 0))) ∧ (w'.heap[gb129]? = some (.cells #[.int .i64 a1_0, .int .i64 a1_1, .int .i64 a1_2, .int .i64 a1_3] 33 (0, 0))) ∧ (w'.heap[s_.1]? = some (.cells #[.int .i64 0, .int .i64 0, .int .i64 0] 36 (0, 0))) ∧ (w'.heap[s_.2]? = some (.cells #[.int .i64 0, .int .i64 0, .int .i64 0] 36 (0, 0))) ∧ (w.heap.size ≤ s_.1) ∧ (w.heap.size ≤ s_.1) ∧ (gb128 ≠ s_.1) ∧ (s_.1 ≠ gb128) ∧ (gb129 ≠ s_.1) ∧ (s_.1 ≠ gb129) ∧ (s_.2 ≠ s_.1) ∧ (s_.1 ≠ s_.2) ∧ (w.heap.size ≤ s_.2) ∧ (w.heap.size ≤ s_.2) ∧ (gb128 ≠ s_.2) ∧ (s_.2 ≠ gb128) ∧ (gb129 ≠ s_.2) ∧ (s_.2 ≠ gb129) ∧ (Below w.heap.size w w')) ?_ ?_
     rotate_left
     ·intro hCont
      refine two_ (i := 12) (j := 13) (Ni := some 5) (Nj := some 6) #[true, true, true, true, true, true, true, true, true, true, true, true, true, false, false, false] #[true, true, true, true, true, true, true, true, true, true, true, true, false, true, false, false] rfl rfl rfl rfl (two_of HT_.out (by kernel_rfl)) (by decide) (by decide) (fun K hK => ?_) (fun K hK => ?_)
      ·skip
       refine box_step ?hg (N := 5) ?hd (cs := #[.int .i64 0, .int .i64 0, .int .i64 0]) (t := 36) ?hr ?_; (case hd => rfl); (case hg => rfl); (case hr => first | (go_simp; done) | (go_simp; rfl))
       intro gb132 hg w11 hbox hb
       have n0_ := Aside0.mk (blk_below (g := gb128) (o := .cells #[.slice (some ad130) l0_0.length c0_0, .slice A0_1 l0_1.length c0_1, .int .i64 a0_2] 25 (0, 0)) (by (with_reducible repeat first | apply bn | apply bd | apply ba); exact BK128.out) hb)
       have n1_ := Aside0.mk (blk_below (g := gb129) (o := .cells #[.int .i64 a1_0, .int .i64 a1_1, .int .i64 a1_2, .int .i64 a1_3] 33 (0, 0)) (by (with_reducible repeat first | apply bn | apply bd | apply ba); exact BK129.out) hb)
       have n2_ := Aside0.mk (below_step (by repeat with_reducible first | exact HB.out | apply below_alloc | apply pw_below_drewN | apply below_drew1 | refine below_set ?_ GE128.out | refine below_set ?_ GE129.out) hb)
       have n3_ := Aside0.mk (hbox)
       have n4_ := Aside0.mk ((by rw [hg]; exact (below_size (by repeat with_reducible first | exact HB.out | apply below_alloc | apply pw_below_drewN | apply below_drew1 | refine below_set ?_ GE128.out | refine below_set ?_ GE129.out)) : w.heap.size ≤ gb132))
       have n5_ := Aside0.mk ((by rw [hg]; exact (below_size (by repeat with_reducible first | exact HB.out | apply below_alloc | apply pw_below_drewN | apply below_drew1 | refine below_set ?_ GE128.out | refine below_set ?_ GE129.out)) : w.heap.size ≤ gb132))
       have n6_ := Aside0.mk ((by rw [hg]; exact Nat.ne_of_lt (blk_lt (g := gb128) (o := .cells #[.slice (some ad130) l0_0.length c0_0, .slice A0_1 l0_1.length c0_1, .int .i64 a0_2] 25 (0, 0)) (by (with_reducible repeat first | apply bn | apply bd | apply ba); exact BK128.out)) : gb128 ≠ gb132))
       have n7_ := Aside0.mk ((by rw [hg]; exact Nat.ne_of_gt (blk_lt (g := gb128) (o := .cells #[.slice (some ad130) l0_0.length c0_0, .slice A0_1 l0_1.length c0_1, .int .i64 a0_2] 25 (0, 0)) (by (with_reducible repeat first | apply bn | apply bd | apply ba); exact BK128.out)) : gb132 ≠ gb128))
       have n8_ := Aside0.mk ((by rw [hg]; exact Nat.ne_of_lt (blk_lt (g := gb129) (o := .cells #[.int .i64 a1_0, .int .i64 a1_1, .int .i64 a1_2, .int .i64 a1_3] 33 (0, 0)) (by (with_reducible repeat first | apply bn | apply bd | apply ba); exact BK129.out)) : gb129 ≠ gb132))
       have n9_ := Aside0.mk ((by rw [hg]; exact Nat.ne_of_gt (blk_lt (g := gb129) (o := .cells #[.int .i64 a1_0, .int .i64 a1_1, .int .i64 a1_2, .int .i64 a1_3] 33 (0, 0)) (by (with_reducible repeat first | apply bn | apply bd | apply ba); exact BK129.out)) : gb132 ≠ gb129))
       clear BK128
       clear BK129
       clear HB
       have BK128 := n0_
       have BK129 := n1_
       have HB := n2_
       have BK132 := n3_
       have GW132 := n4_
       have GE132 := n5_
       have NB128_132 := n6_
       have NB132_128 := n7_
       have NB129_132 := n8_
       have NB132_129 := n9_
       clear n0_ n1_ n2_ n3_ n4_ n5_ n6_ n7_ n8_ n9_
       clear hb hbox hg
       refine hK.out _ _ ⟨(blk_cell BK128.out 0).trans rfl, (blk_cell BK128.out 1).trans rfl, (blk_cell BK128.out 2).trans rfl, (blk_cell BK129.out 0).trans rfl, (blk_cell BK129.out 1).trans rfl, (blk_cell BK129.out 2).trans rfl, (blk_cell BK129.out 3).trans rfl, ((HB.out.cell (World.block_lt_of_cell? w _ hw130_0)).trans hw130_0), ((HB.out.cell (World.block_lt_of_cell? w _ hw130_1)).trans hw130_1), ((HB.out.cell (World.block_lt_of_cell? w _ hw130_2)).trans hw130_2), ((HB.out.cell (World.block_lt_of_cell? w _ hw131_0)).trans hw131_0), ((HB.out.cell (World.block_lt_of_cell? w _ hw131_1)).trans hw131_1), ((HB.out.cell (World.block_lt_of_cell? w _ hw131_2)).trans hw131_2)⟩ (fun hHeld => ?_)
       clear hK K
       refine norm_ (a' := ?_) ?_ ?_
       rotate_left;focus(show Act.put _ (some 5) _ = _;simp only [Act.put, List.setIfInBounds_toArray, List.set_cons_zero, List.set_cons_succ, i64_w];rfl)
       refine one_ (i := 13) (N := some 6) #[true, true, true, true, true, true, true, true, true, true, true, true, true, true, false, false] rfl rfl (one_of HT_.out (by kernel_rfl)) (by decide) (fun K hK => ?_)
       refine box_step ?hg (N := 6) ?hd (cs := #[.int .i64 0, .int .i64 0, .int .i64 0]) (t := 36) ?hr ?_; (case hd => rfl); (case hg => rfl); (case hr => first | (go_simp; done) | (go_simp; rfl))
       intro gb133 hg w12 hbox hb
       have n0_ := Aside0.mk (blk_below (g := gb128) (o := .cells #[.slice (some ad130) l0_0.length c0_0, .slice A0_1 l0_1.length c0_1, .int .i64 a0_2] 25 (0, 0)) (by (with_reducible repeat first | apply bn | apply bd | apply ba); exact BK128.out) hb)
       have n1_ := Aside0.mk (blk_below (g := gb129) (o := .cells #[.int .i64 a1_0, .int .i64 a1_1, .int .i64 a1_2, .int .i64 a1_3] 33 (0, 0)) (by (with_reducible repeat first | apply bn | apply bd | apply ba); exact BK129.out) hb)
       have n2_ := Aside0.mk (blk_below (g := gb132) (o := .cells #[.int .i64 0, .int .i64 0, .int .i64 0] 36 (0, 0)) (by (with_reducible repeat first | apply bn | apply bd | apply ba); exact BK132.out) hb)
       have n3_ := Aside0.mk (below_step (by repeat with_reducible first | exact HB.out | apply below_alloc | apply pw_below_drewN | apply below_drew1 | refine below_set ?_ GE128.out | refine below_set ?_ GE129.out | refine below_set ?_ GE132.out) hb)
       have n4_ := Aside0.mk (hbox)
       have n5_ := Aside0.mk ((by rw [hg]; exact (below_size (by repeat with_reducible first | exact HB.out | apply below_alloc | apply pw_below_drewN | apply below_drew1 | refine below_set ?_ GE128.out | refine below_set ?_ GE129.out | refine below_set ?_ GE132.out)) : w.heap.size ≤ gb133))
       have n6_ := Aside0.mk ((by rw [hg]; exact (below_size (by repeat with_reducible first | exact HB.out | apply below_alloc | apply pw_below_drewN | apply below_drew1 | refine below_set ?_ GE128.out | refine below_set ?_ GE129.out | refine below_set ?_ GE132.out)) : w.heap.size ≤ gb133))
       have n7_ := Aside0.mk ((by rw [hg]; exact Nat.ne_of_lt (blk_lt (g := gb128) (o := .cells #[.slice (some ad130) l0_0.length c0_0, .slice A0_1 l0_1.length c0_1, .int .i64 a0_2] 25 (0, 0)) (by (with_reducible repeat first | apply bn | apply bd | apply ba); exact BK128.out)) : gb128 ≠ gb133))
       have n8_ := Aside0.mk ((by rw [hg]; exact Nat.ne_of_gt (blk_lt (g := gb128) (o := .cells #[.slice (some ad130) l0_0.length c0_0, .slice A0_1 l0_1.length c0_1, .int .i64 a0_2] 25 (0, 0)) (by (with_reducible repeat first | apply bn | apply bd | apply ba); exact BK128.out)) : gb133 ≠ gb128))
       have n9_ := Aside0.mk ((by rw [hg]; exact Nat.ne_of_lt (blk_lt (g := gb129) (o := .cells #[.int .i64 a1_0, .int .i64 a1_1, .int .i64 a1_2, .int .i64 a1_3] 33 (0, 0)) (by (with_reducible repeat first | apply bn | apply bd | apply ba); exact BK129.out)) : gb129 ≠ gb133))
       have n10_ := Aside0.mk ((by rw [hg]; exact Nat.ne_of_gt (blk_lt (g := gb129) (o := .cells #[.int .i64 a1_0, .int .i64 a1_1, .int .i64 a1_2, .int .i64 a1_3] 33 (0, 0)) (by (with_reducible repeat first | apply bn | apply bd | apply ba); exact BK129.out)) : gb133 ≠ gb129))
       have n11_ := Aside0.mk ((by rw [hg]; exact Nat.ne_of_lt (blk_lt (g := gb132) (o := .cells #[.int .i64 0, .int .i64 0, .int .i64 0] 36 (0, 0)) (by (with_reducible repeat first | apply bn | apply bd | apply ba); exact BK132.out)) : gb132 ≠ gb133))
       have n12_ := Aside0.mk ((by rw [hg]; exact Nat.ne_of_gt (blk_lt (g := gb132) (o := .cells #[.int .i64 0, .int .i64 0, .int .i64 0] 36 (0, 0)) (by (with_reducible repeat first | apply bn | apply bd | apply ba); exact BK132.out)) : gb133 ≠ gb132))
       clear BK128
       clear BK129
       clear BK132
       clear HB
       have BK128 := n0_
       have BK129 := n1_
       have BK132 := n2_
       have HB := n3_
       have BK133 := n4_
       have GW133 := n5_
       have GE133 := n6_
       have NB128_133 := n7_
       have NB133_128 := n8_
       have NB129_133 := n9_
       have NB133_129 := n10_
       have NB132_133 := n11_
       have NB133_132 := n12_
       clear n0_ n1_ n2_ n3_ n4_ n5_ n6_ n7_ n8_ n9_ n10_ n11_ n12_
       clear hb hbox hg
       refine hK.out _ _ ⟨(blk_cell BK128.out 0).trans rfl, (blk_cell BK128.out 1).trans rfl, (blk_cell BK128.out 2).trans rfl, (blk_cell BK129.out 0).trans rfl, (blk_cell BK129.out 1).trans rfl, (blk_cell BK129.out 2).trans rfl, (blk_cell BK129.out 3).trans rfl, ((HB.out.cell (World.block_lt_of_cell? w _ hw130_0)).trans hw130_0), ((HB.out.cell (World.block_lt_of_cell? w _ hw130_1)).trans hw130_1), ((HB.out.cell (World.block_lt_of_cell? w _ hw130_2)).trans hw130_2), ((HB.out.cell (World.block_lt_of_cell? w _ hw131_0)).trans hw131_0), ((HB.out.cell (World.block_lt_of_cell? w _ hw131_1)).trans hw131_1), ((HB.out.cell (World.block_lt_of_cell? w _ hw131_2)).trans hw131_2)⟩ (fun hHeld => ?_)
       clear hK K
       refine norm_ (a' := ?_) ?_ ?_
       rotate_left;focus(show Act.put _ (some 6) _ = _;simp only [Act.put, List.setIfInBounds_toArray, List.set_cons_zero, List.set_cons_succ, i64_w];rfl)
       exact norm_ (by simp only [putAll, Act.put, List.setIfInBounds_toArray, List.set_cons_zero, List.set_cons_succ]) (hCont (gb132, gb133) _ ⟨hHeld, (by (with_reducible repeat first | apply bn | apply bd | apply ba); exact BK128.out), (by (with_reducible repeat first | apply bn | apply bd | apply ba); exact BK129.out), (by (with_reducible repeat first | apply bn | apply bd | apply ba); exact BK132.out), (by (with_reducible repeat first | apply bn | apply bd | apply ba); exact BK133.out), GW132.out, GE132.out, NB128_132.out, NB132_128.out, NB129_132.out, NB132_129.out, NB133_132.out, NB132_133.out, GW133.out, GE133.out, NB128_133.out, NB133_128.out, NB129_133.out, NB133_129.out, (by repeat with_reducible first | exact HB.out | apply below_alloc | apply pw_below_drewN | apply below_drew1 | refine below_set ?_ GE128.out | refine below_set ?_ GE129.out | refine below_set ?_ GE132.out | refine below_set ?_ GE133.out)⟩)
      ·skip
       refine box_step ?hg (N := 6) ?hd (cs := #[.int .i64 0, .int .i64 0, .int .i64 0]) (t := 36) ?hr ?_; (case hd => rfl); (case hg => rfl); (case hr => first | (go_simp; done) | (go_simp; rfl))
       intro gb133 hg w11 hbox hb
       have n0_ := Aside0.mk (blk_below (g := gb128) (o := .cells #[.slice (some ad130) l0_0.length c0_0, .slice A0_1 l0_1.length c0_1, .int .i64 a0_2] 25 (0, 0)) (by (with_reducible repeat first | apply bn | apply bd | apply ba); exact BK128.out) hb)
       have n1_ := Aside0.mk (blk_below (g := gb129) (o := .cells #[.int .i64 a1_0, .int .i64 a1_1, .int .i64 a1_2, .int .i64 a1_3] 33 (0, 0)) (by (with_reducible repeat first | apply bn | apply bd | apply ba); exact BK129.out) hb)
       have n2_ := Aside0.mk (below_step (by repeat with_reducible first | exact HB.out | apply below_alloc | apply pw_below_drewN | apply below_drew1 | refine below_set ?_ GE128.out | refine below_set ?_ GE129.out) hb)
       have n3_ := Aside0.mk (hbox)
       have n4_ := Aside0.mk ((by rw [hg]; exact (below_size (by repeat with_reducible first | exact HB.out | apply below_alloc | apply pw_below_drewN | apply below_drew1 | refine below_set ?_ GE128.out | refine below_set ?_ GE129.out)) : w.heap.size ≤ gb133))
       have n5_ := Aside0.mk ((by rw [hg]; exact (below_size (by repeat with_reducible first | exact HB.out | apply below_alloc | apply pw_below_drewN | apply below_drew1 | refine below_set ?_ GE128.out | refine below_set ?_ GE129.out)) : w.heap.size ≤ gb133))
       have n6_ := Aside0.mk ((by rw [hg]; exact Nat.ne_of_lt (blk_lt (g := gb128) (o := .cells #[.slice (some ad130) l0_0.length c0_0, .slice A0_1 l0_1.length c0_1, .int .i64 a0_2] 25 (0, 0)) (by (with_reducible repeat first | apply bn | apply bd | apply ba); exact BK128.out)) : gb128 ≠ gb133))
       have n7_ := Aside0.mk ((by rw [hg]; exact Nat.ne_of_gt (blk_lt (g := gb128) (o := .cells #[.slice (some ad130) l0_0.length c0_0, .slice A0_1 l0_1.length c0_1, .int .i64 a0_2] 25 (0, 0)) (by (with_reducible repeat first | apply bn | apply bd | apply ba); exact BK128.out)) : gb133 ≠ gb128))
       have n8_ := Aside0.mk ((by rw [hg]; exact Nat.ne_of_lt (blk_lt (g := gb129) (o := .cells #[.int .i64 a1_0, .int .i64 a1_1, .int .i64 a1_2, .int .i64 a1_3] 33 (0, 0)) (by (with_reducible repeat first | apply bn | apply bd | apply ba); exact BK129.out)) : gb129 ≠ gb133))
       have n9_ := Aside0.mk ((by rw [hg]; exact Nat.ne_of_gt (blk_lt (g := gb129) (o := .cells #[.int .i64 a1_0, .int .i64 a1_1, .int .i64 a1_2, .int .i64 a1_3] 33 (0, 0)) (by (with_reducible repeat first | apply bn | apply bd | apply ba); exact BK129.out)) : gb133 ≠ gb129))
       clear BK128
       clear BK129
       clear HB
       have BK128 := n0_
       have BK129 := n1_
       have HB := n2_
       have BK133 := n3_
       have GW133 := n4_
       have GE133 := n5_
       have NB128_133 := n6_
       have NB133_128 := n7_
       have NB129_133 := n8_
       have NB133_129 := n9_
       clear n0_ n1_ n2_ n3_ n4_ n5_ n6_ n7_ n8_ n9_
       clear hb hbox hg
       refine hK.out _ _ ⟨(blk_cell BK128.out 0).trans rfl, (blk_cell BK128.out 1).trans rfl, (blk_cell BK128.out 2).trans rfl, (blk_cell BK129.out 0).trans rfl, (blk_cell BK129.out 1).trans rfl, (blk_cell BK129.out 2).trans rfl, (blk_cell BK129.out 3).trans rfl, ((HB.out.cell (World.block_lt_of_cell? w _ hw130_0)).trans hw130_0), ((HB.out.cell (World.block_lt_of_cell? w _ hw130_1)).trans hw130_1), ((HB.out.cell (World.block_lt_of_cell? w _ hw130_2)).trans hw130_2), ((HB.out.cell (World.block_lt_of_cell? w _ hw131_0)).trans hw131_0), ((HB.out.cell (World.block_lt_of_cell? w _ hw131_1)).trans hw131_1), ((HB.out.cell (World.block_lt_of_cell? w _ hw131_2)).trans hw131_2)⟩ (fun hHeld => ?_)
       clear hK K
       refine norm_ (a' := ?_) ?_ ?_
       rotate_left;focus(show Act.put _ (some 6) _ = _;simp only [Act.put, List.setIfInBounds_toArray, List.set_cons_zero, List.set_cons_succ, i64_w];rfl)
       refine one_ (i := 12) (N := some 5) #[true, true, true, true, true, true, true, true, true, true, true, true, true, true, false, false] rfl rfl (one_of HT_.out (by kernel_rfl)) (by decide) (fun K hK => ?_)
       refine box_step ?hg (N := 5) ?hd (cs := #[.int .i64 0, .int .i64 0, .int .i64 0]) (t := 36) ?hr ?_; (case hd => rfl); (case hg => rfl); (case hr => first | (go_simp; done) | (go_simp; rfl))
       intro gb132 hg w12 hbox hb
       have n0_ := Aside0.mk (blk_below (g := gb128) (o := .cells #[.slice (some ad130) l0_0.length c0_0, .slice A0_1 l0_1.length c0_1, .int .i64 a0_2] 25 (0, 0)) (by (with_reducible repeat first | apply bn | apply bd | apply ba); exact BK128.out) hb)
       have n1_ := Aside0.mk (blk_below (g := gb129) (o := .cells #[.int .i64 a1_0, .int .i64 a1_1, .int .i64 a1_2, .int .i64 a1_3] 33 (0, 0)) (by (with_reducible repeat first | apply bn | apply bd | apply ba); exact BK129.out) hb)
       have n2_ := Aside0.mk (blk_below (g := gb133) (o := .cells #[.int .i64 0, .int .i64 0, .int .i64 0] 36 (0, 0)) (by (with_reducible repeat first | apply bn | apply bd | apply ba); exact BK133.out) hb)
       have n3_ := Aside0.mk (below_step (by repeat with_reducible first | exact HB.out | apply below_alloc | apply pw_below_drewN | apply below_drew1 | refine below_set ?_ GE128.out | refine below_set ?_ GE129.out | refine below_set ?_ GE133.out) hb)
       have n4_ := Aside0.mk (hbox)
       have n5_ := Aside0.mk ((by rw [hg]; exact (below_size (by repeat with_reducible first | exact HB.out | apply below_alloc | apply pw_below_drewN | apply below_drew1 | refine below_set ?_ GE128.out | refine below_set ?_ GE129.out | refine below_set ?_ GE133.out)) : w.heap.size ≤ gb132))
       have n6_ := Aside0.mk ((by rw [hg]; exact (below_size (by repeat with_reducible first | exact HB.out | apply below_alloc | apply pw_below_drewN | apply below_drew1 | refine below_set ?_ GE128.out | refine below_set ?_ GE129.out | refine below_set ?_ GE133.out)) : w.heap.size ≤ gb132))
       have n7_ := Aside0.mk ((by rw [hg]; exact Nat.ne_of_lt (blk_lt (g := gb128) (o := .cells #[.slice (some ad130) l0_0.length c0_0, .slice A0_1 l0_1.length c0_1, .int .i64 a0_2] 25 (0, 0)) (by (with_reducible repeat first | apply bn | apply bd | apply ba); exact BK128.out)) : gb128 ≠ gb132))
       have n8_ := Aside0.mk ((by rw [hg]; exact Nat.ne_of_gt (blk_lt (g := gb128) (o := .cells #[.slice (some ad130) l0_0.length c0_0, .slice A0_1 l0_1.length c0_1, .int .i64 a0_2] 25 (0, 0)) (by (with_reducible repeat first | apply bn | apply bd | apply ba); exact BK128.out)) : gb132 ≠ gb128))
       have n9_ := Aside0.mk ((by rw [hg]; exact Nat.ne_of_lt (blk_lt (g := gb129) (o := .cells #[.int .i64 a1_0, .int .i64 a1_1, .int .i64 a1_2, .int .i64 a1_3] 33 (0, 0)) (by (with_reducible repeat first | apply bn | apply bd | apply ba); exact BK129.out)) : gb129 ≠ gb132))
       have n10_ := Aside0.mk ((by rw [hg]; exact Nat.ne_of_gt (blk_lt (g := gb129) (o := .cells #[.int .i64 a1_0, .int .i64 a1_1, .int .i64 a1_2, .int .i64 a1_3] 33 (0, 0)) (by (with_reducible repeat first | apply bn | apply bd | apply ba); exact BK129.out)) : gb132 ≠ gb129))
       have n11_ := Aside0.mk ((by rw [hg]; exact Nat.ne_of_lt (blk_lt (g := gb133) (o := .cells #[.int .i64 0, .int .i64 0, .int .i64 0] 36 (0, 0)) (by (with_reducible repeat first | apply bn | apply bd | apply ba); exact BK133.out)) : gb133 ≠ gb132))
       have n12_ := Aside0.mk ((by rw [hg]; exact Nat.ne_of_gt (blk_lt (g := gb133) (o := .cells #[.int .i64 0, .int .i64 0, .int .i64 0] 36 (0, 0)) (by (with_reducible repeat first | apply bn | apply bd | apply ba); exact BK133.out)) : gb132 ≠ gb133))
       clear BK128
       clear BK129
       clear BK133
       clear HB
       have BK128 := n0_
       have BK129 := n1_
       have BK133 := n2_
       have HB := n3_
       have BK132 := n4_
       have GW132 := n5_
       have GE132 := n6_
       have NB128_132 := n7_
       have NB132_128 := n8_
       have NB129_132 := n9_
       have NB132_129 := n10_
       have NB133_132 := n11_
       have NB132_133 := n12_
       clear n0_ n1_ n2_ n3_ n4_ n5_ n6_ n7_ n8_ n9_ n10_ n11_ n12_
       clear hb hbox hg
       refine hK.out _ _ ⟨(blk_cell BK128.out 0).trans rfl, (blk_cell BK128.out 1).trans rfl, (blk_cell BK128.out 2).trans rfl, (blk_cell BK129.out 0).trans rfl, (blk_cell BK129.out 1).trans rfl, (blk_cell BK129.out 2).trans rfl, (blk_cell BK129.out 3).trans rfl, ((HB.out.cell (World.block_lt_of_cell? w _ hw130_0)).trans hw130_0), ((HB.out.cell (World.block_lt_of_cell? w _ hw130_1)).trans hw130_1), ((HB.out.cell (World.block_lt_of_cell? w _ hw130_2)).trans hw130_2), ((HB.out.cell (World.block_lt_of_cell? w _ hw131_0)).trans hw131_0), ((HB.out.cell (World.block_lt_of_cell? w _ hw131_1)).trans hw131_1), ((HB.out.cell (World.block_lt_of_cell? w _ hw131_2)).trans hw131_2)⟩ (fun hHeld => ?_)
       clear hK K
       refine norm_ (a' := ?_) ?_ ?_
       rotate_left;focus(show Act.put _ (some 5) _ = _;simp only [Act.put, List.setIfInBounds_toArray, List.set_cons_zero, List.set_cons_succ, i64_w];rfl)
       exact norm_ (by simp only [putAll, Act.put, List.setIfInBounds_toArray, List.set_cons_zero, List.set_cons_succ]) (hCont (gb132, gb133) _ ⟨hHeld, (by (with_reducible repeat first | apply bn | apply bd | apply ba); exact BK128.out), (by (with_reducible repeat first | apply bn | apply bd | apply ba); exact BK129.out), (by (with_reducible repeat first | apply bn | apply bd | apply ba); exact BK132.out), (by (with_reducible repeat first | apply bn | apply bd | apply ba); exact BK133.out), GW132.out, GE132.out, NB128_132.out, NB132_128.out, NB129_132.out, NB132_129.out, NB133_132.out, NB132_133.out, GW133.out, GE133.out, NB128_133.out, NB133_128.out, NB129_133.out, NB133_129.out, (by repeat with_reducible first | exact HB.out | apply below_alloc | apply pw_below_drewN | apply below_drew1 | refine below_set ?_ GE128.out | refine below_set ?_ GE129.out | refine below_set ?_ GE133.out | refine below_set ?_ GE132.out)⟩)
     rintro ⟨gb132, gb133⟩ w13 ⟨hS_, h0_, h1_, h2_, h3_, h4_, h5_, h6_, h7_, h8_, h9_, h10_, h11_, h12_, h13_, h14_, h15_, h16_, h17_, h18_⟩
     have n0_ : Aside0 (w13.heap[gb128]? = some (.cells #[.slice (some ad130) l0_0.length c0_0, .slice A0_1 l0_1.length c0_1, .int .i64 a0_2] 25 (0, 0))) := ⟨h0_⟩
     have n1_ : Aside0 (w13.heap[gb129]? = some (.cells #[.int .i64 a1_0, .int .i64 a1_1, .int .i64 a1_2, .int .i64 a1_3] 33 (0, 0))) := ⟨h1_⟩
     have n2_ : Aside0 (w13.heap[gb132]? = some (.cells #[.int .i64 0, .int .i64 0, .int .i64 0] 36 (0, 0))) := ⟨h2_⟩
     have n3_ : Aside0 (w13.heap[gb133]? = some (.cells #[.int .i64 0, .int .i64 0, .int .i64 0] 36 (0, 0))) := ⟨h3_⟩
     have n4_ : Aside0 (w.heap.size ≤ gb132) := ⟨h4_⟩
     have n5_ : Aside0 (w.heap.size ≤ gb132) := ⟨h5_⟩
     have n6_ : Aside0 (gb128 ≠ gb132) := ⟨h6_⟩
     have n7_ : Aside0 (gb132 ≠ gb128) := ⟨h7_⟩
     have n8_ : Aside0 (gb129 ≠ gb132) := ⟨h8_⟩
     have n9_ : Aside0 (gb132 ≠ gb129) := ⟨h9_⟩
     have n10_ : Aside0 (gb133 ≠ gb132) := ⟨h10_⟩
     have n11_ : Aside0 (gb132 ≠ gb133) := ⟨h11_⟩
     have n12_ : Aside0 (w.heap.size ≤ gb133) := ⟨h12_⟩
     have n13_ : Aside0 (w.heap.size ≤ gb133) := ⟨h13_⟩
     have n14_ : Aside0 (gb128 ≠ gb133) := ⟨h14_⟩
     have n15_ : Aside0 (gb133 ≠ gb128) := ⟨h15_⟩
     have n16_ : Aside0 (gb129 ≠ gb133) := ⟨h16_⟩
     have n17_ : Aside0 (gb133 ≠ gb129) := ⟨h17_⟩
     have n18_ : Aside0 (Below w.heap.size w w13) := ⟨h18_⟩
     clear BK128
     clear BK129
     clear HB
     clear h0_ h1_ h2_ h3_ h4_ h5_ h6_ h7_ h8_ h9_ h10_ h11_ h12_ h13_ h14_ h15_ h16_ h17_ h18_
     have BK128 := n0_
     have BK129 := n1_
     have BK132 := n2_
     have BK133 := n3_
     have GW132 := n4_
     have GE132 := n5_
     have NB128_132 := n6_
     have NB132_128 := n7_
     have NB129_132 := n8_
     have NB132_129 := n9_
     have NB133_132 := n10_
     have NB132_133 := n11_
     have GW133 := n12_
     have GE133 := n13_
     have NB128_133 := n14_
     have NB133_128 := n15_
     have NB129_133 := n16_
     have NB133_129 := n17_
     have HB := n18_
     clear n0_ n1_ n2_ n3_ n4_ n5_ n6_ n7_ n8_ n9_ n10_ n11_ n12_ n13_ n14_ n15_ n16_ n17_ n18_
     have hHeld : w13.cell? ⟨gb128, 0, none⟩ = some (.slice (some ad130) l0_0.length c0_0) ∧ w13.cell? ⟨gb128, 1, none⟩ = some (.slice A0_1 l0_1.length c0_1) ∧ w13.cell? ⟨gb128, 2, none⟩ = some (.int .i64 a0_2) ∧ w13.cell? ⟨gb129, 0, none⟩ = some (.int .i64 a1_0) ∧ w13.cell? ⟨gb129, 1, none⟩ = some (.int .i64 a1_1) ∧ w13.cell? ⟨gb129, 2, none⟩ = some (.int .i64 a1_2) ∧ w13.cell? ⟨gb129, 3, none⟩ = some (.int .i64 a1_3) ∧ w13.cell? (ad130.add ((a1_0).toNat * 3)) = some (.int .i64 ((rd_T36 l0_0 a1_0).f0)) ∧ w13.cell? ⟨(ad130.add ((a1_0).toNat * 3)).block, (ad130.add ((a1_0).toNat * 3)).off + 1, none⟩ = some (.int .i64 ((rd_T36 l0_0 a1_0).f1)) ∧ w13.cell? ⟨(ad130.add ((a1_0).toNat * 3)).block, (ad130.add ((a1_0).toNat * 3)).off + 2, none⟩ = some (.int .i64 ((rd_T36 l0_0 a1_0).f2)) ∧ w13.cell? (ad130.add ((a1_1).toNat * 3)) = some (.int .i64 ((rd_T36 l0_0 a1_1).f0)) ∧ w13.cell? ⟨(ad130.add ((a1_1).toNat * 3)).block, (ad130.add ((a1_1).toNat * 3)).off + 1, none⟩ = some (.int .i64 ((rd_T36 l0_0 a1_1).f1)) ∧ w13.cell? ⟨(ad130.add ((a1_1).toNat * 3)).block, (ad130.add ((a1_1).toNat * 3)).off + 2, none⟩ = some (.int .i64 ((rd_T36 l0_0 a1_1).f2)) := hS_
     refine norm_ (a' := ?_) ?_ ?_
     rotate_left;focus(simp only [putAll, Act.put, List.setIfInBounds_toArray, List.set_cons_zero, List.set_cons_succ];rfl)
     refine one_ (i := 14) (N := none) #[true, true, true, true, true, true, true, true, true, true, true, true, true, true, true, false] rfl rfl (one_of HT_.out (by kernel_rfl)) (by decide) (fun K hK => ?_)
     have hs14 : w13.cell? ⟨gb132, 0, none⟩ = some (.int .i64 0) := (blk_cell BK132.out 0).trans rfl
     have hfs14 := blk_frozen BK132.out 0
     have hns14_0 := NB128_132.out
     have hns14_1 := NB129_132.out
     have hns14_3 := NB133_132.out
     have hms14_0 := NB132_128.out
     have hms14_1 := NB132_129.out
     have hms14_3 := NB132_133.out
     have hs15 : w13.cell? ⟨gb132, 1, none⟩ = some (.int .i64 0) := (blk_cell BK132.out 1).trans rfl
     have hfs15 := blk_frozen BK132.out 1
     have hns15_0 := NB128_132.out
     have hns15_1 := NB129_132.out
     have hns15_3 := NB133_132.out
     have hms15_0 := NB132_128.out
     have hms15_1 := NB132_129.out
     have hms15_3 := NB132_133.out
     have hs16 : w13.cell? ⟨gb132, 2, none⟩ = some (.int .i64 0) := (blk_cell BK132.out 2).trans rfl
     have hfs16 := blk_frozen BK132.out 2
     have hns16_0 := NB128_132.out
     have hns16_1 := NB129_132.out
     have hns16_3 := NB133_132.out
     have hms16_0 := NB132_128.out
     have hms16_1 := NB132_129.out
     have hms16_3 := NB132_133.out
     refine skip_ (w1 := ?_) (by rfl) rfl ?_ ?_
     rotate_left;focus(go_simp;rfl)
     refine hK.out _ _ ⟨(far3 (g := gb132) NB128_132.out (hHeld.1)), (far3 (g := gb132) NB128_132.out (hHeld.2.1)), (far3 (g := gb132) NB128_132.out (hHeld.2.2.1)), (far3 (g := gb132) NB129_132.out (hHeld.2.2.2.1)), (far3 (g := gb132) NB129_132.out (hHeld.2.2.2.2.1)), (far3 (g := gb132) NB129_132.out (hHeld.2.2.2.2.2.1)), (far3 (g := gb132) NB129_132.out (hHeld.2.2.2.2.2.2.1)), (far3 (g := gb132) (ltw hw130_0 GW132.out) (hHeld.2.2.2.2.2.2.2.1)), (far3 (g := gb132) (ltw hw130_1 GW132.out) (hHeld.2.2.2.2.2.2.2.2.1)), (far3 (g := gb132) (ltw hw130_2 GW132.out) (hHeld.2.2.2.2.2.2.2.2.2.1)), (far3 (g := gb132) (ltw hw131_0 GW132.out) (hHeld.2.2.2.2.2.2.2.2.2.2.1)), (far3 (g := gb132) (ltw hw131_1 GW132.out) (hHeld.2.2.2.2.2.2.2.2.2.2.2.1)), (far3 (g := gb132) (ltw hw131_2 GW132.out) (hHeld.2.2.2.2.2.2.2.2.2.2.2.2))⟩ (fun hHeld => ?_)
     clear hK K
     refine one_ (i := 15) (N := none) #[true, true, true, true, true, true, true, true, true, true, true, true, true, true, true, true] rfl rfl (one_of HT_.out (by kernel_rfl)) (by decide) (fun K hK => ?_)
     have hs17 : w13.cell? ⟨gb133, 0, none⟩ = some (.int .i64 0) := (blk_cell BK133.out 0).trans rfl
     have hfs17 := blk_frozen BK133.out 0
     have hns17_0 := NB128_133.out
     have hns17_1 := NB129_133.out
     have hns17_2 := NB132_133.out
     have hms17_0 := NB133_128.out
     have hms17_1 := NB133_129.out
     have hms17_2 := NB133_132.out
     have hs18 : w13.cell? ⟨gb133, 1, none⟩ = some (.int .i64 0) := (blk_cell BK133.out 1).trans rfl
     have hfs18 := blk_frozen BK133.out 1
     have hns18_0 := NB128_133.out
     have hns18_1 := NB129_133.out
     have hns18_2 := NB132_133.out
     have hms18_0 := NB133_128.out
     have hms18_1 := NB133_129.out
     have hms18_2 := NB133_132.out
     have hs19 : w13.cell? ⟨gb133, 2, none⟩ = some (.int .i64 0) := (blk_cell BK133.out 2).trans rfl
     have hfs19 := blk_frozen BK133.out 2
     have hns19_0 := NB128_133.out
     have hns19_1 := NB129_133.out
     have hns19_2 := NB132_133.out
     have hms19_0 := NB133_128.out
     have hms19_1 := NB133_129.out
     have hms19_2 := NB133_132.out
     refine skip_ (w1 := ?_) (by rfl) rfl ?_ ?_
     rotate_left;focus(go_simp;rfl)
     refine hK.out _ _ ⟨(far3 (g := gb133) NB128_133.out (hHeld.1)), (far3 (g := gb133) NB128_133.out (hHeld.2.1)), (far3 (g := gb133) NB128_133.out (hHeld.2.2.1)), (far3 (g := gb133) NB129_133.out (hHeld.2.2.2.1)), (far3 (g := gb133) NB129_133.out (hHeld.2.2.2.2.1)), (far3 (g := gb133) NB129_133.out (hHeld.2.2.2.2.2.1)), (far3 (g := gb133) NB129_133.out (hHeld.2.2.2.2.2.2.1)), (far3 (g := gb133) (ltw hw130_0 GW133.out) (hHeld.2.2.2.2.2.2.2.1)), (far3 (g := gb133) (ltw hw130_1 GW133.out) (hHeld.2.2.2.2.2.2.2.2.1)), (far3 (g := gb133) (ltw hw130_2 GW133.out) (hHeld.2.2.2.2.2.2.2.2.2.1)), (far3 (g := gb133) (ltw hw131_0 GW133.out) (hHeld.2.2.2.2.2.2.2.2.2.2.1)), (far3 (g := gb133) (ltw hw131_1 GW133.out) (hHeld.2.2.2.2.2.2.2.2.2.2.2.1)), (far3 (g := gb133) (ltw hw131_2 GW133.out) (hHeld.2.2.2.2.2.2.2.2.2.2.2.2))⟩ (fun hHeld => ?_)
     clear hK K
     refine done_ (done_of HT_.out (by kernel_rfl)) ?_
     have hnb20 := NB129_128.out
     have hnc20 := NB128_129.out
     have hnb21 := NB129_132.out
     have hnc21 := NB132_129.out
     have hnb22 := NB129_133.out
     have hnc22 := NB133_129.out
     have hcz23_0 : w13.cell? ⟨gb129, 0, none⟩ = some (.int .i64 a1_0) := (blk_cell BK129.out 0).trans rfl
     have hcz23_1 : w13.cell? ⟨gb129, 1, none⟩ = some (.int .i64 a1_1) := (blk_cell BK129.out 1).trans rfl
     have hcz23_2 : w13.cell? ⟨gb129, 2, none⟩ = some (.int .i64 a1_2) := (blk_cell BK129.out 2).trans rfl
     have hcz23_3 : w13.cell? ⟨gb129, 3, none⟩ = some (.int .i64 a1_3) := (blk_cell BK129.out 3).trans rfl
     have hfz23_0 := blk_frozen BK129.out 0
     have hfz23_1 := blk_frozen BK129.out 1
     have hfz23_2 := blk_frozen BK129.out 2
     have hfz23_3 := blk_frozen BK129.out 3
     go_upto_if 22 with (fail)
     go_cut [22] (fun v22 wc => ∃ (kq : Nat) (x22_6 : Bool), v22 = .bool x22_6 ∧ Aside0 (fitsA.j0 kq false l0_0 a1_2 x22_6 a1_0 a1_1 a1_2 a1_3 ((rd_T36 l0_0 a1_0).f0) ((rd_T36 l0_0 a1_0).f1) ((rd_T36 l0_0 a1_0).f2) ((rd_T36 l0_0 a1_1).f0) ((rd_T36 l0_0 a1_1).f1) ((rd_T36 l0_0 a1_1).f2) = some r) ∧ Aside0 (kq ≤ k) ∧ Aside0 (wc.heap[gb128]? = some (.cells #[(.slice (some ad130) l0_0.length c0_0), (.slice A0_1 l0_1.length c0_1), .int .i64 a0_2] 25 (0, 0))) ∧ Aside0 (wc.heap[gb129]? = some (.cells #[.int .i64 a1_0, .int .i64 a1_1, .int .i64 a1_2, .int .i64 a1_3] 33 (0, 0))) ∧ Aside0 (wc.heap[gb132]? = some (.cells #[.int .i64 ((rd_T36 l0_0 a1_0).f0), .int .i64 ((rd_T36 l0_0 a1_0).f1), .int .i64 ((rd_T36 l0_0 a1_0).f2)] 36 (0, 0))) ∧ Aside0 (wc.heap[gb133]? = some (.cells #[.int .i64 ((rd_T36 l0_0 a1_1).f0), .int .i64 ((rd_T36 l0_0 a1_1).f1), .int .i64 ((rd_T36 l0_0 a1_1).f2)] 36 (0, 0))) ∧ Aside0 (Below w.heap.size w wc))
     case first =>
      have H := HC7.out
      clear HC7
      by_cases c24 : a1_2 = 1
      ·rw [if_pos c24] at H
       have c24b0 : (a1_2 == 1) = true := beq_iff_eq.mpr c24
       have c24b1 : (a1_2 != 1) = false := bne_eq_false_iff_eq.mpr c24
       clear c24
       (first | rw [c24b0] | (simp only [i64_w, i32_w]; rw [c24b0]) | skip)
       have H' := Aside0.mk H
       clear H
       go_wp2
       go_meet
       case rel => exact ⟨_, ((a1_2 == 1)), (by first | rfl | (simp; done) | (simp [*]; done)), H', ⟨by first | omega | exact Nat.le_refl _⟩, ⟨by (with_reducible repeat first | apply bn | apply bd | apply ba); refine blk_far ?_ NB128_133.out _; refine blk_far ?_ NB128_133.out _; refine blk_far ?_ NB128_133.out _; refine blk_far ?_ NB128_132.out _; refine blk_far ?_ NB128_132.out _; refine blk_far ?_ NB128_132.out _; (with_reducible repeat first | apply bn | apply bd | apply ba); exact BK128.out⟩, ⟨by (with_reducible repeat first | apply bn | apply bd | apply ba); refine blk_far ?_ NB129_133.out _; refine blk_far ?_ NB129_133.out _; refine blk_far ?_ NB129_133.out _; refine blk_far ?_ NB129_132.out _; refine blk_far ?_ NB129_132.out _; refine blk_far ?_ NB129_132.out _; (with_reducible repeat first | apply bn | apply bd | apply ba); exact BK129.out⟩, ⟨by (with_reducible repeat first | apply bn | apply bd | apply ba); refine blk_far ?_ NB132_133.out _; refine blk_far ?_ NB132_133.out _; refine blk_far ?_ NB132_133.out _; refine blk_put (cs := #[.int .i64 ((rd_T36 l0_0 a1_0).f0), .int .i64 ((rd_T36 l0_0 a1_0).f1), .int .i64 0]) ?_ 2 _ rfl; refine blk_put (cs := #[.int .i64 ((rd_T36 l0_0 a1_0).f0), .int .i64 0, .int .i64 0]) ?_ 1 _ rfl; refine blk_put (cs := #[.int .i64 0, .int .i64 0, .int .i64 0]) ?_ 0 _ rfl; (with_reducible repeat first | apply bn | apply bd | apply ba); exact BK132.out⟩, ⟨by (with_reducible repeat first | apply bn | apply bd | apply ba); refine blk_put (cs := #[.int .i64 ((rd_T36 l0_0 a1_1).f0), .int .i64 ((rd_T36 l0_0 a1_1).f1), .int .i64 0]) ?_ 2 _ rfl; refine blk_put (cs := #[.int .i64 ((rd_T36 l0_0 a1_1).f0), .int .i64 0, .int .i64 0]) ?_ 1 _ rfl; refine blk_put (cs := #[.int .i64 0, .int .i64 0, .int .i64 0]) ?_ 0 _ rfl; refine blk_far ?_ NB133_132.out _; refine blk_far ?_ NB133_132.out _; refine blk_far ?_ NB133_132.out _; (with_reducible repeat first | apply bn | apply bd | apply ba); exact BK133.out⟩, ⟨by repeat with_reducible first | exact HB.out | apply below_alloc | apply pw_below_drewN | apply below_drew1 | refine below_set ?_ GE128.out | refine below_set ?_ GE129.out | refine below_set ?_ GE132.out | refine below_set ?_ GE133.out⟩⟩
      ·rw [if_neg c24] at H
       have c24b0 : (a1_2 == 1) = false := beq_eq_false_iff_ne.mpr c24
       have c24b1 : (a1_2 != 1) = true := bne_iff_ne.mpr c24
       (first | rw [c24b0] | (simp only [i64_w, i32_w]; rw [c24b0]) | skip)
       have H' := Aside0.mk H
       clear H
       go_wp2
       go_meet
       case rel => exact ⟨_, ((a1_2 == 5)), (by first | rfl | (simp; done) | (simp [*]; done)), H', ⟨by first | omega | exact Nat.le_refl _⟩, ⟨by (with_reducible repeat first | apply bn | apply bd | apply ba); refine blk_far ?_ NB128_133.out _; refine blk_far ?_ NB128_133.out _; refine blk_far ?_ NB128_133.out _; refine blk_far ?_ NB128_132.out _; refine blk_far ?_ NB128_132.out _; refine blk_far ?_ NB128_132.out _; (with_reducible repeat first | apply bn | apply bd | apply ba); exact BK128.out⟩, ⟨by (with_reducible repeat first | apply bn | apply bd | apply ba); refine blk_far ?_ NB129_133.out _; refine blk_far ?_ NB129_133.out _; refine blk_far ?_ NB129_133.out _; refine blk_far ?_ NB129_132.out _; refine blk_far ?_ NB129_132.out _; refine blk_far ?_ NB129_132.out _; (with_reducible repeat first | apply bn | apply bd | apply ba); exact BK129.out⟩, ⟨by (with_reducible repeat first | apply bn | apply bd | apply ba); refine blk_far ?_ NB132_133.out _; refine blk_far ?_ NB132_133.out _; refine blk_far ?_ NB132_133.out _; refine blk_put (cs := #[.int .i64 ((rd_T36 l0_0 a1_0).f0), .int .i64 ((rd_T36 l0_0 a1_0).f1), .int .i64 0]) ?_ 2 _ rfl; refine blk_put (cs := #[.int .i64 ((rd_T36 l0_0 a1_0).f0), .int .i64 0, .int .i64 0]) ?_ 1 _ rfl; refine blk_put (cs := #[.int .i64 0, .int .i64 0, .int .i64 0]) ?_ 0 _ rfl; (with_reducible repeat first | apply bn | apply bd | apply ba); exact BK132.out⟩, ⟨by (with_reducible repeat first | apply bn | apply bd | apply ba); refine blk_put (cs := #[.int .i64 ((rd_T36 l0_0 a1_1).f0), .int .i64 ((rd_T36 l0_0 a1_1).f1), .int .i64 0]) ?_ 2 _ rfl; refine blk_put (cs := #[.int .i64 ((rd_T36 l0_0 a1_1).f0), .int .i64 0, .int .i64 0]) ?_ 1 _ rfl; refine blk_put (cs := #[.int .i64 0, .int .i64 0, .int .i64 0]) ?_ 0 _ rfl; refine blk_far ?_ NB133_132.out _; refine blk_far ?_ NB133_132.out _; refine blk_far ?_ NB133_132.out _; (with_reducible repeat first | apply bn | apply bd | apply ba); exact BK133.out⟩, ⟨by repeat with_reducible first | exact HB.out | apply below_alloc | apply pw_below_drewN | apply below_drew1 | refine below_set ?_ GE128.out | refine below_set ?_ GE129.out | refine below_set ?_ GE132.out | refine below_set ?_ GE133.out⟩⟩
     case rest =>
      clear HC7
      (try clear c1);(try clear p1);(try clear q1);(try clear hx1);(try clear c2);(try clear p2);(try clear c3);(try clear c3b0);(try clear c4);(try clear c4b0);(try clear c5);(try clear c5b0);(try clear c6);(try clear c6b0);(try clear c13);(try clear p13);(try clear q13);(try clear hx13);(try clear c20);(try clear c21);(try clear c22);(try clear c24);(try clear c24b0);(try clear c24b1);(try clear hcz23_0);(try clear hcz23_1);(try clear hcz23_2);(try clear hcz23_3);(try clear hfz23_0);(try clear hfz23_1);(try clear hfz23_2);(try clear hfz23_3);(try clear hx130_0);(try clear hx130_1);(try clear hx130_2);(try clear hx131_0);(try clear hx131_1);(try clear hx131_2);(try clear p130);(try clear p131);(try clear q130);(try clear q131)
      obtain ⟨kq, x22_6, rfl, HA, HJ6, BK128, BK129, BK132, BK133, HB⟩ := hcut
      cases kq with
      | zero => exact absurd HA.out (by simp [fitsA.j0])
      | succ kj6 =>
       have H := HA.out
       clear HA
       simp only [fitsA.j0] at H
       by_cases c25 : x22_6 = true
       ·subst c25
        have H1 : (if ((rd_T36 l0_0 a1_0).f0) = ((rd_T36 l0_0 a1_1).f0) then (if ((rd_T36 l0_0 a1_0).f1) = 3 then (some false) else (if ((rd_T36 l0_0 a1_0).f1) = 4 then (some false) else (if ((rd_T36 l0_0 a1_1).f1) = 1 then (some false) else (if a1_2 = 1 then (some true) else (some (((rd_T36 l0_0 a1_0).f1) == 2)))))) else (some false)) = some r := by rw [if_pos rfl] at H; exact H
        clear H
        have H := H1
        clear H1
        by_cases c26 : ((rd_T36 l0_0 a1_0).f0) = ((rd_T36 l0_0 a1_1).f0)
        ·rw [if_pos c26] at H
         have c26b0 : (((rd_T36 l0_0 a1_0).f0) == ((rd_T36 l0_0 a1_1).f0)) = true := beq_iff_eq.mpr c26
         have c26b1 : (((rd_T36 l0_0 a1_0).f0) != ((rd_T36 l0_0 a1_1).f0)) = false := bne_eq_false_iff_eq.mpr c26
         clear c26
         by_cases c27 : ((rd_T36 l0_0 a1_0).f1) = 3
         ·rw [if_pos c27] at H
          have c27b0 : (((rd_T36 l0_0 a1_0).f1) == 3) = true := beq_iff_eq.mpr c27
          have c27b1 : (((rd_T36 l0_0 a1_0).f1) != 3) = false := bne_eq_false_iff_eq.mpr c27
          clear c27
          obtain rfl := Option.some.inj H
          have hnb28 := NB132_128.out
          have hnc28 := NB128_132.out
          have hnb29 := NB132_129.out
          have hnc29 := NB129_132.out
          have hnb30 := NB132_133.out
          have hnc30 := NB133_132.out
          have hcz31_0 : wc.cell? ⟨gb132, 0, none⟩ = some (.int .i64 ((rd_T36 l0_0 a1_0).f0)) := (blk_cell BK132.out 0).trans rfl
          have hcz31_1 : wc.cell? ⟨gb132, 1, none⟩ = some (.int .i64 ((rd_T36 l0_0 a1_0).f1)) := (blk_cell BK132.out 1).trans rfl
          have hcz31_2 : wc.cell? ⟨gb132, 2, none⟩ = some (.int .i64 ((rd_T36 l0_0 a1_0).f2)) := (blk_cell BK132.out 2).trans rfl
          have hfz31_0 := blk_frozen BK132.out 0
          have hfz31_1 := blk_frozen BK132.out 1
          have hfz31_2 := blk_frozen BK132.out 2
          have hnb32 := NB133_128.out
          have hnc32 := NB128_133.out
          have hnb33 := NB133_129.out
          have hnc33 := NB129_133.out
          have hcz34_0 : wc.cell? ⟨gb133, 0, none⟩ = some (.int .i64 ((rd_T36 l0_0 a1_1).f0)) := (blk_cell BK133.out 0).trans rfl
          have hcz34_1 : wc.cell? ⟨gb133, 1, none⟩ = some (.int .i64 ((rd_T36 l0_0 a1_1).f1)) := (blk_cell BK133.out 1).trans rfl
          have hcz34_2 : wc.cell? ⟨gb133, 2, none⟩ = some (.int .i64 ((rd_T36 l0_0 a1_1).f2)) := (blk_cell BK133.out 2).trans rfl
          have hfz34_0 := blk_frozen BK133.out 0
          have hfz34_1 := blk_frozen BK133.out 1
          have hfz34_2 := blk_frozen BK133.out 2
          go_wp2
          go_ret
          exact ⟨by first | rfl | (simp [errW_none, errW_some] <;> rfl) | (simp [*, errW_none, errW_some] <;> rfl), by repeat with_reducible first | exact HB.out | apply below_alloc | apply pw_below_drewN | apply below_drew1 | refine below_set ?_ GE128.out | refine below_set ?_ GE129.out | refine below_set ?_ GE132.out | refine below_set ?_ GE133.out⟩
         ·rw [if_neg c27] at H
          have c27b0 : (((rd_T36 l0_0 a1_0).f1) == 3) = false := beq_eq_false_iff_ne.mpr c27
          have c27b1 : (((rd_T36 l0_0 a1_0).f1) != 3) = true := bne_iff_ne.mpr c27
          by_cases c35 : ((rd_T36 l0_0 a1_0).f1) = 4
          ·rw [if_pos c35] at H
           have c35b0 : (((rd_T36 l0_0 a1_0).f1) == 4) = true := beq_iff_eq.mpr c35
           have c35b1 : (((rd_T36 l0_0 a1_0).f1) != 4) = false := bne_eq_false_iff_eq.mpr c35
           clear c35
           obtain rfl := Option.some.inj H
           have hnb36 := NB132_128.out
           have hnc36 := NB128_132.out
           have hnb37 := NB132_129.out
           have hnc37 := NB129_132.out
           have hnb38 := NB132_133.out
           have hnc38 := NB133_132.out
           have hcz39_0 : wc.cell? ⟨gb132, 0, none⟩ = some (.int .i64 ((rd_T36 l0_0 a1_0).f0)) := (blk_cell BK132.out 0).trans rfl
           have hcz39_1 : wc.cell? ⟨gb132, 1, none⟩ = some (.int .i64 ((rd_T36 l0_0 a1_0).f1)) := (blk_cell BK132.out 1).trans rfl
           have hcz39_2 : wc.cell? ⟨gb132, 2, none⟩ = some (.int .i64 ((rd_T36 l0_0 a1_0).f2)) := (blk_cell BK132.out 2).trans rfl
           have hfz39_0 := blk_frozen BK132.out 0
           have hfz39_1 := blk_frozen BK132.out 1
           have hfz39_2 := blk_frozen BK132.out 2
           have hnb40 := NB133_128.out
           have hnc40 := NB128_133.out
           have hnb41 := NB133_129.out
           have hnc41 := NB129_133.out
           have hcz42_0 : wc.cell? ⟨gb133, 0, none⟩ = some (.int .i64 ((rd_T36 l0_0 a1_1).f0)) := (blk_cell BK133.out 0).trans rfl
           have hcz42_1 : wc.cell? ⟨gb133, 1, none⟩ = some (.int .i64 ((rd_T36 l0_0 a1_1).f1)) := (blk_cell BK133.out 1).trans rfl
           have hcz42_2 : wc.cell? ⟨gb133, 2, none⟩ = some (.int .i64 ((rd_T36 l0_0 a1_1).f2)) := (blk_cell BK133.out 2).trans rfl
           have hfz42_0 := blk_frozen BK133.out 0
           have hfz42_1 := blk_frozen BK133.out 1
           have hfz42_2 := blk_frozen BK133.out 2
           go_wp2
           go_ret
           exact ⟨by first | rfl | (simp [errW_none, errW_some] <;> rfl) | (simp [*, errW_none, errW_some] <;> rfl), by repeat with_reducible first | exact HB.out | apply below_alloc | apply pw_below_drewN | apply below_drew1 | refine below_set ?_ GE128.out | refine below_set ?_ GE129.out | refine below_set ?_ GE132.out | refine below_set ?_ GE133.out⟩
          ·rw [if_neg c35] at H
           have c35b0 : (((rd_T36 l0_0 a1_0).f1) == 4) = false := beq_eq_false_iff_ne.mpr c35
           have c35b1 : (((rd_T36 l0_0 a1_0).f1) != 4) = true := bne_iff_ne.mpr c35
           by_cases c43 : ((rd_T36 l0_0 a1_1).f1) = 1
           ·rw [if_pos c43] at H
            have c43b0 : (((rd_T36 l0_0 a1_1).f1) == 1) = true := beq_iff_eq.mpr c43
            have c43b1 : (((rd_T36 l0_0 a1_1).f1) != 1) = false := bne_eq_false_iff_eq.mpr c43
            clear c43
            obtain rfl := Option.some.inj H
            have hnb44 := NB132_128.out
            have hnc44 := NB128_132.out
            have hnb45 := NB132_129.out
            have hnc45 := NB129_132.out
            have hnb46 := NB132_133.out
            have hnc46 := NB133_132.out
            have hcz47_0 : wc.cell? ⟨gb132, 0, none⟩ = some (.int .i64 ((rd_T36 l0_0 a1_0).f0)) := (blk_cell BK132.out 0).trans rfl
            have hcz47_1 : wc.cell? ⟨gb132, 1, none⟩ = some (.int .i64 ((rd_T36 l0_0 a1_0).f1)) := (blk_cell BK132.out 1).trans rfl
            have hcz47_2 : wc.cell? ⟨gb132, 2, none⟩ = some (.int .i64 ((rd_T36 l0_0 a1_0).f2)) := (blk_cell BK132.out 2).trans rfl
            have hfz47_0 := blk_frozen BK132.out 0
            have hfz47_1 := blk_frozen BK132.out 1
            have hfz47_2 := blk_frozen BK132.out 2
            have hnb48 := NB133_128.out
            have hnc48 := NB128_133.out
            have hnb49 := NB133_129.out
            have hnc49 := NB129_133.out
            have hcz50_0 : wc.cell? ⟨gb133, 0, none⟩ = some (.int .i64 ((rd_T36 l0_0 a1_1).f0)) := (blk_cell BK133.out 0).trans rfl
            have hcz50_1 : wc.cell? ⟨gb133, 1, none⟩ = some (.int .i64 ((rd_T36 l0_0 a1_1).f1)) := (blk_cell BK133.out 1).trans rfl
            have hcz50_2 : wc.cell? ⟨gb133, 2, none⟩ = some (.int .i64 ((rd_T36 l0_0 a1_1).f2)) := (blk_cell BK133.out 2).trans rfl
            have hfz50_0 := blk_frozen BK133.out 0
            have hfz50_1 := blk_frozen BK133.out 1
            have hfz50_2 := blk_frozen BK133.out 2
            go_wp2
            go_ret
            exact ⟨by first | rfl | (simp [errW_none, errW_some] <;> rfl) | (simp [*, errW_none, errW_some] <;> rfl), by repeat with_reducible first | exact HB.out | apply below_alloc | apply pw_below_drewN | apply below_drew1 | refine below_set ?_ GE128.out | refine below_set ?_ GE129.out | refine below_set ?_ GE132.out | refine below_set ?_ GE133.out⟩
           ·rw [if_neg c43] at H
            have c43b0 : (((rd_T36 l0_0 a1_1).f1) == 1) = false := beq_eq_false_iff_ne.mpr c43
            have c43b1 : (((rd_T36 l0_0 a1_1).f1) != 1) = true := bne_iff_ne.mpr c43
            by_cases c51 : a1_2 = 1
            ·rw [if_pos c51] at H
             have c51b0 : (a1_2 == 1) = true := beq_iff_eq.mpr c51
             have c51b1 : (a1_2 != 1) = false := bne_eq_false_iff_eq.mpr c51
             clear c51
             obtain rfl := Option.some.inj H
             have hnb52 := NB132_128.out
             have hnc52 := NB128_132.out
             have hnb53 := NB132_129.out
             have hnc53 := NB129_132.out
             have hnb54 := NB132_133.out
             have hnc54 := NB133_132.out
             have hcz55_0 : wc.cell? ⟨gb132, 0, none⟩ = some (.int .i64 ((rd_T36 l0_0 a1_0).f0)) := (blk_cell BK132.out 0).trans rfl
             have hcz55_1 : wc.cell? ⟨gb132, 1, none⟩ = some (.int .i64 ((rd_T36 l0_0 a1_0).f1)) := (blk_cell BK132.out 1).trans rfl
             have hcz55_2 : wc.cell? ⟨gb132, 2, none⟩ = some (.int .i64 ((rd_T36 l0_0 a1_0).f2)) := (blk_cell BK132.out 2).trans rfl
             have hfz55_0 := blk_frozen BK132.out 0
             have hfz55_1 := blk_frozen BK132.out 1
             have hfz55_2 := blk_frozen BK132.out 2
             have hnb56 := NB133_128.out
             have hnc56 := NB128_133.out
             have hnb57 := NB133_129.out
             have hnc57 := NB129_133.out
             have hcz58_0 : wc.cell? ⟨gb133, 0, none⟩ = some (.int .i64 ((rd_T36 l0_0 a1_1).f0)) := (blk_cell BK133.out 0).trans rfl
             have hcz58_1 : wc.cell? ⟨gb133, 1, none⟩ = some (.int .i64 ((rd_T36 l0_0 a1_1).f1)) := (blk_cell BK133.out 1).trans rfl
             have hcz58_2 : wc.cell? ⟨gb133, 2, none⟩ = some (.int .i64 ((rd_T36 l0_0 a1_1).f2)) := (blk_cell BK133.out 2).trans rfl
             have hfz58_0 := blk_frozen BK133.out 0
             have hfz58_1 := blk_frozen BK133.out 1
             have hfz58_2 := blk_frozen BK133.out 2
             have hnb59 := NB129_128.out
             have hnc59 := NB128_129.out
             have hcz60_0 : wc.cell? ⟨gb129, 0, none⟩ = some (.int .i64 a1_0) := (blk_cell BK129.out 0).trans rfl
             have hcz60_1 : wc.cell? ⟨gb129, 1, none⟩ = some (.int .i64 a1_1) := (blk_cell BK129.out 1).trans rfl
             have hcz60_2 : wc.cell? ⟨gb129, 2, none⟩ = some (.int .i64 a1_2) := (blk_cell BK129.out 2).trans rfl
             have hcz60_3 : wc.cell? ⟨gb129, 3, none⟩ = some (.int .i64 a1_3) := (blk_cell BK129.out 3).trans rfl
             have hfz60_0 := blk_frozen BK129.out 0
             have hfz60_1 := blk_frozen BK129.out 1
             have hfz60_2 := blk_frozen BK129.out 2
             have hfz60_3 := blk_frozen BK129.out 3
             go_wp2
             go_ret
             exact ⟨by first | rfl | (simp [errW_none, errW_some] <;> rfl) | (simp [*, errW_none, errW_some] <;> rfl), by repeat with_reducible first | exact HB.out | apply below_alloc | apply pw_below_drewN | apply below_drew1 | refine below_set ?_ GE128.out | refine below_set ?_ GE129.out | refine below_set ?_ GE132.out | refine below_set ?_ GE133.out⟩
            ·rw [if_neg c51] at H
             have c51b0 : (a1_2 == 1) = false := beq_eq_false_iff_ne.mpr c51
             have c51b1 : (a1_2 != 1) = true := bne_iff_ne.mpr c51
             obtain rfl := Option.some.inj H
             have hnb61 := NB132_128.out
             have hnc61 := NB128_132.out
             have hnb62 := NB132_129.out
             have hnc62 := NB129_132.out
             have hnb63 := NB132_133.out
             have hnc63 := NB133_132.out
             have hcz64_0 : wc.cell? ⟨gb132, 0, none⟩ = some (.int .i64 ((rd_T36 l0_0 a1_0).f0)) := (blk_cell BK132.out 0).trans rfl
             have hcz64_1 : wc.cell? ⟨gb132, 1, none⟩ = some (.int .i64 ((rd_T36 l0_0 a1_0).f1)) := (blk_cell BK132.out 1).trans rfl
             have hcz64_2 : wc.cell? ⟨gb132, 2, none⟩ = some (.int .i64 ((rd_T36 l0_0 a1_0).f2)) := (blk_cell BK132.out 2).trans rfl
             have hfz64_0 := blk_frozen BK132.out 0
             have hfz64_1 := blk_frozen BK132.out 1
             have hfz64_2 := blk_frozen BK132.out 2
             have hnb65 := NB133_128.out
             have hnc65 := NB128_133.out
             have hnb66 := NB133_129.out
             have hnc66 := NB129_133.out
             have hcz67_0 : wc.cell? ⟨gb133, 0, none⟩ = some (.int .i64 ((rd_T36 l0_0 a1_1).f0)) := (blk_cell BK133.out 0).trans rfl
             have hcz67_1 : wc.cell? ⟨gb133, 1, none⟩ = some (.int .i64 ((rd_T36 l0_0 a1_1).f1)) := (blk_cell BK133.out 1).trans rfl
             have hcz67_2 : wc.cell? ⟨gb133, 2, none⟩ = some (.int .i64 ((rd_T36 l0_0 a1_1).f2)) := (blk_cell BK133.out 2).trans rfl
             have hfz67_0 := blk_frozen BK133.out 0
             have hfz67_1 := blk_frozen BK133.out 1
             have hfz67_2 := blk_frozen BK133.out 2
             have hnb68 := NB129_128.out
             have hnc68 := NB128_129.out
             have hcz69_0 : wc.cell? ⟨gb129, 0, none⟩ = some (.int .i64 a1_0) := (blk_cell BK129.out 0).trans rfl
             have hcz69_1 : wc.cell? ⟨gb129, 1, none⟩ = some (.int .i64 a1_1) := (blk_cell BK129.out 1).trans rfl
             have hcz69_2 : wc.cell? ⟨gb129, 2, none⟩ = some (.int .i64 a1_2) := (blk_cell BK129.out 2).trans rfl
             have hcz69_3 : wc.cell? ⟨gb129, 3, none⟩ = some (.int .i64 a1_3) := (blk_cell BK129.out 3).trans rfl
             have hfz69_0 := blk_frozen BK129.out 0
             have hfz69_1 := blk_frozen BK129.out 1
             have hfz69_2 := blk_frozen BK129.out 2
             have hfz69_3 := blk_frozen BK129.out 3
             go_wp2
             go_ret
             exact ⟨by first | rfl | (simp [errW_none, errW_some] <;> rfl) | (simp [*, errW_none, errW_some] <;> rfl), by repeat with_reducible first | exact HB.out | apply below_alloc | apply pw_below_drewN | apply below_drew1 | refine below_set ?_ GE128.out | refine below_set ?_ GE129.out | refine below_set ?_ GE132.out | refine below_set ?_ GE133.out⟩
        ·rw [if_neg c26] at H
         have c26b0 : (((rd_T36 l0_0 a1_0).f0) == ((rd_T36 l0_0 a1_1).f0)) = false := beq_eq_false_iff_ne.mpr c26
         have c26b1 : (((rd_T36 l0_0 a1_0).f0) != ((rd_T36 l0_0 a1_1).f0)) = true := bne_iff_ne.mpr c26
         obtain rfl := Option.some.inj H
         have hnb70 := NB132_128.out
         have hnc70 := NB128_132.out
         have hnb71 := NB132_129.out
         have hnc71 := NB129_132.out
         have hnb72 := NB132_133.out
         have hnc72 := NB133_132.out
         have hcz73_0 : wc.cell? ⟨gb132, 0, none⟩ = some (.int .i64 ((rd_T36 l0_0 a1_0).f0)) := (blk_cell BK132.out 0).trans rfl
         have hcz73_1 : wc.cell? ⟨gb132, 1, none⟩ = some (.int .i64 ((rd_T36 l0_0 a1_0).f1)) := (blk_cell BK132.out 1).trans rfl
         have hcz73_2 : wc.cell? ⟨gb132, 2, none⟩ = some (.int .i64 ((rd_T36 l0_0 a1_0).f2)) := (blk_cell BK132.out 2).trans rfl
         have hfz73_0 := blk_frozen BK132.out 0
         have hfz73_1 := blk_frozen BK132.out 1
         have hfz73_2 := blk_frozen BK132.out 2
         have hnb74 := NB133_128.out
         have hnc74 := NB128_133.out
         have hnb75 := NB133_129.out
         have hnc75 := NB129_133.out
         have hcz76_0 : wc.cell? ⟨gb133, 0, none⟩ = some (.int .i64 ((rd_T36 l0_0 a1_1).f0)) := (blk_cell BK133.out 0).trans rfl
         have hcz76_1 : wc.cell? ⟨gb133, 1, none⟩ = some (.int .i64 ((rd_T36 l0_0 a1_1).f1)) := (blk_cell BK133.out 1).trans rfl
         have hcz76_2 : wc.cell? ⟨gb133, 2, none⟩ = some (.int .i64 ((rd_T36 l0_0 a1_1).f2)) := (blk_cell BK133.out 2).trans rfl
         have hfz76_0 := blk_frozen BK133.out 0
         have hfz76_1 := blk_frozen BK133.out 1
         have hfz76_2 := blk_frozen BK133.out 2
         go_wp2
         go_ret
         exact ⟨by first | rfl | (simp [errW_none, errW_some] <;> rfl) | (simp [*, errW_none, errW_some] <;> rfl), by repeat with_reducible first | exact HB.out | apply below_alloc | apply pw_below_drewN | apply below_drew1 | refine below_set ?_ GE128.out | refine below_set ?_ GE129.out | refine below_set ?_ GE132.out | refine below_set ?_ GE133.out⟩
       ·replace c25 := Bool.eq_false_iff.mpr c25
        subst c25
        have H1 : (if a1_2 = 2 then (if 0 ≤ (-1) then (if (-1) < (l0_0.length : Int) then (some false) else (none)) else (none)) else (if 0 ≤ (-1) then (if (-1) < (l0_0.length : Int) then (some false) else (none)) else (none))) = some r := by rw [if_neg (show ¬ (false = true) by decide)] at H; exact H
        clear H
        have H := H1
        clear H1
        by_cases c77 : a1_2 = 2
        ·rw [if_pos c77] at H
         have c77b0 : (a1_2 == 2) = true := beq_iff_eq.mpr c77
         have c77b1 : (a1_2 != 2) = false := bne_eq_false_iff_eq.mpr c77
         clear c77
         by_cases c78 : 0 ≤ (-1)
         ·exact absurd c78 (by decide)
         ·rw [if_neg c78] at H
          exact absurd H (by simp)
        ·rw [if_neg c77] at H
         have c77b0 : (a1_2 == 2) = false := beq_eq_false_iff_ne.mpr c77
         have c77b1 : (a1_2 != 2) = true := bne_iff_ne.mpr c77
         by_cases c80 : 0 ≤ (-1)
         ·exact absurd c80 (by decide)
         ·rw [if_neg c80] at H
          exact absurd H (by simp)
    ·rw [if_neg c6] at H
     exact absurd H (by simp)
   ·rw [if_neg c5] at H
    exact absurd H (by simp)
  ·rw [if_neg c4] at H
   exact absurd H (by simp)
 ·rw [if_neg c3] at H
  exact absurd H (by simp)

end Go.Proofs.Ytbmhpnegigccnaa.PS
