/- Printed by a program of this session out of the translation: plain functions with the answers of the Go functions, and the proofs that they have them. -/
import Derived.Test.YtlfoehjjgbnkaaaDoorPBx0
import Derived.Test.YtlfoehjjgbnkaaaDoorPBx1
import Derived.Test.YtlfoehjjgbnkaaaDoorPBx2
namespace Go.Proofs.YtlfoehjjgbnkaaaDoor.PB
open Go.RowKit Go.Proofs.YtlfoehjjgbnkaaaDoorW.PrintWords Go.Proofs.YtlfoehjjgbnkaaaDoorW.PrintLast Go.Proofs.YtlfoehjjgbnkaaaDoorW.PrintMore
attribute [local go_sem] max2_int min2_int max_two min_two max_three min_three max_four min_four   -- for this text's walks alone
set_option linter.unusedVariables false
set_option linter.unusedSimpArgs false

/-! ### dataflowref01_Make: function 14 -/
mutual
def dataflowref01_Make.l0 : Nat → List Int → List Int → Int → Option (List Int)
  | 0, _, _, _ => none
  | k + 1, x0, x3, x4 => if x4 < (x0.length : Int) then (dataflowref01_Make.l1 k x0 x3 x4) else (some x3)
def dataflowref01_Make.l1 : Nat → List Int → List Int → Int → Option (List Int)
  | 0, _, _, _ => none
  | k + 1, x0, x3, x4 => if 0 ≤ x4 then (if x4 < (x0.length : Int) then (if (x3.length : Int) ≤ (wrap64 (Int.tdiv (rd x0 x4) 64)) then (if x3.length < 17592186044416 then (dataflowref01_Make.l1 k x0 (x3 ++ [0]) x4) else (none)) else (dataflowref01_Make.l2 k x0 x3 x4 1 0)) else (none)) else (none)
def dataflowref01_Make.l2 : Nat → List Int → List Int → Int → Int → Int → Option (List Int)
  | 0, _, _, _, _, _ => none
  | k + 1, x0, x3, x4, x5, x6 => if 0 ≤ x4 then (if x4 < (x0.length : Int) then (if x6 < (Int.tmod (rd x0 x4) 64) then (dataflowref01_Make.l2 k x0 x3 x4 (IntKind.u64.wrap (2 * x5)) (wrap64 (x6 + 1))) else (if 0 ≤ (wrap64 (Int.tdiv (rd x0 x4) 64)) then (if (wrap64 (Int.tdiv (rd x0 x4) 64)) < (x3.length : Int) then (dataflowref01_Make.l0 k x0 (x3.set ((wrap64 (Int.tdiv (rd x0 x4) 64)) : Int).toNat (IntKind.u64.wrap ((rd x3 (wrap64 (Int.tdiv (rd x0 x4) 64))) + x5))) (wrap64 (x4 + 1))) else (none)) else (none))) else (none)) else (none)
end
def dataflowref01_Make.f (k : Nat) (l0 : List Int) : Option (List Int) := dataflowref01_Make.l0 k l0 ([] : List Int) 0
theorem dataflowref01_Make.mono_l : ∀ k, (∀ y0 y1 y2, LeO (dataflowref01_Make.l0 k y0 y1 y2) (dataflowref01_Make.l0 (k + 1) y0 y1 y2)) ∧ (∀ y0 y1 y2, LeO (dataflowref01_Make.l1 k y0 y1 y2) (dataflowref01_Make.l1 (k + 1) y0 y1 y2)) ∧ (∀ y0 y1 y2 y3 y4, LeO (dataflowref01_Make.l2 k y0 y1 y2 y3 y4) (dataflowref01_Make.l2 (k + 1) y0 y1 y2 y3 y4))
  | 0 => ⟨fun _ _ _ r h => by simp [dataflowref01_Make.l0] at h, fun _ _ _ r h => by simp [dataflowref01_Make.l1] at h, fun _ _ _ _ _ r h => by simp [dataflowref01_Make.l2] at h⟩
  | k + 1 => by
    obtain ⟨ih0, ih1, ih2⟩ := dataflowref01_Make.mono_l k
    refine ⟨?_, ?_, ?_⟩
    · intro y0 y1 y2
      unfold dataflowref01_Make.l0
      repeat' first
      | (with_reducible exact ih0 _ _ _)
      | (with_reducible exact ih1 _ _ _)
      | (with_reducible exact ih2 _ _ _ _ _)
      | (with_reducible exact LeO.refl _)
      | (with_reducible exact LeO.none _)
      | (with_reducible refine LeO.ite ?_ ?_)
      | (with_reducible refine LeO.bind ?_ (fun _ => ?_))
      | exact ih0 _ _ _
      | exact ih1 _ _ _
      | exact ih2 _ _ _ _ _
      | exact LeO.none _
      | refine LeO.ite ?_ ?_
      | refine LeO.bind ?_ (fun _ => ?_)
    · intro y0 y1 y2
      unfold dataflowref01_Make.l1
      repeat' first
      | (with_reducible exact ih0 _ _ _)
      | (with_reducible exact ih1 _ _ _)
      | (with_reducible exact ih2 _ _ _ _ _)
      | (with_reducible exact LeO.refl _)
      | (with_reducible exact LeO.none _)
      | (with_reducible refine LeO.ite ?_ ?_)
      | (with_reducible refine LeO.bind ?_ (fun _ => ?_))
      | exact ih0 _ _ _
      | exact ih1 _ _ _
      | exact ih2 _ _ _ _ _
      | exact LeO.none _
      | refine LeO.ite ?_ ?_
      | refine LeO.bind ?_ (fun _ => ?_)
    · intro y0 y1 y2 y3 y4
      unfold dataflowref01_Make.l2
      repeat' first
      | (with_reducible exact ih0 _ _ _)
      | (with_reducible exact ih1 _ _ _)
      | (with_reducible exact ih2 _ _ _ _ _)
      | (with_reducible exact LeO.refl _)
      | (with_reducible exact LeO.none _)
      | (with_reducible refine LeO.ite ?_ ?_)
      | (with_reducible refine LeO.bind ?_ (fun _ => ?_))
      | exact ih0 _ _ _
      | exact ih1 _ _ _
      | exact ih2 _ _ _ _ _
      | exact LeO.none _
      | refine LeO.ite ?_ ?_
      | refine LeO.bind ?_ (fun _ => ?_)
theorem dataflowref01_Make.mono : ∀ a0 k, LeO (dataflowref01_Make.f k a0) (dataflowref01_Make.f (k + 1) a0) := by
  intro a0 k
  obtain ⟨ih0, ih1, ih2⟩ := dataflowref01_Make.mono_l k
  unfold dataflowref01_Make.f
  repeat' first
      | (with_reducible exact ih0 _ _ _)
      | (with_reducible exact ih1 _ _ _)
      | (with_reducible exact ih2 _ _ _ _ _)
      | (with_reducible exact LeO.refl _)
      | (with_reducible exact LeO.none _)
      | (with_reducible refine LeO.ite ?_ ?_)
      | (with_reducible refine LeO.bind ?_ (fun _ => ?_))
      | exact ih0 _ _ _
      | exact ih1 _ _ _
      | exact ih2 _ _ _ _ _
      | exact LeO.none _
      | refine LeO.ite ?_ ?_
      | refine LeO.bind ?_ (fun _ => ?_)
def dataflowref01_Make.T12 : Bool × List (List Nat × List Nat) := (true, [([], []), ([], []), ([], []), ([1, 2], [1, 2]), ([3], [3]), ([4], [4]), ([], []), ([], []), ([], []), ([7, 8], [7, 8]), ([9], [9]), ([10], [10]), ([6, 11], [6, 11]), ([12], [12]), ([], []), ([13, 14], [13, 14]), ([0, 5, 0, 1, 2, 3, 4, 5, 6, 7, 8, 9, 10, 11, 12, 13, 14, 15], [0, 5]), ([16, 15, 0, 1, 2, 3, 4, 5, 6, 7, 8, 9, 10, 11, 12, 13, 14, 15], [15, 16])])
def dataflowref01_Make.B12 : List Nat := [0, 0, 0, 6, 14, 30, 0, 0, 0, 384, 896, 1920, 4032, 8128, 0, 32704, 65535, 131071]
theorem dataflowref01_Make.tab12 : rtab .any (opsOf Tryd.f14 12) = dataflowref01_Make.T12 := by kernel_rfl
theorem dataflowref01_Make.bits12 : waitsOk dataflowref01_Make.T12.2 dataflowref01_Make.B12 = true := by kernel_rfl
set_option maxHeartbeats 8000000 in
set_option maxRecDepth 100000 in
theorem dataflowref01_Make.calls (k : Nat) (A0 : Option Addr) (c0 : Nat) (l0 : List Int) (r : List Int) (w : World) (hr0 : Kd.C (Kd.int .i64) w A0 l0.length l0) (hc0 : l0.length ≤ c0) (h : dataflowref01_Make.f k l0 = some r) :
    Calls Tryd.prog 14 #[.slice A0 l0.length c0] w fun e w' => ∃ v0_ : Value, e = .returned (v0_) ∧ Kd.R (Kd.int .u64) 54 w' w.heap.size (fun _ => True) v0_ r ∧ Below w.heap.size w w' := by
  have HR0 := Aside0.mk hr0
  have HC0 := Aside0.mk hc0
  clear hr0 hc0
  have HB := Aside0.mk (Below.refl w.heap.size w)
  have H : (dataflowref01_Make.l0 k l0 ([] : List Int) 0) = some r := h
  clear h
  have H' := Aside0.mk H
  clear H
  go_enter Tryd.func14, Tryd.ntmps14
  go_wp2
  go_loopg [3, 4] k (fun kq v3 v4 w' => ∃ (x3_1 : List Int) (x4_1 : Int), v4 = .int .i64 x4_1 ∧ Aside0 (dataflowref01_Make.l0 kq l0 x3_1 x4_1 = some r) ∧ Aside0 (kq ≤ k) ∧ Aside0 (Kd.R (Kd.int .u64) 54 w' w.heap.size (fun _ => True) v3 x3_1) ∧ Aside0 (Below w.heap.size w w'))
  case atStart => exact ⟨(([] : List Int)), (0), (by first | rfl | (simp; done) | (simp [*]; done)), H', ⟨Nat.le_refl _⟩, ⟨by first | exact Kd.R_nil _ _ _ _ _ | exact Kd.N_nil _ _ _ _ _ | exact Kd.V_nil _ _ _ _ _ | exact Kd.Q_nil _ _ _ _ _ | exact Kd.S_nil _ _ _ _ _⟩, ⟨by repeat (first | (with_reducible first | exact HB.out | apply below_alloc | apply pw_below_drewN | apply below_drew1) | exact HB.out)⟩⟩
  case round =>
    clear H'
    try clear c1
    obtain ⟨x3_1, x4_1, rfl, HA, HK1, HO_3, HB⟩ := hrel
    cases gk with
    | zero => exact absurd HA.out (by simp [dataflowref01_Make.l0])
    | succ k1 =>
      have H := HA.out
      clear HA
      simp only [dataflowref01_Make.l0] at H
      by_cases c2 : x4_1 < (l0.length : Int)
      · rw [if_pos c2] at H
        have c2b0 : decide (x4_1 < (l0.length : Int)) = true := decide_eq_true c2
        clear c2
        have H' := Aside0.mk H
        clear H
        go_wp2
        go_loopg [3] k1 (fun kq v3 w' => ∃ (x3_2 : List Int), Aside0 (dataflowref01_Make.l1 kq l0 x3_2 x4_1 = some r) ∧ Aside0 (kq ≤ k1) ∧ Aside0 (Kd.R (Kd.int .u64) 54 w' w.heap.size (fun _ => True) v3 x3_2) ∧ Aside0 (Below w.heap.size w w'))
        case atStart => exact ⟨(x3_1), H', ⟨Nat.le_refl _⟩, ⟨by (with_reducible repeat (first | apply Kd.R_alloc | apply Kd.R_drewN | apply Kd.R_drew)); exact HO_3.out⟩, ⟨by repeat (first | (with_reducible first | exact HB.out | apply below_alloc | apply pw_below_drewN | apply below_drew1) | exact HB.out)⟩⟩
        case round =>
          clear H'
          try clear c1
          try clear c2
          try clear c2b0
          try clear p2
          obtain ⟨x3_2, HA, HK2, HO_3, HB⟩ := hrel
          cases gk with
          | zero => exact absurd HA.out (by simp [dataflowref01_Make.l1])
          | succ k2 =>
            have H := HA.out
            clear HA
            simp only [dataflowref01_Make.l1] at H
            by_cases c3 : 0 ≤ x4_1
            · rw [if_pos c3] at H
              have c3b0 : decide (0 ≤ x4_1) = true := decide_eq_true c3
              clear c3
              by_cases c4 : x4_1 < (l0.length : Int)
              · rw [if_pos c4] at H
                have c4b0 : decide (x4_1 < (l0.length : Int)) = true := decide_eq_true c4
                clear c4
                by_cases c5 : (x3_2.length : Int) ≤ (wrap64 (Int.tdiv (rd l0 x4_1) 64))
                · rw [if_pos c5] at H
                  have c5b0 : decide ((x3_2.length : Int) ≤ (wrap64 (Int.tdiv (rd l0 x4_1) 64))) = true := decide_eq_true c5
                  clear c5
                  by_cases c6 : x3_2.length < 17592186044416
                  · rw [if_pos c6] at H
                    have LMc6 := Aside0.mk c6
                    clear c6
                    obtain ⟨y151, hy151⟩ : ∃ y_ : List Int, y_ = (x3_2 ++ [0]) := ⟨_, rfl⟩
                    replace H : (dataflowref01_Make.l1 k2 l0 y151 x4_1) = some r := by first | (rw [hy151]; with_reducible exact H) | (have H2_ := (Option.bind_some _ _).symm.trans H; rw [hy151]; with_reducible exact H2_) | (have H2_ := (Option.bind_some _ _).symm.trans H; with_reducible exact H2_) | with_reducible exact H | (rw [hy151]; exact H) | exact H
                    have Ny151 := Aside0.mk hy151
                    clear hy151
                    have H' := Aside0.mk H
                    clear H
                    obtain ⟨Ao7, co7, eo7⟩ := Kd.R_slice HO_3.out
                    subst eo7
                    have p150 : 0 ≤ (x4_1 : Int) := of_decide_eq_true (by first | (with_reducible assumption) | assumption)
                    have q150 : x4_1 < (l0.length : Int) := of_decide_eq_true (by first | (with_reducible assumption) | assumption)
                    obtain ⟨ad150, e150, hx150_0⟩ := Kd.at_int HR0.out x4_1 p150 q150
                    cases e150
                    replace hx150_0 := (HB.out.cell (World.block_lt_of_cell? w _ hx150_0)).trans hx150_0
                    replace p150 := eq_true p150
                    replace q150 := eq_true q150
                    go_wp2_with (first | ((with_reducible refine gate_builtin (b := .append) (xs := #[.tmp 21, .tmp 22]) rfl ?_); at_builtin; refine Kd.R_append (Kd.int .u64) (w0 := w) w.heap.size rfl (.tmp 21) (.tmp 22) 25 54 (.int .u64 0) 8 rfl Tryd.underlying25 info54 rfl (by decide) (by omega) (.slice Ao7 x3_2.length co7) x3_2 0 [.int .u64 0] (fun _ => True) (fun _ => False) rfl rfl ?aP (fun _ hk => hk.elim) ?aF ?aO ?aB ?aS ?aL ?_; (case aP => exact rfl); (case aB => exact (by repeat (first | (with_reducible first | exact HB.out | apply below_alloc | apply pw_below_drewN | apply below_drew1) | exact HB.out))); (case aF => exact (fun _ _ => trivial)); (case aO => exact (by (with_reducible repeat (first | apply Kd.R_alloc | apply Kd.R_drewN | apply Kd.R_drew)); exact HO_3.out)); (case aS => exact (below_size (by repeat (first | (with_reducible first | exact HB.out | apply below_alloc | apply pw_below_drewN | apply below_drew1) | exact HB.out)))); (case aL => have := LMc6.out; omega); intro v152 w8 ho hb hg hat; rw [← Ny151.out] at ho; have n0_ := Aside0.mk (hb); have n1_ := Aside0.mk (ho); clear HB; clear HO_3; have HB := n0_; have HO153 := n1_; clear n0_ n1_; clear ho hb hg hat))
                    go_roundg k2
                    case measure => have := HK1.out; have := HK2.out; omega
                    case rel => exact ⟨(y151), H', ⟨by have := HK1.out; have := HK2.out; omega⟩, ⟨by (with_reducible repeat (first | apply Kd.R_alloc | apply Kd.R_drewN | apply Kd.R_drew)); exact HO153.out⟩, ⟨by repeat (first | (with_reducible first | exact HB.out | apply below_alloc | apply pw_below_drewN | apply below_drew1) | exact HB.out)⟩⟩
                  · rw [if_neg c6] at H
                    exact absurd H (by simp)
                · rw [if_neg c5] at H
                  have c5b0 : decide ((x3_2.length : Int) ≤ (wrap64 (Int.tdiv (rd l0 x4_1) 64))) = false := decide_eq_false c5
                  clear c5
                  have H' := Aside0.mk H
                  clear H
                  obtain ⟨Ao9, co9, eo9⟩ := Kd.R_slice HO_3.out
                  subst eo9
                  have p150 : 0 ≤ (x4_1 : Int) := of_decide_eq_true (by first | (with_reducible assumption) | assumption)
                  have q150 : x4_1 < (l0.length : Int) := of_decide_eq_true (by first | (with_reducible assumption) | assumption)
                  obtain ⟨ad150, e150, hx150_0⟩ := Kd.at_int HR0.out x4_1 p150 q150
                  cases e150
                  replace hx150_0 := (HB.out.cell (World.block_lt_of_cell? w _ hx150_0)).trans hx150_0
                  replace p150 := eq_true p150
                  replace q150 := eq_true q150
                  go_wp2
                  go_loopg [5, 6] k2 (fun kq v5 v6 w' => ∃ (x5_3 : Int) (x6_3 : Int), v5 = .int .u64 x5_3 ∧ v6 = .int .i64 x6_3 ∧ Aside0 (dataflowref01_Make.l2 kq l0 x3_2 x4_1 x5_3 x6_3 = some r) ∧ Aside0 (kq ≤ k2) ∧ Aside0 (Kd.R (Kd.int .u64) 54 w' w.heap.size (fun _ => True) (.slice Ao9 x3_2.length co9) x3_2) ∧ Aside0 (Below w.heap.size w w'))
                  case atStart => exact ⟨(1), (0), (by first | rfl | (simp; done) | (simp [*]; done)), (by first | rfl | (simp; done) | (simp [*]; done)), H', ⟨Nat.le_refl _⟩, ⟨by (with_reducible repeat (first | apply Kd.R_alloc | apply Kd.R_drewN | apply Kd.R_drew)); exact HO_3.out⟩, ⟨by repeat (first | (with_reducible first | exact HB.out | apply below_alloc | apply pw_below_drewN | apply below_drew1) | exact HB.out)⟩⟩
                  case round =>
                    clear H'
                    try clear c1
                    try clear p1
                    try clear q1
                    try clear hx1
                    try clear c2
                    try clear c2b0
                    try clear p2
                    try clear c3
                    try clear c3b0
                    try clear c4
                    try clear c4b0
                    try clear c5
                    try clear c5b0
                    try clear c6
                    try clear p6
                    try clear hx150_0
                    try clear p150
                    try clear p2
                    try clear q150
                    obtain ⟨x5_3, x6_3, rfl, rfl, HA, HK3, HO_3, HB⟩ := hrel
                    cases gk with
                    | zero => exact absurd HA.out (by simp [dataflowref01_Make.l2])
                    | succ k3 =>
                      have H := HA.out
                      clear HA
                      simp only [dataflowref01_Make.l2] at H
                      by_cases c10 : 0 ≤ x4_1
                      · rw [if_pos c10] at H
                        have c10b0 : decide (0 ≤ x4_1) = true := decide_eq_true c10
                        clear c10
                        by_cases c11 : x4_1 < (l0.length : Int)
                        · rw [if_pos c11] at H
                          have c11b0 : decide (x4_1 < (l0.length : Int)) = true := decide_eq_true c11
                          clear c11
                          by_cases c12 : x6_3 < (Int.tmod (rd l0 x4_1) 64)
                          · rw [if_pos c12] at H
                            have c12b0 : decide (x6_3 < (Int.tmod (rd l0 x4_1) 64)) = true := decide_eq_true c12
                            clear c12
                            have H' := Aside0.mk H
                            clear H
                            have p154 : 0 ≤ (x4_1 : Int) := of_decide_eq_true (by first | (with_reducible assumption) | assumption)
                            have q154 : x4_1 < (l0.length : Int) := of_decide_eq_true (by first | (with_reducible assumption) | assumption)
                            obtain ⟨ad154, e154, hx154_0⟩ := Kd.at_int HR0.out x4_1 p154 q154
                            obtain rfl : ad150 = ad154 := (by injection e154)
                            replace hx154_0 := (HB.out.cell (World.block_lt_of_cell? w _ hx154_0)).trans hx154_0
                            replace p154 := eq_true p154
                            replace q154 := eq_true q154
                            go_wp2
                            go_roundg k3
                            case measure => have := HK1.out; have := HK2.out; have := HK3.out; omega
                            case rel => exact ⟨(IntKind.u64.wrap (2 * x5_3)), (wrap64 (x6_3 + 1)), (by first | rfl | (simp; done) | (simp [*]; done)), (by first | rfl | (simp; done) | (simp [*]; done)), H', ⟨by have := HK1.out; have := HK2.out; have := HK3.out; omega⟩, ⟨by (with_reducible repeat (first | apply Kd.R_alloc | apply Kd.R_drewN | apply Kd.R_drew)); exact HO_3.out⟩, ⟨by repeat (first | (with_reducible first | exact HB.out | apply below_alloc | apply pw_below_drewN | apply below_drew1) | exact HB.out)⟩⟩
                          · rw [if_neg c12] at H
                            have c12b0 : decide (x6_3 < (Int.tmod (rd l0 x4_1) 64)) = false := decide_eq_false c12
                            clear c12
                            obtain ⟨ji13, hji13⟩ : ∃ j_ : Int, (wrap64 (Int.tdiv (rd l0 x4_1) 64)) = j_ := ⟨_, rfl⟩
                            replace H : (if 0 ≤ (ji13) then (if (ji13) < (x3_2.length : Int) then (dataflowref01_Make.l0 k3 l0 (x3_2.set ((ji13) : Int).toNat (IntKind.u64.wrap ((rd x3_2 (ji13)) + x5_3))) (wrap64 (x4_1 + 1))) else (none)) else (none)) = some r := by first | (rw [hji13] at H; exact H) | (simp only [hji13] at H ⊢; exact H)
                            (try rw [hji13] at c5b0)
                            have hji13w : (IntKind.i64.wrap (Int.tdiv (rd l0 x4_1) 64)) = ji13 := (i64_w _).trans hji13
                            by_cases c14 : 0 ≤ (ji13)
                            · rw [if_pos c14] at H
                              have c14b0 : decide (0 ≤ (ji13)) = true := decide_eq_true c14
                              clear c14
                              by_cases c15 : (ji13) < (x3_2.length : Int)
                              · rw [if_pos c15] at H
                                have c15b0 : decide ((ji13) < (x3_2.length : Int)) = true := decide_eq_true c15
                                clear c15
                                obtain ⟨y158, hy158⟩ : ∃ y_ : List Int, y_ = (x3_2.set ((ji13) : Int).toNat (IntKind.u64.wrap ((rd x3_2 (ji13)) + x5_3))) := ⟨_, rfl⟩
                                replace H : (dataflowref01_Make.l0 k3 l0 y158 (wrap64 (x4_1 + 1))) = some r := by first | (rw [hy158]; with_reducible exact H) | (have H2_ := (Option.bind_some _ _).symm.trans H; rw [hy158]; with_reducible exact H2_) | (have H2_ := (Option.bind_some _ _).symm.trans H; with_reducible exact H2_) | with_reducible exact H | (rw [hy158]; exact H) | exact H
                                have Ny158 := Aside0.mk hy158
                                clear hy158
                                have H' := Aside0.mk H
                                clear H
                                have p154 : 0 ≤ (x4_1 : Int) := of_decide_eq_true (by first | (with_reducible assumption) | assumption)
                                have q154 : x4_1 < (l0.length : Int) := of_decide_eq_true (by first | (with_reducible assumption) | assumption)
                                obtain ⟨ad154, e154, hx154_0⟩ := Kd.at_int HR0.out x4_1 p154 q154
                                obtain rfl : ad150 = ad154 := (by injection e154)
                                replace hx154_0 := (HB.out.cell (World.block_lt_of_cell? w _ hx154_0)).trans hx154_0
                                replace p154 := eq_true p154
                                replace q154 := eq_true q154
                                try go_wp2
                                have n0_ := Aside0.mk (Kd.R_drew HO_3.out)
                                have n1_ := Aside0.mk (below_drew1 HB.out)
                                clear HO_3
                                clear HB
                                have HO_3 := n0_
                                have HB := n1_
                                clear n0_ n1_
                                have p155 : 0 ≤ (x4_1 : Int) := of_decide_eq_true (by first | (with_reducible assumption) | assumption)
                                have q155 : x4_1 < (l0.length : Int) := of_decide_eq_true (by first | (with_reducible assumption) | assumption)
                                obtain ⟨ad155, e155, hx155_0⟩ := Kd.at_int HR0.out x4_1 p155 q155
                                have hw155_0 := hx155_0
                                obtain rfl : ad150 = ad155 := (by injection e155)
                                replace hx155_0 := (HB.out.cell (World.block_lt_of_cell? w _ hx155_0)).trans hx155_0
                                replace p155 := eq_true p155
                                replace q155 := eq_true q155
                                have p156 : 0 ≤ (x4_1 : Int) := of_decide_eq_true (by first | (with_reducible assumption) | assumption)
                                have q156 : x4_1 < (l0.length : Int) := of_decide_eq_true (by first | (with_reducible assumption) | assumption)
                                obtain ⟨ad156, e156, hx156_0⟩ := Kd.at_int HR0.out x4_1 p156 q156
                                have hw156_0 := hx156_0
                                obtain rfl : ad150 = ad156 := (by injection e156)
                                replace hx156_0 := (HB.out.cell (World.block_lt_of_cell? w _ hx156_0)).trans hx156_0
                                replace p156 := eq_true p156
                                replace q156 := eq_true q156
                                have p157 : 0 ≤ ((ji13) : Int) := of_decide_eq_true (by first | (with_reducible assumption) | assumption)
                                have q157 : (ji13) < (x3_2.length : Int) := of_decide_eq_true (by first | (with_reducible assumption) | assumption)
                                obtain ⟨ad157, e157, hx157_0⟩ := Kd.at_int (Kd.R_reads' HO_3.out).2.2 (ji13) p157 q157
                                cases e157
                                replace p157 := eq_true p157
                                replace q157 := eq_true q157
                                have p16 : 0 ≤ ((ji13) : Int) := of_decide_eq_true (by first | (with_reducible assumption) | assumption)
                                have q16 : ((ji13) : Int) < ((x3_2.length : Int) : Int) := of_decide_eq_true (by first | (with_reducible assumption) | assumption)
                                obtain ⟨go16, co16, eo16, gb16, gl16, cl16, HG16⟩ := Kd.R_form HO_3.out (by omega)
                                (first | cases eo16 | (injection eo16 with ea_ en_ ec_; (first | subst ea_ | (injection ea_ with ea_; subst ea_)); subst ec_; clear en_))
                                have GB16 := Aside0.mk gb16
                                have GG16 := Aside0.mk HG16
                                clear gb16 gl16 HG16
                                (first | simp only [add_plain] at hx157_0 | skip)
                                obtain ⟨hx16_0, hf16_0⟩ := Kd.R_celln 0 HO_3.out ((ji13) : Int) p16 q16
                                replace p16 := eq_true p16
                                replace q16 := eq_true q16
                                have HP18 := Kd.R_putn HO_3.out ((ji13) : Int) (IntKind.u64.wrap ((rd x3_2 (ji13)) + x5_3))
                                rw [← Ny158.out] at HP18
                                have HQ18 := Aside0.mk HP18
                                clear HP18
                                refine start_ (n := 18) (S := fun w' => w'.cell? (ad150.add (x4_1).toNat) = some (.int .i64 (rd l0 x4_1)) ∧ w'.cell? (ad150.add (x4_1).toNat) = some (.int .i64 (rd l0 x4_1)) ∧ w'.cell? ⟨go16, ((ji13)).toNat, none⟩ = some (.int .u64 (rd x3_2 (ji13)))) (ds := [17]) #[false, false, false, false, false, false, false, false, false, false, false, false, false, false, false, false, false, false] (by kernel_rfl) rfl rfl ⟨((HB.out.cell (World.block_lt_of_cell? w _ hw155_0)).trans hw155_0), ((HB.out.cell (World.block_lt_of_cell? w _ hw156_0)).trans hw156_0), hx157_0⟩ (fun hHeld => ?_); refine with_tabW dataflowref01_Make.tab12 dataflowref01_Make.bits12 (fun HT_ HW_ => ?_)
                                generalize wr.drew = w17 at HO_3 HB GG16 HQ18 hf16_0 hx155_0 hx156_0 hx157_0 hx16_0 hHeld ⊢
                                refine pure_ (i := 0) (N := some 35) (v := ?_) (a' := ?_) #[true, false, false, false, false, false, false, false, false, false, false, false, false, false, false, false, false, false] rfl rfl (any_of HT_.out (by kernel_rfl)) (fun _ _ _ h => h) (Or.inl ⟨by rfl, ?_⟩) ?_ ?_
                                rotate_left
                                · intro w'
                                  go_simp
                                  with_reducible rfl
                                rotate_left
                                · simp only [Act.put, List.setIfInBounds_toArray, List.set_cons_zero, List.set_cons_succ, i64_w, i32_w]
                                  rfl
                                refine pure_ (i := 1) (N := some 36) (v := ?_) (a' := ?_) #[true, true, false, false, false, false, false, false, false, false, false, false, false, false, false, false, false, false] rfl rfl (any_of HT_.out (by kernel_rfl)) (fun _ _ _ h => h) (Or.inl ⟨by rfl, ?_⟩) ?_ ?_
                                rotate_left
                                · intro w'
                                  go_simp
                                  with_reducible rfl
                                rotate_left
                                · simp only [Act.put, List.setIfInBounds_toArray, List.set_cons_zero, List.set_cons_succ, i64_w, i32_w]
                                  rfl
                                refine pure_ (i := 2) (N := some 37) (v := ?_) (a' := ?_) #[true, true, true, false, false, false, false, false, false, false, false, false, false, false, false, false, false, false] rfl rfl (any_of HT_.out (by kernel_rfl)) (fun _ _ _ h => h) (Or.inl ⟨by rfl, ?_⟩) ?_ ?_
                                rotate_left
                                · intro w'
                                  go_simp
                                  with_reducible rfl
                                rotate_left
                                · simp only [Act.put, List.setIfInBounds_toArray, List.set_cons_zero, List.set_cons_succ, i64_w, i32_w]
                                  rfl
                                refine pure_ (i := 3) (N := some 38) (v := ?_) (a' := ?_) #[true, true, true, true, false, false, false, false, false, false, false, false, false, false, false, false, false, false] rfl rfl (any_of HT_.out (by kernel_rfl)) (fun _ _ _ h => h) (Or.inl ⟨by rfl, ?_⟩) ?_ ?_
                                rotate_left
                                · intro w'
                                  go_simp
                                  with_reducible rfl
                                rotate_left
                                · simp only [Act.put, List.setIfInBounds_toArray, List.set_cons_zero, List.set_cons_succ, i64_w, i32_w]
                                  rfl
                                refine pure_ (i := 6) (N := some 41) (v := ?_) (a' := ?_) #[true, true, true, true, false, false, true, false, false, false, false, false, false, false, false, false, false, false] rfl rfl (any_of HT_.out (by kernel_rfl)) (fun _ _ _ h => h) (Or.inl ⟨by rfl, ?_⟩) ?_ ?_
                                rotate_left
                                · intro w'
                                  go_simp
                                  with_reducible rfl
                                rotate_left
                                · simp only [Act.put, List.setIfInBounds_toArray, List.set_cons_zero, List.set_cons_succ, i64_w, i32_w]
                                  rfl
                                refine pure_ (i := 7) (N := some 42) (v := ?_) (a' := ?_) #[true, true, true, true, false, false, true, true, false, false, false, false, false, false, false, false, false, false] rfl rfl (any_of HT_.out (by kernel_rfl)) (fun _ _ _ h => h) (Or.inl ⟨by rfl, ?_⟩) ?_ ?_
                                rotate_left
                                · intro w'
                                  go_simp
                                  with_reducible rfl
                                rotate_left
                                · simp only [Act.put, List.setIfInBounds_toArray, List.set_cons_zero, List.set_cons_succ, i64_w, i32_w]
                                  rfl
                                refine pure_ (i := 8) (N := some 43) (v := ?_) (a' := ?_) #[true, true, true, true, false, false, true, true, true, false, false, false, false, false, false, false, false, false] rfl rfl (any_of HT_.out (by kernel_rfl)) (fun _ _ _ h => h) (Or.inl ⟨by rfl, ?_⟩) ?_ ?_
                                rotate_left
                                · intro w'
                                  go_simp
                                  with_reducible rfl
                                rotate_left
                                · simp only [Act.put, List.setIfInBounds_toArray, List.set_cons_zero, List.set_cons_succ, i64_w, i32_w]
                                  rfl
                                refine pure_ (i := 9) (N := some 44) (v := ?_) (a' := ?_) #[true, true, true, true, false, false, true, true, true, true, false, false, false, false, false, false, false, false] rfl rfl (any_of HT_.out (by kernel_rfl)) (fun _ _ _ h => h) (Or.inl ⟨by rfl, ?_⟩) ?_ ?_
                                rotate_left
                                · intro w'
                                  go_simp
                                  with_reducible rfl
                                rotate_left
                                · simp only [Act.put, List.setIfInBounds_toArray, List.set_cons_zero, List.set_cons_succ, i64_w, i32_w]
                                  rfl
                                refine pure_ (i := 14) (N := some 49) (v := ?_) (a' := ?_) #[true, true, true, true, false, false, true, true, true, true, false, false, false, false, true, false, false, false] rfl rfl (any_of HT_.out (by kernel_rfl)) (fun _ _ _ h => h) (Or.inl ⟨by rfl, ?_⟩) ?_ ?_
                                rotate_left
                                · intro w'
                                  go_simp
                                  with_reducible rfl
                                rotate_left
                                · simp only [Act.put, List.setIfInBounds_toArray, List.set_cons_zero, List.set_cons_succ, i64_w, i32_w]
                                  rfl
                                refine take_ (i := 4) (N := some 39) (v := ?_) (a' := ?_) #[true, true, true, true, true, false, true, true, true, true, false, false, false, false, true, false, false, false] rfl rfl (take_ofW HT_.out HW_.out (by kernel_rfl)) (fun _ _ _ h => h) (Or.inl ⟨by rfl, ?_⟩) hHeld ?_ ?_
                                rotate_left
                                · rintro w' ⟨s0, s1, s2⟩
                                  go_simp
                                  with_reducible rfl
                                rotate_left
                                · simp only [Act.put, List.setIfInBounds_toArray, List.set_cons_zero, List.set_cons_succ, i64_w, i32_w]
                                  rfl
                                refine pure_ (i := 5) (N := some 40) (v := ?_) (a' := ?_) #[true, true, true, true, true, true, true, true, true, true, false, false, false, false, true, false, false, false] rfl rfl (any_of HT_.out (by kernel_rfl)) (fun _ _ _ h => h) (Or.inl ⟨by rfl, ?_⟩) ?_ ?_
                                rotate_left
                                · intro w'
                                  go_simp
                                  with_reducible rfl
                                rotate_left
                                · simp only [Act.put, List.setIfInBounds_toArray, List.set_cons_zero, List.set_cons_succ, i64_w, i32_w]
                                  rfl
                                refine take_ (i := 10) (N := some 45) (v := ?_) (a' := ?_) #[true, true, true, true, true, true, true, true, true, true, true, false, false, false, true, false, false, false] rfl rfl (take_ofW HT_.out HW_.out (by kernel_rfl)) (fun _ _ _ h => h) (Or.inl ⟨by rfl, ?_⟩) hHeld ?_ ?_
                                rotate_left
                                · rintro w' ⟨s0, s1, s2⟩
                                  go_simp
                                  with_reducible rfl
                                rotate_left
                                · simp only [Act.put, List.setIfInBounds_toArray, List.set_cons_zero, List.set_cons_succ, i64_w, i32_w]
                                  rfl
                                refine pure_ (i := 11) (N := some 46) (v := ?_) (a' := ?_) #[true, true, true, true, true, true, true, true, true, true, true, true, false, false, true, false, false, false] rfl rfl (any_of HT_.out (by kernel_rfl)) (fun _ _ _ h => h) (Or.inl ⟨by rfl, ?_⟩) ?_ ?_
                                rotate_left
                                · intro w'
                                  go_simp
                                  with_reducible rfl
                                rotate_left
                                · simp only [Act.put, List.setIfInBounds_toArray, List.set_cons_zero, List.set_cons_succ, i64_w, i32_w]
                                  rfl
                                refine pure_ (i := 12) (N := some 47) (v := ?_) (a' := ?_) #[true, true, true, true, true, true, true, true, true, true, true, true, true, false, true, false, false, false] rfl rfl (any_of HT_.out (by kernel_rfl)) (fun _ _ _ h => h) (Or.inl ⟨by rfl, ?_⟩) ?_ ?_
                                rotate_left
                                · intro w'
                                  go_simp
                                  with_reducible rfl
                                rotate_left
                                · simp only [Act.put, List.setIfInBounds_toArray, List.set_cons_zero, List.set_cons_succ, i64_w, i32_w]
                                  rfl
                                refine take_ (i := 13) (N := some 48) (v := ?_) (a' := ?_) #[true, true, true, true, true, true, true, true, true, true, true, true, true, true, true, false, false, false] rfl rfl (take_ofW HT_.out HW_.out (by kernel_rfl)) (fun _ _ _ h => h) (Or.inl ⟨by rfl, ?_⟩) hHeld ?_ ?_
                                rotate_left
                                · rintro w' ⟨s0, s1, s2⟩
                                  go_simp
                                  with_reducible rfl
                                rotate_left
                                · simp only [Act.put, List.setIfInBounds_toArray, List.set_cons_zero, List.set_cons_succ, i64_w, i32_w]
                                  rfl
                                refine pure_ (i := 15) (N := some 50) (v := ?_) (a' := ?_) #[true, true, true, true, true, true, true, true, true, true, true, true, true, true, true, true, false, false] rfl rfl (any_of HT_.out (by kernel_rfl)) (fun _ _ _ h => h) (Or.inl ⟨by rfl, ?_⟩) ?_ ?_
                                rotate_left
                                · intro w'
                                  go_simp
                                  with_reducible rfl
                                rotate_left
                                · simp only [Act.put, List.setIfInBounds_toArray, List.set_cons_zero, List.set_cons_succ, i64_w, i32_w]
                                  rfl
                                refine pure_ (i := 16) (N := some 51) (v := ?_) (a' := ?_) #[true, true, true, true, true, true, true, true, true, true, true, true, true, true, true, true, true, false] rfl rfl (any_of HT_.out (by kernel_rfl)) (fun _ _ _ h => h) (Or.inl ⟨by rfl, ?_⟩) ?_ ?_
                                rotate_left
                                · intro w'
                                  go_simp
                                  with_reducible rfl
                                rotate_left
                                · simp only [Act.put, List.setIfInBounds_toArray, List.set_cons_zero, List.set_cons_succ, i64_w, i32_w]
                                  rfl
                                refine last_ (i := 17) (N := none) #[true, true, true, true, true, true, true, true, true, true, true, true, true, true, true, true, true, true] rfl rfl (one_of HT_.out (by kernel_rfl)) (by decide) (fun K hK => ?_)
                                refine skip_ (w1 := ?_) (by rfl) rfl ?_ ?_
                                rotate_left
                                · go_simp
                                  rfl
                                refine hK.out _ _ ?_
                                clear hK K
                                refine done_ (done_of HT_.out (by kernel_rfl)) ?_
                                try go_wp2
                                go_roundg k3
                                case measure => have := HK1.out; have := HK2.out; have := HK3.out; omega
                                case rel => exact ⟨(y158), (wrap64 (x4_1 + 1)), (by first | rfl | (simp; done) | (simp [*]; done)), H', ⟨by have := HK1.out; have := HK2.out; have := HK3.out; omega⟩, ⟨by (with_reducible repeat (first | apply Kd.R_alloc | apply Kd.R_drewN | apply Kd.R_drew)); exact HQ18.out⟩, ⟨by repeat (first | (with_reducible first | exact HB.out | apply below_alloc | apply pw_below_drewN | apply below_drew1 | refine below_set ?_ GB16.out) | exact HB.out)⟩⟩
                              · rw [if_neg c15] at H
                                exact absurd H (by simp)
                            · rw [if_neg c14] at H
                              exact absurd H (by simp)
                        · rw [if_neg c11] at H
                          exact absurd H (by simp)
                      · rw [if_neg c10] at H
                        exact absurd H (by simp)
              · rw [if_neg c4] at H
                exact absurd H (by simp)
            · rw [if_neg c3] at H
              exact absurd H (by simp)
      · rw [if_neg c2] at H
        have c2b0 : decide (x4_1 < (l0.length : Int)) = false := decide_eq_false c2
        clear c2
        obtain rfl := Option.some.inj H
        go_wp2
        go_ret
        exact ⟨_, by first | rfl | (simp [errW_none, errW_some] <;> rfl) | (simp [*, errW_none, errW_some] <;> rfl), by (with_reducible repeat (first | apply Kd.R_alloc | apply Kd.R_drewN | apply Kd.R_drew)); exact HO_3.out, by repeat (first | (with_reducible first | exact HB.out | apply below_alloc | apply pw_below_drewN | apply below_drew1) | exact HB.out)⟩

/-! ### by hand: copy -/
section
variable {P : Program} {ops : Array Oper} {rest : List Oper} {o : Oper} {a : Act} {Q : Exit → Act → World → Prop} {α : Type} {enc : α → Value} {h1 : ∀ x, (enc x).oneCell' = true}
theorem reps_scalar {base : Nat} {ok : Nat → Prop} {w : World} : ∀ {xs : List α} {inner : List Value}, Reps ((Kd.scalar enc h1).M w base ok) (Kd.scalar enc h1).sz xs inner → inner = xs.map enc := by
  intro xs inner h
  apply List.ext_getElem?
  intro j
  have hl : inner.length = xs.length * 1 := h.1
  rcases Nat.lt_or_ge j xs.length with hj | hj
  · have h2 := h.2 j xs[j] (List.getElem?_eq_getElem hj)
    have h3 : (inner.drop (j * 1)).take 1 = [enc xs[j]] := h2
    rw [Nat.mul_one] at h3
    have h4 := congrArg (fun l => l[0]?) h3
    simp at h4
    rw [h4]
    simp [hj]
  · rw [List.getElem?_eq_none (by omega), List.getElem?_eq_none (by simpa using hj)]
theorem scalar_reps {base : Nat} {ok : Nat → Prop} {w : World} (xs : List α) : Reps ((Kd.scalar enc h1).M w base ok) (Kd.scalar enc h1).sz xs (xs.map enc) := by
  refine ⟨by show (xs.map enc).length = xs.length * 1; simp, fun j p hj => ?_⟩
  show ((xs.map enc).drop (j * 1)).take 1 = [enc p]
  have hlt := (List.getElem?_eq_some_iff.1 hj).1
  have he := (List.getElem?_eq_some_iff.1 hj).2
  apply List.ext_getElem?
  intro i
  cases i with
  | zero => simp [hlt, he]
  | succ i => simp; omega
/-- 'copy(dst, src)', dst a row of the call's own, src whatever is read and no longer than dst. -/
theorem R_copy (e : Nat) {w0 W : World} (base : Nat) (hgd : o.guard = none) (dd s : Operand) (dT sT : TypeId) (ho : o.op = .call { callee := .builtin .copy, args := #[dd, s], argTypes := #[dT, sT] })
    (ht : P.underlying dT = some (.slice e)) (hsz : (P.info? e).map (·.size) = some 1) (v : Value) (xs ys : List α) (A : Option Addr) (c : Nat) (hd : a.eval dd = v) (hs : a.eval s = .slice A ys.length c) (ok : Nat → Prop)
    (HO : (Kd.scalar enc h1).R e W base ok v xs) (HC : (Kd.scalar enc h1).C W A ys.length ys) (hle : ys.length ≤ xs.length) (HB : Below base w0 W)
    (h : ∀ w1, (Kd.scalar enc h1).R e w1 base ok v (ys ++ xs.drop ys.length) → Below base w0 w1 → W.grownBy w1 v.ownBlock → wpList P ops Q rest (a.put o.dst (goInt ys.length)) w1) : wpList P ops Q (o :: rest) a W := by
  rcases Nat.eq_zero_or_pos ys.length with hz | hz
  · obtain rfl := List.eq_nil_of_length_eq_zero hz
    obtain ⟨A', c', hv⟩ := Kd.R_slice HO
    subst hv
    exact wpList_copy_nothing hgd dd s dT sT ho e ht hsz _ _ _ _ _ _ hd hs (by simp) (by have := h W (by simpa using HO) HB (World.grownBy.refl _ _); simpa using this)
  · obtain ⟨h0, inner, ho', hr⟩ := HO
    obtain rfl := reps_scalar hr
    obtain ⟨hlen, hv⟩ := ho'
    rcases hv with ⟨rfl, hn⟩ | ⟨g, cap, cur, rfl, hg, hh, hnc, hcm, hcs, htk⟩
    · omega
    · obtain ⟨ad, rfl, hcell⟩ := HC.2.2 hz
      have hcs1 : cur.size = cap := by have : cur.size = cap * 1 := hcs; omega
      have htk1 : cur.toList.take xs.length = xs.map enc := by have := htk; simpa [Kd.scalar] using this
      refine wpList_copy_own hgd dd s dT sT ho e ht hsz g 0 xs.length cap ad ys.length c hd hs cur e hh (ys.map enc) (by rw [List.length_map]; exact (Nat.min_eq_left hle).symm) ?_ (by rw [List.length_map]; omega) ?_ ?_
      · intro j u hj
        rw [List.getElem?_map] at hj
        obtain ⟨y, hy, rfl⟩ := Option.map_eq_some_iff.1 hj
        obtain ⟨cs, hcl, hk, hcc⟩ := hcell j y hy
        have hk' : cs = [enc y] := hk
        subst hk'
        have := hcc 0 (enc y) rfl
        simpa [Kd.scalar] using this
      · intro u hu
        obtain ⟨y, _, rfl⟩ := List.mem_map.1 hu
        exact h1 y
      · have hgw : W.grownBy (W.setRow g (cur.toList.take 0 ++ (ys.map enc ++ cur.toList.drop (0 + (ys.map enc).length))).toArray) (some g) := ⟨rfl, rfl, rfl, by simp [World.setRow], fun k hk hne => setRow_other W g k _ (fun he => hne (by rw [he]))⟩
        have hyl : (ys ++ xs.drop ys.length).length = xs.length := by rw [List.length_append, List.length_drop]; omega
        rw [List.length_map]
        refine h _ ⟨fun k hk => h0 k hk, (ys ++ xs.drop ys.length).map enc, ?_, scalar_reps _⟩ (below_setRow HB hg _) (by simpa [Value.ownBlock] using hgw)
        refine ⟨by simp [Kd.scalar], .inr ⟨g, cap, _, by rw [hyl], hg, setRow_heap W g _ _ _ _ hh, by rw [hyl]; exact hnc, hcm, ?_, ?_⟩⟩
        · have : cur.toList.length = cap := by rw [Array.length_toList]; exact hcs1
          simp [Kd.scalar, hcs1]
          omega
        · rw [hyl]
          have e1 : cur.toList.drop ys.length = ((xs.map enc).drop ys.length) ++ cur.toList.drop xs.length := by
            rw [← htk1, List.drop_take]
            have := List.take_append_drop (xs.length - ys.length) (cur.toList.drop ys.length)
            rw [List.drop_drop, show ys.length + (xs.length - ys.length) = xs.length by omega] at this
            exact this.symm
          show (cur.toList.take 0 ++ (ys.map enc ++ cur.toList.drop (0 + ys.length))).take (xs.length * 1) = _
          rw [Nat.zero_add, e1, List.take_zero, List.nil_append, ← List.append_assoc, Nat.mul_one, List.map_append, List.map_drop]
          rw [List.take_append_of_le_length (by simp; omega), List.take_of_length_le (by simp; omega)]
end
/-! ### by hand: with -/
def pad (l : List Int) (n : Nat) : List Int := l ++ List.replicate (n - l.length) 0
theorem pad_length (l : List Int) (n : Nat) (h : l.length ≤ n) : (pad l n).length = n := by simp [pad]; omega
theorem drop_rep (l : List Int) (n : Nat) : l ++ (List.replicate n 0).drop l.length = pad l n := by simp [pad]
def bits_With.f (l0 : List Int) (a1 : Int) : Option (List Int × Int) :=
  if 0 ≤ a1 ∧ a1 < 65536 then
    (if l0.length ≤ 1000000 then
      (bits_trim.f ((pad l0 (max l0.length (a1.toNat / 64 + 1))).set (a1.toNat / 64) (Go.bits .or .u64 ((pad l0 (max l0.length (a1.toNat / 64 + 1))).getD (a1.toNat / 64) 0) (IntKind.u64.wrap (2 ^ (a1.toNat % 64)))))).bind fun t => some (t, 0)
     else none)
  else some ([], 4)
theorem ok_yes (a : Int) (h0 : 0 ≤ a) (h1 : a < 65536) (w : World) : Calls Tryd.prog 38 #[.int .i64 a] w fun e w' => e = .returned (.bool true) ∧ w = w' := by
  go_enter Tryd.func38, Tryd.ntmps38
  go_wp2
  go_ret
  exact ⟨by simp, rfl⟩
theorem ok_no (a : Int) (h : ¬ (0 ≤ a ∧ a < 65536)) (w : World) : Calls Tryd.prog 38 #[.int .i64 a] w fun e w' => e = .returned (.bool false) ∧ w = w' := by
  by_cases h0 : 0 ≤ a
  · have h1 : ¬ a < 65536 := by omega
    clear h
    go_enter Tryd.func38, Tryd.ntmps38
    go_wp2
    go_ret
    exact ⟨by simp, rfl⟩
  · clear h
    go_enter Tryd.func38, Tryd.ntmps38
    go_wp2
    go_ret
    exact ⟨rfl, rfl⟩
set_option maxHeartbeats 1000000 in
theorem bits_With.calls (A0 : Option Addr) (c0 : Nat) (l0 : List Int) (a1 : Int) (r1 : List Int) (r2 : Int) (w : World) (hr0 : Kd.C (Kd.int .u64) w A0 l0.length l0) (hc0 : l0.length ≤ c0) (h : bits_With.f l0 a1 = some (r1, r2)) :
    Calls Tryd.prog 21 #[.slice A0 l0.length c0, .int .i64 a1] w fun e w' => ∃ v0_ : Value, e = .returned (.tuple #[v0_, .int .i64 r2]) ∧ Kd.V (Kd.int .u64) 54 w' w.heap.size (fun k_ => (w.heap.size ≤ k_)) v0_ r1 ∧ Below w.heap.size w w' := by
  unfold bits_With.f at h
  split at h
  case isFalse hx =>
    obtain ⟨rfl, rfl⟩ : [] = r1 ∧ 4 = r2 := by simpa using h
    have HX := Aside0.mk hx
    clear h hr0 hc0 hx
    go_enter Tryd.func21, Tryd.ntmps21
    go_wp2_with (go_at_call 38; refine (ok_no a1 HX.out _).mono ?_; rintro e w' ⟨rfl, rfl⟩)
    go_ret2
    exact ⟨_, rfl, Kd.V_nil _ _ _ _ _, Below.refl _ _⟩
  case isTrue hx =>
    split at h
    case isFalse => cases h
    case isTrue hl =>
      obtain ⟨x, rfl⟩ := Int.eq_ofNat_of_zero_le hx.1
      rw [Int.toNat_natCast] at h
      obtain ⟨t, ht, h2⟩ := Option.bind_eq_some_iff.mp h
      obtain ⟨rfl, rfl⟩ : t = r1 ∧ 0 = r2 := by simpa using h2
      clear h h2
      have hx1 : x < 65536 := by omega
      have HT := Aside0.mk ht
      have HR := Aside0.mk hr0
      clear hx ht hr0
      obtain ⟨N, hN⟩ : ∃ N : Nat, N = max l0.length (x / 64 + 1) := ⟨_, rfl⟩
      have hN1 : l0.length ≤ N := by omega
      have hN2 : x / 64 < N := by omega
      have hN3 : N ≤ 2000000 := by omega
      have hmx : (if (l0.length : Int) < (x : Int) / 64 + 1 then (x : Int) / 64 + 1 else (l0.length : Int)) = (N : Int) := by split <;> omega
      rw [← hN] at HT
      clear hN
      go_enter Tryd.func21, Tryd.ntmps21
      go_wp2_with (first | (go_at_call 38; refine (ok_yes x (by omega) (by omega) _).mono ?_; rintro e w' ⟨rfl, rfl⟩) | (at_make; go_loud (refine Kd.R_make (Kd.int .u64) w.heap.size 54 rfl (N := 16) rfl 26 _ _ rfl (N : Int) rfl rfl Tryd.underlying26 (.int .u64 0) 8 info54 rfl (by decide) (by omega) 0 (ok := fun k => w.heap.size ≤ k) (okp := fun k => w.heap.size ≤ k) rfl (fun _ hk => hk) (Nat.le_refl _) (by omega) (by omega) (Below.refl _ _) (Nat.le_refl _) ?_); intro v1 w1 ho hb hg hat; have HO := Aside0.mk (show Kd.R (Kd.int .u64) 54 w1 w.heap.size (fun k => w.heap.size ≤ k) v1 (List.replicate N 0) from ho); have HB := Aside0.mk hb; clear ho hb hg hat) | ((with_reducible refine gate_builtin (b := .copy) (xs := #[.tmp 17, .tmp 18]) rfl ?_); go_loud (refine R_copy 54 w.heap.size rfl _ _ 26 26 rfl Tryd.underlying26 (by kernel_rfl) v1 (List.replicate N 0) l0 A0 c0 rfl rfl (fun k => w.heap.size ≤ k) HO.out (Kd.C_below HR.out HB.out) (by rw [List.length_replicate]; omega) HB.out ?_); intro w2 ho hb hg; have HO2 := Aside0.mk (show Kd.R (Kd.int .u64) 54 w2 w.heap.size (fun k => w.heap.size ≤ k) v1 (pad l0 N) by rw [← drop_rep]; exact ho); have HB2 := Aside0.mk hb; clear ho hb hg HO HB))
      have hpl := pad_length l0 N hN1
      obtain ⟨X, hX⟩ : ∃ X, X = pad l0 N := ⟨_, rfl⟩
      rw [← hX] at HO2 HT hpl
      clear hX hmx HR
      obtain ⟨g, cap, rfl, hg, hgl, -⟩ := Kd.R_form HO2.out (by omega)
      obtain ⟨hcell, hfree⟩ := Kd.R_cell (0 : Int) HO2.out ((x / 64 : Nat) : Int) (by omega) (by omega)
      obtain ⟨hput, -⟩ := Kd.R_put HO2.out ((x / 64 : Nat) : Int) (Go.bits .or .u64 (X.getD (x / 64) 0) (IntKind.u64.wrap (2 ^ (x % 64))))
      have er : rdOf 0 X ((x / 64 : Nat) : Int) = X.getD (x / 64) 0 := rfl
      rw [er] at hcell
      rw [Int.toNat_natCast] at hcell hfree hput
      obtain ⟨c, hc⟩ : ∃ c, c = X.getD (x / 64) 0 := ⟨_, rfl⟩
      rw [← hc] at hcell hput HT
      obtain ⟨Y, hY⟩ : ∃ Y, Y = X.set (x / 64) (Go.bits .or .u64 c (IntKind.u64.wrap (2 ^ (x % 64)))) := ⟨_, rfl⟩
      rw [← hY] at HT hput
      have hyl : Y.length = N := by rw [hY, List.length_set, hpl]
      rw [hpl] at hput ⊢
      subst hyl
      have HP := Aside0.mk hput
      have GB := Aside0.mk hg
      clear er hc hput hpl hg HO2 hY
      simp only [Act.put, goInt, List.setIfInBounds_toArray, List.set_cons_zero, List.set_cons_succ]
      go_region
      go_wp2_with fail
      refine (bits_trim.calls (fun k_ => w.heap.size ≤ k_) (some ⟨g,0,none⟩) cap Y t _ ?s1 HT.out).mono ?_
      case s1 => exact Kd.R_V HP.out
      rintro e w3 ⟨v3, rfl, hv, hb⟩
      have HV := Aside0.mk hv
      have HB3 := Aside0.mk hb
      clear hv hb
      go_wp2
      go_ret2
      refine ⟨v3, rfl, ?_, ?_⟩
      · refine Kd.V_mono HV.out ?_
        intro k hk
        have := HB2.out.size
        simp at hk
        omega
      · refine below_then ((HB2.out.setCell (p := ⟨g, x / 64, none⟩) GB.out _).drew) ?_ HB3.out
        have := HB2.out.size
        simp
        omega


/-! ### by hand: without -/
theorem drop_all (l : List Int) : l ++ (List.replicate l.length 0).drop l.length = l := by simp
theorem R_cong {α : Type} {d : Kd α} {e base : Nat} {ok : Nat → Prop} {w : World} {v : Value} {xs ys : List α} (h : d.R e w base ok v xs) (he : xs = ys) : d.R e w base ok v ys := he ▸ h
def bits_Without.f (l0 : List Int) (a1 : Int) : Option (List Int) :=
  if l0.length ≤ 1000000 then
    (bits_Has.f l0 a1).bind fun b =>
      if b = true then (if 0 ≤ a1 ∧ a1 < 64 * (l0.length : Int) then bits_trim.f (l0.set (a1.toNat / 64) (Go.bits .andNot .u64 (l0.getD (a1.toNat / 64) 0) (IntKind.u64.wrap (2 ^ (a1.toNat % 64))))) else none)
      else bits_trim.f l0
  else none
set_option maxHeartbeats 1000000 in
theorem bits_Without.calls (A0 : Option Addr) (c0 : Nat) (l0 : List Int) (a1 : Int) (r : List Int) (w : World) (hr0 : Kd.C (Kd.int .u64) w A0 l0.length l0) (hc0 : l0.length ≤ c0) (h : bits_Without.f l0 a1 = some r) :
    Calls Tryd.prog 22 #[.slice A0 l0.length c0, .int .i64 a1] w fun e w' => ∃ v0_ : Value, e = .returned (v0_) ∧ Kd.V (Kd.int .u64) 54 w' w.heap.size (fun k_ => (w.heap.size ≤ k_)) v0_ r ∧ Below w.heap.size w w' := by
  unfold bits_Without.f at h
  split at h
  case isFalse => cases h
  case isTrue hl =>
    obtain ⟨b, hb, h2⟩ := Option.bind_eq_some_iff.mp h
    have HR := Aside0.mk hr0
    have HBv := Aside0.mk hb
    clear h hr0 hb
    cases b
    · have HT := Aside0.mk (show bits_trim.f l0 = some r by simpa using h2)
      clear h2
      go_enter Tryd.func22, Tryd.ntmps22
      go_wp2_with (first | (go_at_call 20; refine (bits_Has.calls A0 c0 l0 a1 false _ (Kd.C_below HR.out HB2.out) hc0 HBv.out).mono ?_; rintro e w' ⟨rfl, ⟨nd, rfl⟩⟩) | (at_make; refine Kd.R_make (Kd.int .u64) w.heap.size 54 rfl (N := 8) rfl 26 _ _ rfl (l0.length : Int) rfl rfl Tryd.underlying26 (.int .u64 0) 8 info54 rfl (by decide) (by omega) 0 (ok := fun k => w.heap.size ≤ k) (okp := fun k => w.heap.size ≤ k) rfl (fun _ hk => hk) (Nat.le_refl _) (by omega) (by omega) (Below.refl _ _) (Nat.le_refl _) ?_; intro v1 w1 ho hb hg hat; have HO := Aside0.mk (show Kd.R (Kd.int .u64) 54 w1 w.heap.size (fun k => w.heap.size ≤ k) v1 (List.replicate l0.length 0) from ho); have HB := Aside0.mk hb; clear ho hb hg hat) | ((with_reducible refine gate_builtin (b := .copy) (xs := #[.tmp 9, .tmp 10]) rfl ?_); go_loud (refine R_copy 54 w.heap.size rfl _ _ 26 26 rfl Tryd.underlying26 (by kernel_rfl) v1 (List.replicate l0.length 0) l0 A0 c0 rfl rfl (fun k => w.heap.size ≤ k) HO.out (Kd.C_below HR.out HB.out) (by rw [List.length_replicate]; omega) HB.out ?_); intro w2 ho hb hg; have HO2 := Aside0.mk (show Kd.R (Kd.int .u64) 54 w2 w.heap.size (fun k => w.heap.size ≤ k) v1 l0 from R_cong ho (drop_all l0)); have HB2 := Aside0.mk hb; clear ho hb hg HO HB))
      obtain ⟨A1, c1, rfl⟩ := Kd.R_slice HO2.out
      refine (bits_trim.calls (fun k_ => w.heap.size ≤ k_) A1 c1 l0 r _ ?s1 HT.out).mono ?_
      case s1 => exact Kd.R_V (Kd.R_drewN HO2.out _)
      rintro e w3 ⟨v3, rfl, hv, hb⟩
      have HV := Aside0.mk hv
      have HB3 := Aside0.mk hb
      clear hv hb
      go_wp2
      go_ret
      refine ⟨v3, rfl, ?_, ?_⟩
      · refine Kd.V_mono HV.out ?_
        intro k hk
        have := HB2.out.size
        simp at hk
        omega
      · refine below_then (pw_below_drewN HB2.out nd) ?_ HB3.out
        have := HB2.out.size
        simp
        omega
    · rw [if_pos rfl] at h2
      split at h2
      case isFalse => cases h2
      case isTrue hx =>
      obtain ⟨x, rfl⟩ := Int.eq_ofNat_of_zero_le hx.1
      have hx1 : x < 64 * l0.length := by omega
      rw [Int.toNat_natCast] at h2
      have HT := Aside0.mk h2
      clear h2 hx
      go_enter Tryd.func22, Tryd.ntmps22
      go_wp2_with (first | (go_at_call 20; refine (bits_Has.calls A0 c0 l0 x true _ (Kd.C_below HR.out HB2.out) hc0 HBv.out).mono ?_; rintro e w' ⟨rfl, ⟨nd, rfl⟩⟩) | (at_make; refine Kd.R_make (Kd.int .u64) w.heap.size 54 rfl (N := 8) rfl 26 _ _ rfl (l0.length : Int) rfl rfl Tryd.underlying26 (.int .u64 0) 8 info54 rfl (by decide) (by omega) 0 (ok := fun k => w.heap.size ≤ k) (okp := fun k => w.heap.size ≤ k) rfl (fun _ hk => hk) (Nat.le_refl _) (by omega) (by omega) (Below.refl _ _) (Nat.le_refl _) ?_; intro v1 w1 ho hb hg hat; have HO := Aside0.mk (show Kd.R (Kd.int .u64) 54 w1 w.heap.size (fun k => w.heap.size ≤ k) v1 (List.replicate l0.length 0) from ho); have HB := Aside0.mk hb; clear ho hb hg hat) | ((with_reducible refine gate_builtin (b := .copy) (xs := #[.tmp 9, .tmp 10]) rfl ?_); go_loud (refine R_copy 54 w.heap.size rfl _ _ 26 26 rfl Tryd.underlying26 (by kernel_rfl) v1 (List.replicate l0.length 0) l0 A0 c0 rfl rfl (fun k => w.heap.size ≤ k) HO.out (Kd.C_below HR.out HB.out) (by rw [List.length_replicate]; omega) HB.out ?_); intro w2 ho hb hg; have HO2 := Aside0.mk (show Kd.R (Kd.int .u64) 54 w2 w.heap.size (fun k => w.heap.size ≤ k) v1 l0 from R_cong ho (drop_all l0)); have HB2 := Aside0.mk hb; clear ho hb hg HO HB))
      obtain ⟨g, cap, rfl, hg, hgl, -⟩ := Kd.R_form HO2.out (by omega)
      obtain ⟨hcell, hfree⟩ := Kd.R_cell (0 : Int) HO2.out ((x / 64 : Nat) : Int) (by omega) (by omega)
      obtain ⟨hput, -⟩ := Kd.R_put HO2.out ((x / 64 : Nat) : Int) (Go.bits .andNot .u64 (l0.getD (x / 64) 0) (IntKind.u64.wrap (2 ^ (x % 64))))
      have er : rdOf 0 l0 ((x / 64 : Nat) : Int) = l0.getD (x / 64) 0 := rfl
      rw [er] at hcell
      rw [Int.toNat_natCast] at hcell hfree hput
      obtain ⟨c, hc⟩ : ∃ c, c = l0.getD (x / 64) 0 := ⟨_, rfl⟩
      rw [← hc] at hcell hput HT
      obtain ⟨Y, hY⟩ : ∃ Y, Y = l0.set (x / 64) (Go.bits .andNot .u64 c (IntKind.u64.wrap (2 ^ (x % 64)))) := ⟨_, rfl⟩
      rw [← hY] at HT hput
      have hyl : Y.length = l0.length := by rw [hY, List.length_set]
      have HP := Aside0.mk hput
      have GB := Aside0.mk hg
      have HYL := Aside0.mk hyl
      clear er hc hput hg HO2 hY hyl
      go_wp2_with fail
      go_region
      go_wp2_with fail
      rw [← HYL.out] at HP ⊢
      refine (bits_trim.calls (fun k_ => w.heap.size ≤ k_) (some ⟨g,0,none⟩) cap Y r _ ?s1 HT.out).mono ?_
      case s1 => exact Kd.R_V HP.out
      rintro e w3 ⟨v3, rfl, hv, hb⟩
      have HV := Aside0.mk hv
      have HB3 := Aside0.mk hb
      clear hv hb
      go_wp2
      go_ret
      refine ⟨v3, rfl, ?_, ?_⟩
      · refine Kd.V_mono HV.out ?_
        intro k hk
        have := HB2.out.size
        simp at hk
        omega
      · refine below_then (((pw_below_drewN HB2.out nd).setCell (p := ⟨g, x / 64, none⟩) GB.out _).drew) ?_ HB3.out
        have := HB2.out.size
        simp
        omega


end Go.Proofs.YtlfoehjjgbnkaaaDoor.PB
