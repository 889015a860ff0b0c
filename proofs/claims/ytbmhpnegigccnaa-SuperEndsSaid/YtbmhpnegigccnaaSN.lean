/- Printed by a program of this session out of the translation: plain functions with the answers of the Go functions, and the proofs that they have them. -/
import Derived.Test.YtbmhpnegigccnaaSA
import Derived.Test.YtbmhpnegigccnaaSM
namespace Go.Proofs.Ytbmhpnegigccnaa.PS
open Go.RowKit Go.Proofs.YtbmhpnegigccnaaW.PrintWords Go.Proofs.YtbmhpnegigccnaaW.PrintLast Go.Proofs.YtbmhpnegigccnaaW.PrintMore
attribute [local go_sem] max2_int min2_int max_two min_two max_three min_three max_four min_four   -- for this text's walks alone
set_option linter.unusedVariables false
set_option linter.unusedSimpArgs false

theorem zero3_run (w : World) : (zeroValue 3).run Try.prog w = .ok (.int .i64 0) w := by kernel_rfl
/-! ### super_checkNodes: function 23 -/
mutual
def super_checkNodes.l0 : Nat → List (S36) → Int → Int → List (S36) → Int → Int → Option (Int)
 | 0, _, _, _, _, _, _ => none
 | k + 1, x0, x2, x3, x9, x10, x11 => if x11 < x10 then (if 0 ≤ x11 then (if x11 < (x9.length : Int) then (if ((rd_T36 x9 x11).f1) < 1 then (none) else (super_checkNodes.j1 k x0 x2 x3 x11 x9 x10 x11 (decide (((rd_T36 x9 x11).f1) > 4)) ((rd_T36 x9 x11).f0) ((rd_T36 x9 x11).f1) ((rd_T36 x9 x11).f2))) else (none)) else (none)) else (if x3 = 3 then (some 0) else (if 0 ≤ (-1) then (if (-1) < (x9.length : Int) then (some x2) else (none)) else (none)))
def super_checkNodes.j1 : Nat → List (S36) → Int → Int → Int → List (S36) → Int → Int → Bool → Int → Int → Int → Option (Int)
 | 0, _, _, _, _, _, _, _, _, _, _, _ => none
 | k + 1, x0, x2, x3, x4, x9, x10, x11, x16, x181000, x181001, x181002 => if x16 = true then (if 0 ≤ (-1) then (if (-1) < (x9.length : Int) then (some x2) else (none)) else (none)) else (if x181000 < 0 then (none) else (if x181001 = 2 then (if x181002 < 0 then (none) else (super_checkNodes.j2 k x0 x2 x3 x4 x9 x10 x11 false x181000 x181001 x181002)) else (super_checkNodes.j2 k x0 x2 x3 x4 x9 x10 x11 (x181002 != (-1)) x181000 x181001 x181002)))
def super_checkNodes.j2 : Nat → List (S36) → Int → Int → Int → List (S36) → Int → Int → Bool → Int → Int → Int → Option (Int)
 | 0, _, _, _, _, _, _, _, _, _, _, _ => none
 | k + 1, x0, x2, x3, x4, x9, x10, x11, x25, x181000, x181001, x181002 => if x25 = true then (if 0 ≤ (-1) then (if (-1) < (x9.length : Int) then (some x2) else (none)) else (none)) else (if x4 > 0 then (if 0 ≤ (wrap64 (x4 - 1)) then (if (wrap64 (x4 - 1)) < (x0.length : Int) then ((super_compareNodes.f k ((rd_T36 x0 (wrap64 (x4 - 1))).f0) ((rd_T36 x0 (wrap64 (x4 - 1))).f1) ((rd_T36 x0 (wrap64 (x4 - 1))).f2) x181000 x181001 x181002).bind fun t184 => (super_checkNodes.j3 k x0 x2 x3 x9 x10 x11 (decide (t184 ≥ 0)) x181000 x181001 x181002)) else (none)) else (none)) else (super_checkNodes.j3 k x0 x2 x3 x9 x10 x11 false x181000 x181001 x181002))
def super_checkNodes.j3 : Nat → List (S36) → Int → Int → List (S36) → Int → Int → Bool → Int → Int → Int → Option (Int)
 | 0, _, _, _, _, _, _, _, _, _, _ => none
 | k + 1, x0, x2, x3, x9, x10, x11, x49, x181000, x181001, x181002 => if x49 = true then (if 0 ≤ (-1) then (if (-1) < (x9.length : Int) then (some x2) else (none)) else (none)) else (if x181001 = 2 then (super_checkNodes.l0 k x0 x2 (wrap64 (x3 + 0)) x9 x10 (wrap64 (x11 + 1))) else (super_checkNodes.l0 k x0 x2 (wrap64 (x3 + 1)) x9 x10 (wrap64 (x11 + 1))))
end
def super_checkNodes.f (k : Nat) (l0 : List (S36)) : Option (Int) := if (l0.all fun x => x.f0 == 0) = true then super_checkNodes.l0 k l0 0 0 l0 (l0.length : Int) 0 else none
theorem super_checkNodes.mono_l : ∀ k, (∀ y0 y1 y2 y3 y4 y5, LeO (super_checkNodes.l0 k y0 y1 y2 y3 y4 y5) (super_checkNodes.l0 (k + 1) y0 y1 y2 y3 y4 y5)) ∧ (∀ y0 y1 y2 y3 y4 y5 y6 y7 y8 y9 y10, LeO (super_checkNodes.j1 k y0 y1 y2 y3 y4 y5 y6 y7 y8 y9 y10) (super_checkNodes.j1 (k + 1) y0 y1 y2 y3 y4 y5 y6 y7 y8 y9 y10)) ∧ (∀ y0 y1 y2 y3 y4 y5 y6 y7 y8 y9 y10, LeO (super_checkNodes.j2 k y0 y1 y2 y3 y4 y5 y6 y7 y8 y9 y10) (super_checkNodes.j2 (k + 1) y0 y1 y2 y3 y4 y5 y6 y7 y8 y9 y10)) ∧ (∀ y0 y1 y2 y3 y4 y5 y6 y7 y8 y9, LeO (super_checkNodes.j3 k y0 y1 y2 y3 y4 y5 y6 y7 y8 y9) (super_checkNodes.j3 (k + 1) y0 y1 y2 y3 y4 y5 y6 y7 y8 y9))
 | 0 => ⟨fun _ _ _ _ _ _ r h => by simp [super_checkNodes.l0] at h, fun _ _ _ _ _ _ _ _ _ _ _ r h => by simp [super_checkNodes.j1] at h, fun _ _ _ _ _ _ _ _ _ _ _ r h => by simp [super_checkNodes.j2] at h, fun _ _ _ _ _ _ _ _ _ _ r h => by simp [super_checkNodes.j3] at h⟩
 | k + 1 => by
  obtain ⟨ih0, ih1, ih2, ih3⟩ := super_checkNodes.mono_l k
  refine ⟨?_, ?_, ?_, ?_⟩
  ·intro y0 y1 y2 y3 y4 y5
   unfold super_checkNodes.l0
   repeat' first
   | (with_reducible exact ih0 _ _ _ _ _ _)
   | (with_reducible exact ih1 _ _ _ _ _ _ _ _ _ _ _)
   | (with_reducible exact ih2 _ _ _ _ _ _ _ _ _ _ _)
   | (with_reducible exact ih3 _ _ _ _ _ _ _ _ _ _)
   | (with_reducible exact super_compareNodes.mono _ _ _ _ _ _ _)
   | (with_reducible exact LeO.refl _)
   | (with_reducible exact LeO.none _)
   | (with_reducible refine LeO.ite ?_ ?_)
   | (with_reducible refine LeO.bind ?_ (fun _ => ?_))
   | exact ih0 _ _ _ _ _ _
   | exact ih1 _ _ _ _ _ _ _ _ _ _ _
   | exact ih2 _ _ _ _ _ _ _ _ _ _ _
   | exact ih3 _ _ _ _ _ _ _ _ _ _
   | exact super_compareNodes.mono _ _ _ _ _ _ _
   | exact LeO.none _
   | refine LeO.ite ?_ ?_
   | refine LeO.bind ?_ (fun _ => ?_)
  ·intro y0 y1 y2 y3 y4 y5 y6 y7 y8 y9 y10
   unfold super_checkNodes.j1
   repeat' first
   | (with_reducible exact ih0 _ _ _ _ _ _)
   | (with_reducible exact ih1 _ _ _ _ _ _ _ _ _ _ _)
   | (with_reducible exact ih2 _ _ _ _ _ _ _ _ _ _ _)
   | (with_reducible exact ih3 _ _ _ _ _ _ _ _ _ _)
   | (with_reducible exact super_compareNodes.mono _ _ _ _ _ _ _)
   | (with_reducible exact LeO.refl _)
   | (with_reducible exact LeO.none _)
   | (with_reducible refine LeO.ite ?_ ?_)
   | (with_reducible refine LeO.bind ?_ (fun _ => ?_))
   | exact ih0 _ _ _ _ _ _
   | exact ih1 _ _ _ _ _ _ _ _ _ _ _
   | exact ih2 _ _ _ _ _ _ _ _ _ _ _
   | exact ih3 _ _ _ _ _ _ _ _ _ _
   | exact super_compareNodes.mono _ _ _ _ _ _ _
   | exact LeO.none _
   | refine LeO.ite ?_ ?_
   | refine LeO.bind ?_ (fun _ => ?_)
  ·intro y0 y1 y2 y3 y4 y5 y6 y7 y8 y9 y10
   unfold super_checkNodes.j2
   repeat' first
   | (with_reducible exact ih0 _ _ _ _ _ _)
   | (with_reducible exact ih1 _ _ _ _ _ _ _ _ _ _ _)
   | (with_reducible exact ih2 _ _ _ _ _ _ _ _ _ _ _)
   | (with_reducible exact ih3 _ _ _ _ _ _ _ _ _ _)
   | (with_reducible exact super_compareNodes.mono _ _ _ _ _ _ _)
   | (with_reducible exact LeO.refl _)
   | (with_reducible exact LeO.none _)
   | (with_reducible refine LeO.ite ?_ ?_)
   | (with_reducible refine LeO.bind ?_ (fun _ => ?_))
   | exact ih0 _ _ _ _ _ _
   | exact ih1 _ _ _ _ _ _ _ _ _ _ _
   | exact ih2 _ _ _ _ _ _ _ _ _ _ _
   | exact ih3 _ _ _ _ _ _ _ _ _ _
   | exact super_compareNodes.mono _ _ _ _ _ _ _
   | exact LeO.none _
   | refine LeO.ite ?_ ?_
   | refine LeO.bind ?_ (fun _ => ?_)
  ·intro y0 y1 y2 y3 y4 y5 y6 y7 y8 y9
   unfold super_checkNodes.j3
   repeat' first
   | (with_reducible exact ih0 _ _ _ _ _ _)
   | (with_reducible exact ih1 _ _ _ _ _ _ _ _ _ _ _)
   | (with_reducible exact ih2 _ _ _ _ _ _ _ _ _ _ _)
   | (with_reducible exact ih3 _ _ _ _ _ _ _ _ _ _)
   | (with_reducible exact super_compareNodes.mono _ _ _ _ _ _ _)
   | (with_reducible exact LeO.refl _)
   | (with_reducible exact LeO.none _)
   | (with_reducible refine LeO.ite ?_ ?_)
   | (with_reducible refine LeO.bind ?_ (fun _ => ?_))
   | exact ih0 _ _ _ _ _ _
   | exact ih1 _ _ _ _ _ _ _ _ _ _ _
   | exact ih2 _ _ _ _ _ _ _ _ _ _ _
   | exact ih3 _ _ _ _ _ _ _ _ _ _
   | exact super_compareNodes.mono _ _ _ _ _ _ _
   | exact LeO.none _
   | refine LeO.ite ?_ ?_
   | refine LeO.bind ?_ (fun _ => ?_)
theorem super_checkNodes.mono : ∀ a0 k, LeO (super_checkNodes.f k a0) (super_checkNodes.f (k + 1) a0) := by
 intro a0 k
 obtain ⟨ih0, ih1, ih2, ih3⟩ := super_checkNodes.mono_l k
 unfold super_checkNodes.f
 repeat' first
   | (with_reducible exact ih0 _ _ _ _ _ _)
   | (with_reducible exact ih1 _ _ _ _ _ _ _ _ _ _ _)
   | (with_reducible exact ih2 _ _ _ _ _ _ _ _ _ _ _)
   | (with_reducible exact ih3 _ _ _ _ _ _ _ _ _ _)
   | (with_reducible exact super_compareNodes.mono _ _ _ _ _ _ _)
   | (with_reducible exact LeO.refl _)
   | (with_reducible exact LeO.none _)
   | (with_reducible refine LeO.ite ?_ ?_)
   | (with_reducible refine LeO.bind ?_ (fun _ => ?_))
   | exact ih0 _ _ _ _ _ _
   | exact ih1 _ _ _ _ _ _ _ _ _ _ _
   | exact ih2 _ _ _ _ _ _ _ _ _ _ _
   | exact ih3 _ _ _ _ _ _ _ _ _ _
   | exact super_compareNodes.mono _ _ _ _ _ _ _
   | exact LeO.none _
   | refine LeO.ite ?_ ?_
   | refine LeO.bind ?_ (fun _ => ?_)
def super_checkNodes.T9 : Bool × List (List Nat × List Nat) := (true, [([], []), ([0], [0]), ([1], [1]), ([2], [2]), ([2], [2]), ([4, 2], [2, 4]), ([3, 5, 2], [2, 3, 5]), ([6, 2], [2, 6]), ([2], [2]), ([7, 8, 2, 2], [2, 7, 8]), ([9, 2], [2, 9]), ([2, 10], [2, 10]), ([11, 9], [11])])
def super_checkNodes.B9 : List Nat := [0, 1, 3, 7, 7, 23, 63, 127, 7, 511, 1023, 2047, 4095]
theorem super_checkNodes.tab9 : rtab .any (opsOf Try.f23 9) = super_checkNodes.T9 := by kernel_rfl
theorem super_checkNodes.bits9 : waitsOk super_checkNodes.T9.2 super_checkNodes.B9 = true := by kernel_rfl
set_option maxHeartbeats 8000000 in
set_option maxRecDepth 100000 in
theorem super_checkNodes.calls (k : Nat) (A0 : Option Addr) (c0 : Nat) (l0 : List (S36)) (r : Int) (w : World) (hr0 : Kd.C k36 w A0 l0.length l0) (hc0 : l0.length ≤ c0) (h : super_checkNodes.f k l0 = some r) :
  Calls Try.prog 23 #[.slice A0 l0.length c0] w fun e w' => e = .returned (.int .i64 r) ∧ Below w.heap.size w w' := by
 have hu36 := Try.underlying36
 have HR0 := Aside0.mk hr0
 have HC0 := Aside0.mk hc0
 clear hr0 hc0
 have HB := Aside0.mk (Below.refl w.heap.size w)
 have hall : (l0.all fun x => x.f0 == 0) = true := by
  unfold super_checkNodes.f at h
  by_cases hq : (l0.all fun x => x.f0 == 0) = true
  ·exact hq
  ·rw [if_neg hq] at h; cases h
 have HZ := Aside0.mk (show ∀ i : Int, (rd_T36 l0 i).f0 = 0 by
  intro i
  unfold rd_T36
  rw [List.getD_eq_getElem?_getD]
  cases hi : l0[i.toNat]? with
  | none => rfl
  | some x => exact beq_iff_eq.1 (List.all_eq_true.1 hall x (List.mem_of_getElem? hi)))
 have H : (super_checkNodes.l0 k l0 0 0 l0 (l0.length : Int) 0) = some r := by unfold super_checkNodes.f at h; rw [if_pos hall] at h; exact h
 clear hall
 clear h
 have H' := Aside0.mk H
 clear H
 go_enter Try.func23, Try.ntmps23
 go_wp2_with (first | ((with_reducible refine gate_dst (N := 8) rfl ?_); refine MapI.wp_made rfl rfl ?_; intro gm w0m hgm hM hb; have n0_ := Aside0.mk (below_step HB.out hb); have n1_ := Aside0.mk (Nat.le_trans (below_size HB.out) hgm); have HMI := Aside0.mk hM; clear HB; have HB := n0_; have GM := n1_; clear n0_ n1_; clear hgm hM hb))
 go_loopg [11] k (fun kq v11 w' => ∃ (x3_1 : Int) (x11_1 : Int), v11 = .int .i64 x11_1 ∧ Aside0 (super_checkNodes.l0 kq l0 0 x3_1 l0 (l0.length : Int) x11_1 = some r) ∧ Aside0 (kq ≤ k) ∧ Aside0 (Below w.heap.size w w') ∧ Aside0 (MapI.Is w' gm x3_1))
 case atStart => exact ⟨(0), (0), (by first | rfl | (simp; done) | (simp [*]; done)), H', ⟨Nat.le_refl _⟩, ⟨by repeat with_reducible first | exact HB.out | apply below_alloc | apply pw_below_drewN | apply below_drew1⟩, HMI⟩
 case round =>
  clear H'
  obtain ⟨x3_1, x11_1, rfl, HA, HK1, HB, HMI⟩ := hrel
  cases gk with
  | zero => exact absurd HA.out (by simp [super_checkNodes.l0])
  | succ k1 =>
   have H := HA.out
   clear HA
   simp only [super_checkNodes.l0] at H
   by_cases c2 : x11_1 < (l0.length : Int)
   ·rw [if_pos c2] at H
    have c2b0 : decide (x11_1 < (l0.length : Int)) = true := decide_eq_true c2
    clear c2
    by_cases c3 : 0 ≤ x11_1
    ·rw [if_pos c3] at H
     have c3b0 : decide (0 ≤ x11_1) = true := decide_eq_true c3
     clear c3
     by_cases c4 : x11_1 < (l0.length : Int)
     ·rw [if_pos c4] at H
      have c4b0 : decide (x11_1 < (l0.length : Int)) = true := decide_eq_true c4
      clear c4
      have HC5 := Aside0.mk H
      clear H
      have p179 : 0 ≤ (x11_1 : Int) := of_decide_eq_true (by first | (with_reducible assumption) | assumption)
      have q179 : x11_1 < (l0.length : Int) := of_decide_eq_true (by first | (with_reducible assumption) | assumption)
      obtain ⟨ad179, e179, hx179_0, hx179_1, hx179_2⟩ := at_T36 HR0.out x11_1 p179 q179
      cases e179
      replace hx179_0 := (HB.out.cell (World.block_lt_of_cell? w _ hx179_0)).trans hx179_0
      replace hx179_1 := (HB.out.cell (World.block_lt_of_cell? w _ hx179_1)).trans hx179_1
      replace hx179_2 := (HB.out.cell (World.block_lt_of_cell? w _ hx179_2)).trans hx179_2
      replace p179 := eq_true p179
      replace q179 := eq_true q179
      go_upto_region 5 with (first | ((with_reducible refine gate_dst (N := 5) rfl ?_); refine box_event ?hg (N := 5) ?hd (cs := #[.int .i64 0, .int .i64 0, .int .i64 0]) (t := 36) ?hr ?_; (case hd => rfl); (case hg => rfl); (case hr => first | (go_simp; done) | (go_simp; rfl)); intro gb180 hg w6 hbox hb; have nM_ := Aside0.mk (MapI.Is.below (by repeat (first | (with_reducible first | exact HMI.out | apply MapI.Is.set | apply MapI.Is.alloc | apply MapI.Is.drewN | apply MapI.Is.drew) | exact HMI.out)) hb); clear HMI; have HMI := nM_; clear nM_; have n0_ := Aside0.mk (below_step (by repeat with_reducible first | exact HB.out | apply below_alloc | apply pw_below_drewN | apply below_drew1) hb); have n1_ := Aside0.mk (hbox); have n2_ := Aside0.mk ((by rw [hg]; exact (below_size (by repeat with_reducible first | exact HB.out | apply below_alloc | apply pw_below_drewN | apply below_drew1)) : w.heap.size ≤ gb180)); have n3_ := Aside0.mk ((by rw [hg]; exact (below_size (by repeat with_reducible first | exact HB.out | apply below_alloc | apply pw_below_drewN | apply below_drew1)) : w.heap.size ≤ gb180)); clear HB; have HB := n0_; have BK180 := n1_; have GW180 := n2_; have GE180 := n3_; clear n0_ n1_ n2_ n3_; clear hb hbox hg; have hcz7_0 : w6.cell? ⟨gb180, 0, none⟩ = some (.int .i64 0) := (blk_cell BK180.out 0).trans rfl; have hcz7_1 : w6.cell? ⟨gb180, 1, none⟩ = some (.int .i64 0) := (blk_cell BK180.out 1).trans rfl; have hcz7_2 : w6.cell? ⟨gb180, 2, none⟩ = some (.int .i64 0) := (blk_cell BK180.out 2).trans rfl; have hfz7_0 := blk_frozen BK180.out 0; have hfz7_1 := blk_frozen BK180.out 1; have hfz7_2 := blk_frozen BK180.out 2))
      (try simp only [Act.put, List.setIfInBounds_toArray, List.set_cons_zero, List.set_cons_succ])
      go_cut [16] (fun v16 wc => ∃ (kq : Nat) (x16_4 : Bool), v16 = .bool x16_4 ∧ Aside0 (super_checkNodes.j1 kq l0 0 x3_1 x11_1 l0 (l0.length : Int) x11_1 x16_4 ((rd_T36 l0 x11_1).f0) ((rd_T36 l0 x11_1).f1) ((rd_T36 l0 x11_1).f2) = some r) ∧ Aside0 (kq ≤ k1) ∧ Aside0 (wc.heap[gb180]? = some (.cells #[.int .i64 ((rd_T36 l0 x11_1).f0), .int .i64 ((rd_T36 l0 x11_1).f1), .int .i64 ((rd_T36 l0 x11_1).f2)] 36 (0, 0))) ∧ Aside0 (Below w.heap.size w wc) ∧ Aside0 (MapI.Is wc gm x3_1))
      case first =>
       have H := HC5.out
       clear HC5
       by_cases c8 : ((rd_T36 l0 x11_1).f1) < 1
       ·rw [if_pos c8] at H
        exact absurd H (by simp)
       ·rw [if_neg c8] at H
        have c8b0 : decide (((rd_T36 l0 x11_1).f1) < 1) = false := decide_eq_false c8
        clear c8
        (first | rw [c8b0] | (simp only [i64_w, i32_w]; rw [c8b0]) | skip)
        have H' := Aside0.mk H
        clear H
        have hcz10_0 : w6.cell? ⟨gb180, 0, none⟩ = some (.int .i64 0) := (blk_cell BK180.out 0).trans rfl
        have hcz10_1 : w6.cell? ⟨gb180, 1, none⟩ = some (.int .i64 0) := (blk_cell BK180.out 1).trans rfl
        have hcz10_2 : w6.cell? ⟨gb180, 2, none⟩ = some (.int .i64 0) := (blk_cell BK180.out 2).trans rfl
        have hfz10_0 := blk_frozen BK180.out 0
        have hfz10_1 := blk_frozen BK180.out 1
        have hfz10_2 := blk_frozen BK180.out 2
        go_wp2
        go_meet
        case rel => exact ⟨_, (decide (((rd_T36 l0 x11_1).f1) > 4)), (by first | rfl | (simp; done) | (simp [*]; done)), H', ⟨by have := HK1.out; first | omega | exact Nat.le_refl _⟩, ⟨by (with_reducible repeat first | apply bn | apply bd | apply ba); refine blk_put (cs := #[.int .i64 ((rd_T36 l0 x11_1).f0), .int .i64 ((rd_T36 l0 x11_1).f1), .int .i64 0]) ?_ 2 _ rfl; refine blk_put (cs := #[.int .i64 ((rd_T36 l0 x11_1).f0), .int .i64 0, .int .i64 0]) ?_ 1 _ rfl; refine blk_put (cs := #[.int .i64 0, .int .i64 0, .int .i64 0]) ?_ 0 _ rfl; (with_reducible repeat first | apply bn | apply bd | apply ba); exact BK180.out⟩, ⟨by repeat with_reducible first | exact HB.out | apply below_alloc | apply pw_below_drewN | apply below_drew1 | refine below_set ?_ GE180.out⟩, ⟨(by repeat (first | (with_reducible first | exact HMI.out | apply MapI.Is.set | apply MapI.Is.alloc | apply MapI.Is.drewN | apply MapI.Is.drew) | exact HMI.out))⟩⟩
      case rest =>
       clear HC5
       (try clear p1);(try clear q1);(try clear hx1);(try clear c2);(try clear c2b0);(try clear p2);(try clear c3);(try clear c3b0);(try clear c4);(try clear c4b0);(try clear c8);(try clear c8b0);(try clear hcz10_0);(try clear hcz10_1);(try clear hcz10_2);(try clear hcz7_0);(try clear hcz7_1);(try clear hcz7_2);(try clear hcz9_0);(try clear hcz9_1);(try clear hcz9_2);(try clear hfz10_0);(try clear hfz10_1);(try clear hfz10_2);(try clear hfz7_0);(try clear hfz7_1);(try clear hfz7_2);(try clear hfz9_0);(try clear hfz9_1);(try clear hfz9_2);(try clear hx179_0);(try clear hx179_1);(try clear hx179_2);(try clear p179);(try clear q179)
       obtain ⟨kq, x16_4, rfl, HA, HJ4, BK180, HB, HMI⟩ := hcut
       cases kq with
       | zero => exact absurd HA.out (by simp [super_checkNodes.j1])
       | succ kj4 =>
        have H := HA.out
        clear HA
        simp only [super_checkNodes.j1] at H
        by_cases c11 : x16_4 = true
        ·subst c11
         have H1 : (if 0 ≤ (-1) then (if (-1) < (l0.length : Int) then (some 0) else (none)) else (none)) = some r := by rw [if_pos rfl] at H; exact H
         clear H
         have H := H1
         clear H1
         by_cases c12 : 0 ≤ (-1)
         ·exact absurd c12 (by decide)
         ·rw [if_neg c12] at H
          exact absurd H (by simp)
        ·replace c11 := Bool.eq_false_iff.mpr c11
         subst c11
         have H1 : (if ((rd_T36 l0 x11_1).f0) < 0 then (none) else (if ((rd_T36 l0 x11_1).f1) = 2 then (if ((rd_T36 l0 x11_1).f2) < 0 then (none) else (super_checkNodes.j2 kj4 l0 0 x3_1 x11_1 l0 (l0.length : Int) x11_1 false ((rd_T36 l0 x11_1).f0) ((rd_T36 l0 x11_1).f1) ((rd_T36 l0 x11_1).f2))) else (super_checkNodes.j2 kj4 l0 0 x3_1 x11_1 l0 (l0.length : Int) x11_1 (((rd_T36 l0 x11_1).f2) != (-1)) ((rd_T36 l0 x11_1).f0) ((rd_T36 l0 x11_1).f1) ((rd_T36 l0 x11_1).f2)))) = some r := by rw [if_neg (show ¬ (false = true) by decide)] at H; exact H
         clear H
         have H := H1
         clear H1
         have HC14 := Aside0.mk H
         clear H
         go_upto_region 7 with (fail)
         go_cut [25] (fun v25 wc => ∃ (kq : Nat) (x25_13 : Bool), v25 = .bool x25_13 ∧ Aside0 (super_checkNodes.j2 kq l0 0 x3_1 x11_1 l0 (l0.length : Int) x11_1 x25_13 ((rd_T36 l0 x11_1).f0) ((rd_T36 l0 x11_1).f1) ((rd_T36 l0 x11_1).f2) = some r) ∧ Aside0 (kq ≤ kj4) ∧ Aside0 (wc.heap[gb180]? = some (.cells #[.int .i64 ((rd_T36 l0 x11_1).f0), .int .i64 ((rd_T36 l0 x11_1).f1), .int .i64 ((rd_T36 l0 x11_1).f2)] 36 (0, 0))) ∧ Aside0 (Below w.heap.size w wc) ∧ Aside0 (MapI.Is wc gm x3_1))
         case first =>
          have H := HC14.out
          clear HC14
          by_cases c15 : ((rd_T36 l0 x11_1).f0) < 0
          ·rw [if_pos c15] at H
           exact absurd H (by simp)
          ·rw [if_neg c15] at H
           have c15b0 : decide (((rd_T36 l0 x11_1).f0) < 0) = false := decide_eq_false c15
           clear c15
           (first | rw [c15b0] | (simp only [i64_w, i32_w]; rw [c15b0]) | skip)
           by_cases c17 : ((rd_T36 l0 x11_1).f1) = 2
           ·rw [if_pos c17] at H
            have c17b0 : (((rd_T36 l0 x11_1).f1) == 2) = true := beq_iff_eq.mpr c17
            have c17b1 : (((rd_T36 l0 x11_1).f1) != 2) = false := bne_eq_false_iff_eq.mpr c17
            clear c17
            by_cases c18 : ((rd_T36 l0 x11_1).f2) < 0
            ·rw [if_pos c18] at H
             exact absurd H (by simp)
            ·rw [if_neg c18] at H
             have c18b0 : decide (((rd_T36 l0 x11_1).f2) < 0) = false := decide_eq_false c18
             clear c18
             have H' := Aside0.mk H
             clear H
             have hcz20_0 : wc.cell? ⟨gb180, 0, none⟩ = some (.int .i64 ((rd_T36 l0 x11_1).f0)) := (blk_cell BK180.out 0).trans rfl
             have hcz20_1 : wc.cell? ⟨gb180, 1, none⟩ = some (.int .i64 ((rd_T36 l0 x11_1).f1)) := (blk_cell BK180.out 1).trans rfl
             have hcz20_2 : wc.cell? ⟨gb180, 2, none⟩ = some (.int .i64 ((rd_T36 l0 x11_1).f2)) := (blk_cell BK180.out 2).trans rfl
             have hfz20_0 := blk_frozen BK180.out 0
             have hfz20_1 := blk_frozen BK180.out 1
             have hfz20_2 := blk_frozen BK180.out 2
             go_wp2
             go_meet
             case rel => exact ⟨_, (false), (by first | rfl | (simp; done) | (simp [*]; done)), H', ⟨by have := HK1.out; have := HJ4.out; first | omega | exact Nat.le_refl _⟩, ⟨by (with_reducible repeat first | apply bn | apply bd | apply ba); exact BK180.out⟩, ⟨by repeat with_reducible first | exact HB.out | apply below_alloc | apply pw_below_drewN | apply below_drew1 | refine below_set ?_ GE180.out⟩, ⟨(by repeat (first | (with_reducible first | exact HMI.out | apply MapI.Is.set | apply MapI.Is.alloc | apply MapI.Is.drewN | apply MapI.Is.drew) | exact HMI.out))⟩⟩
           ·rw [if_neg c17] at H
            have c17b0 : (((rd_T36 l0 x11_1).f1) == 2) = false := beq_eq_false_iff_ne.mpr c17
            have c17b1 : (((rd_T36 l0 x11_1).f1) != 2) = true := bne_iff_ne.mpr c17
            have H' := Aside0.mk H
            clear H
            have hcz21_0 : wc.cell? ⟨gb180, 0, none⟩ = some (.int .i64 ((rd_T36 l0 x11_1).f0)) := (blk_cell BK180.out 0).trans rfl
            have hcz21_1 : wc.cell? ⟨gb180, 1, none⟩ = some (.int .i64 ((rd_T36 l0 x11_1).f1)) := (blk_cell BK180.out 1).trans rfl
            have hcz21_2 : wc.cell? ⟨gb180, 2, none⟩ = some (.int .i64 ((rd_T36 l0 x11_1).f2)) := (blk_cell BK180.out 2).trans rfl
            have hfz21_0 := blk_frozen BK180.out 0
            have hfz21_1 := blk_frozen BK180.out 1
            have hfz21_2 := blk_frozen BK180.out 2
            go_wp2
            go_meet
            case rel => exact ⟨_, ((((rd_T36 l0 x11_1).f2) != (-1))), (by first | rfl | (simp; done) | (simp [*]; done)), H', ⟨by have := HK1.out; have := HJ4.out; first | omega | exact Nat.le_refl _⟩, ⟨by (with_reducible repeat first | apply bn | apply bd | apply ba); exact BK180.out⟩, ⟨by repeat with_reducible first | exact HB.out | apply below_alloc | apply pw_below_drewN | apply below_drew1 | refine below_set ?_ GE180.out⟩, ⟨(by repeat (first | (with_reducible first | exact HMI.out | apply MapI.Is.set | apply MapI.Is.alloc | apply MapI.Is.drewN | apply MapI.Is.drew) | exact HMI.out))⟩⟩
         case rest =>
          clear HC14
          (try clear c1);(try clear p1);(try clear q1);(try clear hx1);(try clear c2);(try clear c2b0);(try clear p2);(try clear c3);(try clear c3b0);(try clear c4);(try clear c4b0);(try clear c8);(try clear c8b0);(try clear c11);(try clear c12);(try clear c12b0);(try clear c13);(try clear c13b0);(try clear c15);(try clear c15b0);(try clear c17);(try clear c17b0);(try clear c17b1);(try clear p17);(try clear q17);(try clear hx17);(try clear c18);(try clear c18b0);(try clear p18);(try clear q18);(try clear hx18);(try clear hcz10_0);(try clear hcz10_1);(try clear hcz10_2);(try clear hcz16_0);(try clear hcz16_1);(try clear hcz16_2);(try clear hcz19_0);(try clear hcz19_1);(try clear hcz19_2);(try clear hcz20_0);(try clear hcz20_1);(try clear hcz20_2);(try clear hcz21_0);(try clear hcz21_1);(try clear hcz21_2);(try clear hcz7_0);(try clear hcz7_1);(try clear hcz7_2);(try clear hcz9_0);(try clear hcz9_1);(try clear hcz9_2);(try clear hfz10_0);(try clear hfz10_1);(try clear hfz10_2);(try clear hfz16_0);(try clear hfz16_1);(try clear hfz16_2);(try clear hfz19_0);(try clear hfz19_1);(try clear hfz19_2);(try clear hfz20_0);(try clear hfz20_1);(try clear hfz20_2);(try clear hfz21_0);(try clear hfz21_1);(try clear hfz21_2);(try clear hfz7_0);(try clear hfz7_1);(try clear hfz7_2);(try clear hfz9_0);(try clear hfz9_1);(try clear hfz9_2);(try clear hx179_0);(try clear hx179_1);(try clear hx179_2);(try clear hx181_0);(try clear hx181_1);(try clear hx181_2);(try clear p1);(try clear p179);(try clear p181);(try clear p2);(try clear q1);(try clear q179);(try clear q181)
          obtain ⟨kq, x25_13, rfl, HA, HJ13, BK180, HB, HMI⟩ := hcut
          cases kq with
          | zero => exact absurd HA.out (by simp [super_checkNodes.j2])
          | succ kj13 =>
           have H := HA.out
           clear HA
           simp only [super_checkNodes.j2] at H
           by_cases c22 : x25_13 = true
           ·subst c22
            have H1 : (if 0 ≤ (-1) then (if (-1) < (l0.length : Int) then (some 0) else (none)) else (none)) = some r := by rw [if_pos rfl] at H; exact H
            clear H
            have H := H1
            clear H1
            by_cases c23 : 0 ≤ (-1)
            ·exact absurd c23 (by decide)
            ·rw [if_neg c23] at H
             exact absurd H (by simp)
           ·replace c22 := Bool.eq_false_iff.mpr c22
            subst c22
            have H1 : (if x11_1 > 0 then (if 0 ≤ (wrap64 (x11_1 - 1)) then (if (wrap64 (x11_1 - 1)) < (l0.length : Int) then ((super_compareNodes.f kj13 ((rd_T36 l0 (wrap64 (x11_1 - 1))).f0) ((rd_T36 l0 (wrap64 (x11_1 - 1))).f1) ((rd_T36 l0 (wrap64 (x11_1 - 1))).f2) ((rd_T36 l0 x11_1).f0) ((rd_T36 l0 x11_1).f1) ((rd_T36 l0 x11_1).f2)).bind fun t184 => (super_checkNodes.j3 kj13 l0 0 x3_1 l0 (l0.length : Int) x11_1 (decide (t184 ≥ 0)) ((rd_T36 l0 x11_1).f0) ((rd_T36 l0 x11_1).f1) ((rd_T36 l0 x11_1).f2))) else (none)) else (none)) else (super_checkNodes.j3 kj13 l0 0 x3_1 l0 (l0.length : Int) x11_1 false ((rd_T36 l0 x11_1).f0) ((rd_T36 l0 x11_1).f1) ((rd_T36 l0 x11_1).f2))) = some r := by rw [if_neg (show ¬ (false = true) by decide)] at H; exact H
            clear H
            have H := H1
            clear H1
            have HC25 := Aside0.mk H
            clear H
            go_upto_region 9 with (fail)
            go_cut [49] (fun v49 wc => ∃ (kq : Nat) (x49_24 : Bool), v49 = .bool x49_24 ∧ Aside0 (super_checkNodes.j3 kq l0 0 x3_1 l0 (l0.length : Int) x11_1 x49_24 ((rd_T36 l0 x11_1).f0) ((rd_T36 l0 x11_1).f1) ((rd_T36 l0 x11_1).f2) = some r) ∧ Aside0 (kq ≤ kj13) ∧ Aside0 (wc.heap[gb180]? = some (.cells #[.int .i64 ((rd_T36 l0 x11_1).f0), .int .i64 ((rd_T36 l0 x11_1).f1), .int .i64 ((rd_T36 l0 x11_1).f2)] 36 (0, 0))) ∧ Aside0 (Below w.heap.size w wc) ∧ Aside0 (MapI.Is wc gm x3_1))
            case first =>
             have H := HC25.out
             clear HC25
             by_cases c26 : x11_1 > 0
             ·rw [if_pos c26] at H
              have c26b0 : decide (0 < x11_1) = true := decide_eq_true c26
              clear c26
              (first | rw [c26b0] | (simp only [i64_w, i32_w]; rw [c26b0]) | skip)
              obtain ⟨ji27, hji27⟩ : ∃ j_ : Int, (wrap64 (x11_1 - 1)) = j_ := ⟨_, rfl⟩
              replace H : (if 0 ≤ (ji27) then (if (ji27) < (l0.length : Int) then ((super_compareNodes.f kj13 ((rd_T36 l0 (ji27)).f0) ((rd_T36 l0 (ji27)).f1) ((rd_T36 l0 (ji27)).f2) ((rd_T36 l0 x11_1).f0) ((rd_T36 l0 x11_1).f1) ((rd_T36 l0 x11_1).f2)).bind fun t184 => (super_checkNodes.j3 kj13 l0 0 x3_1 l0 (l0.length : Int) x11_1 (decide (t184 ≥ 0)) ((rd_T36 l0 x11_1).f0) ((rd_T36 l0 x11_1).f1) ((rd_T36 l0 x11_1).f2))) else (none)) else (none)) = some r := by first | (rw [hji27] at H; exact H) | (simp only [hji27] at H ⊢; exact H)
              have hji27w : (IntKind.i64.wrap (x11_1 - 1)) = ji27 := (i64_w _).trans hji27
              by_cases c28 : 0 ≤ (ji27)
              ·rw [if_pos c28] at H
               have c28b0 : decide (0 ≤ (ji27)) = true := decide_eq_true c28
               clear c28
               by_cases c29 : (ji27) < (l0.length : Int)
               ·rw [if_pos c29] at H
                have c29b0 : decide ((ji27) < (l0.length : Int)) = true := decide_eq_true c29
                clear c29
                replace H := Option.bind_eq_some_iff.mp H
                obtain ⟨t184, A300, H⟩ := H
                replace H : (super_checkNodes.j3 kj13 l0 0 x3_1 l0 (l0.length : Int) x11_1 (decide (t184 ≥ 0)) ((rd_T36 l0 x11_1).f0) ((rd_T36 l0 x11_1).f1) ((rd_T36 l0 x11_1).f2)) = some r := H
                have A30 := Aside0.mk A300
                clear A300
                have H' := Aside0.mk H
                clear H
                try go_wp2
                have nM_ := Aside0.mk (MapI.Is.drew HMI.out)
                clear HMI
                have HMI := nM_
                clear nM_
                have n0_ := Aside0.mk (blk_drew BK180.out)
                have n1_ := Aside0.mk (below_drew1 HB.out)
                clear BK180
                clear HB
                have BK180 := n0_
                have HB := n1_
                clear n0_ n1_
                have p183 : 0 ≤ ((ji27) : Int) := of_decide_eq_true (by first | (with_reducible assumption) | assumption)
                have q183 : (ji27) < (l0.length : Int) := of_decide_eq_true (by first | (with_reducible assumption) | assumption)
                obtain ⟨ad183, e183, hx183_0, hx183_1, hx183_2⟩ := at_T36 HR0.out (ji27) p183 q183
                have hw183_2 := hx183_2
                have hw183_1 := hx183_1
                have hw183_0 := hx183_0
                obtain rfl : ad179 = ad183 := (by injection e183)
                replace hx183_0 := (HB.out.cell (World.block_lt_of_cell? w _ hx183_0)).trans hx183_0
                replace hx183_1 := (HB.out.cell (World.block_lt_of_cell? w _ hx183_1)).trans hx183_1
                replace hx183_2 := (HB.out.cell (World.block_lt_of_cell? w _ hx183_2)).trans hx183_2
                replace p183 := eq_true p183
                replace q183 := eq_true q183
                refine start_ (n := 13) (S := fun w' => w'.cell? ⟨gb180, 0, none⟩ = some (.int .i64 ((rd_T36 l0 x11_1).f0)) ∧ w'.cell? ⟨gb180, 1, none⟩ = some (.int .i64 ((rd_T36 l0 x11_1).f1)) ∧ w'.cell? ⟨gb180, 2, none⟩ = some (.int .i64 ((rd_T36 l0 x11_1).f2)) ∧ w'.cell? (ad179.add (((ji27)).toNat * 3)) = some (.int .i64 ((rd_T36 l0 (ji27)).f0)) ∧ w'.cell? ⟨(ad179.add (((ji27)).toNat * 3)).block, (ad179.add (((ji27)).toNat * 3)).off + 1, none⟩ = some (.int .i64 ((rd_T36 l0 (ji27)).f1)) ∧ w'.cell? ⟨(ad179.add (((ji27)).toNat * 3)).block, (ad179.add (((ji27)).toNat * 3)).off + 2, none⟩ = some (.int .i64 ((rd_T36 l0 (ji27)).f2))) (ds := []) #[false, false, false, false, false, false, false, false, false, false, false, false, false] (by kernel_rfl) rfl rfl ⟨(blk_cell BK180.out 0).trans rfl, (blk_cell BK180.out 1).trans rfl, (blk_cell BK180.out 2).trans rfl, ((HB.out.cell (World.block_lt_of_cell? w _ hw183_0)).trans hw183_0), ((HB.out.cell (World.block_lt_of_cell? w _ hw183_1)).trans hw183_1), ((HB.out.cell (World.block_lt_of_cell? w _ hw183_2)).trans hw183_2)⟩ (fun hHeld => ?_); refine with_tabW super_checkNodes.tab9 super_checkNodes.bits9 (fun HT_ HW_ => ?_)
                generalize wc.drew = w31 at BK180 HB HMI hx183_0 hx183_1 hx183_2 hHeld ⊢
                refine pure_ (i := 0) (N := some 50) (v := ?_) (a' := ?_) #[true, false, false, false, false, false, false, false, false, false, false, false, false] rfl rfl (any_of HT_.out (by kernel_rfl)) (fun _ _ _ h => h) (Or.inl ⟨by rfl, ?_⟩) ?_ ?_
                rotate_left;focus(intro w';go_simp;with_reducible rfl)
                rotate_left;focus(simp only [Act.put, List.setIfInBounds_toArray, List.set_cons_zero, List.set_cons_succ, i64_w];rfl)
                refine pure_ (i := 1) (N := some 51) (v := ?_) (a' := ?_) #[true, true, false, false, false, false, false, false, false, false, false, false, false] rfl rfl (any_of HT_.out (by kernel_rfl)) (fun _ _ _ h => h) (Or.inl ⟨by rfl, ?_⟩) ?_ ?_
                rotate_left;focus(intro w';go_simp;with_reducible rfl)
                rotate_left;focus(simp only [Act.put, List.setIfInBounds_toArray, List.set_cons_zero, List.set_cons_succ, i64_w];rfl)
                refine pure_ (i := 2) (N := some 52) (v := ?_) (a' := ?_) #[true, true, true, false, false, false, false, false, false, false, false, false, false] rfl rfl (any_of HT_.out (by kernel_rfl)) (fun _ _ _ h => h) (Or.inl ⟨by rfl, ?_⟩) ?_ ?_
                rotate_left;focus(intro w';go_simp;with_reducible rfl)
                rotate_left;focus(simp only [Act.put, List.setIfInBounds_toArray, List.set_cons_zero, List.set_cons_succ, i64_w];rfl)
                refine pure_ (i := 3) (N := some 53) (v := ?_) (a' := ?_) #[true, true, true, true, false, false, false, false, false, false, false, false, false] rfl rfl (any_of HT_.out (by kernel_rfl)) (fun _ _ _ h => h) (Or.inl ⟨by rfl, ?_⟩) ?_ ?_
                rotate_left;focus(intro w';go_simp;with_reducible rfl)
                rotate_left;focus(simp only [Act.put, List.setIfInBounds_toArray, List.set_cons_zero, List.set_cons_succ, i64_w];rfl)
                refine pure_ (i := 4) (N := some 54) (v := ?_) (a' := ?_) #[true, true, true, true, true, false, false, false, false, false, false, false, false] rfl rfl (any_of HT_.out (by kernel_rfl)) (fun _ _ _ h => h) (Or.inl ⟨by rfl, ?_⟩) ?_ ?_
                rotate_left;focus(intro w';go_simp;with_reducible rfl)
                rotate_left;focus(simp only [Act.put, List.setIfInBounds_toArray, List.set_cons_zero, List.set_cons_succ, i64_w];rfl)
                refine pure_ (i := 5) (N := some 55) (v := ?_) (a' := ?_) #[true, true, true, true, true, true, false, false, false, false, false, false, false] rfl rfl (any_of HT_.out (by kernel_rfl)) (fun _ _ _ h => h) (Or.inl ⟨by rfl, ?_⟩) ?_ ?_
                rotate_left;focus(intro w';go_simp;with_reducible rfl)
                rotate_left;focus(simp only [Act.put, List.setIfInBounds_toArray, List.set_cons_zero, List.set_cons_succ, i64_w];rfl)
                refine pure_ (i := 6) (N := some 56) (v := ?_) (a' := ?_) #[true, true, true, true, true, true, true, false, false, false, false, false, false] rfl rfl (any_of HT_.out (by kernel_rfl)) (fun _ _ _ h => h) (Or.inl ⟨by rfl, ?_⟩) ?_ ?_
                rotate_left;focus(intro w';go_simp;with_reducible rfl)
                rotate_left;focus(simp only [Act.put, List.setIfInBounds_toArray, List.set_cons_zero, List.set_cons_succ, i64_w];rfl)
                refine take_ (i := 7) (N := some 57) (v := ?_) (a' := ?_) #[true, true, true, true, true, true, true, true, false, false, false, false, false] rfl rfl (take_ofW HT_.out HW_.out (by kernel_rfl)) (fun _ _ _ h => h) (Or.inl ⟨by rfl, ?_⟩) hHeld ?_ ?_
                rotate_left;focus(rintro w' ⟨s0, s1, s2, s3, s4, s5⟩;go_simp;with_reducible rfl)
                rotate_left;focus(simp only [Act.put, List.setIfInBounds_toArray, List.set_cons_zero, List.set_cons_succ, i64_w];rfl)
                refine take_ (i := 8) (N := some 58) (v := ?_) (a' := ?_) #[true, true, true, true, true, true, true, true, true, false, false, false, false] rfl rfl (take_ofW HT_.out HW_.out (by kernel_rfl)) (fun _ _ _ h => h) (Or.inl ⟨by rfl, ?_⟩) hHeld ?_ ?_
                rotate_left;focus(rintro w' ⟨s0, s1, s2, s3, s4, s5⟩;go_simp;with_reducible rfl)
                rotate_left;focus(simp only [Act.put, List.setIfInBounds_toArray, List.set_cons_zero, List.set_cons_succ, i64_w];rfl)
                refine one_ (i := 9) (N := some 59) #[true, true, true, true, true, true, true, true, true, true, false, false, false] rfl rfl (one_of HT_.out (by kernel_rfl)) (by decide) (fun K hK => ?_)
                refine goes_ Try.func32 (by kernel_rfl) rfl #[.agg #[.int .i64 ((rd_T36 l0 (ji27)).f0), .int .i64 ((rd_T36 l0 (ji27)).f1), .int .i64 ((rd_T36 l0 (ji27)).f2)], .agg #[.int .i64 ((rd_T36 l0 x11_1).f0), .int .i64 ((rd_T36 l0 x11_1).f1), .int .i64 ((rd_T36 l0 x11_1).f2)]] (by rfl) rfl rfl (by (try simp only [List.map_toArray, List.map_cons, List.map_nil]); first | done | (simp only [hji27]; rfl) | rfl | (simp only [List.length_drop, List.length_take]; rfl)) ?_
                with_reducible refine (super_compareNodes.calls kj13 ((rd_T36 l0 (ji27)).f0) ((rd_T36 l0 (ji27)).f1) ((rd_T36 l0 (ji27)).f2) ((rd_T36 l0 x11_1).f0) ((rd_T36 l0 x11_1).f1) ((rd_T36 l0 x11_1).f2) t184 _ A30.out).mono ?_
                rintro e w32 ⟨rfl, hb⟩
                refine ⟨_, rfl, ?_⟩
                have nM_ := Aside0.mk (MapI.Is.below (by repeat (first | (with_reducible first | exact HMI.out | apply MapI.Is.set | apply MapI.Is.alloc | apply MapI.Is.drewN | apply MapI.Is.drew) | exact HMI.out)) hb)
                clear HMI
                have HMI := nM_
                clear nM_
                have n0_ := Aside0.mk (blk_below (g := gb180) (o := .cells #[.int .i64 ((rd_T36 l0 x11_1).f0), .int .i64 ((rd_T36 l0 x11_1).f1), .int .i64 ((rd_T36 l0 x11_1).f2)] 36 (0, 0)) (by (with_reducible repeat first | apply bn | apply bd | apply ba); exact BK180.out) hb)
                have n1_ := Aside0.mk (below_step (by repeat with_reducible first | exact HB.out | apply below_alloc | apply pw_below_drewN | apply below_drew1 | refine below_set ?_ GE180.out) hb)
                clear BK180
                clear HB
                have BK180 := n0_
                have HB := n1_
                clear n0_ n1_
                (try clear hb)
                (try clear hb2)
                (try clear hk)
                (try clear hi)
                refine hK.out _ _ ⟨(blk_cell BK180.out 0).trans rfl, (blk_cell BK180.out 1).trans rfl, (blk_cell BK180.out 2).trans rfl, ((HB.out.cell (World.block_lt_of_cell? w _ hw183_0)).trans hw183_0), ((HB.out.cell (World.block_lt_of_cell? w _ hw183_1)).trans hw183_1), ((HB.out.cell (World.block_lt_of_cell? w _ hw183_2)).trans hw183_2)⟩ (fun hHeld => ?_)
                clear hK K
                refine norm_ (a' := ?_) ?_ ?_
                rotate_left;focus(show Act.put _ (some 59) _ = _;simp only [Act.put, List.setIfInBounds_toArray, List.set_cons_zero, List.set_cons_succ, i64_w];rfl)
                refine pure_ (i := 10) (N := some 60) (v := ?_) (a' := ?_) #[true, true, true, true, true, true, true, true, true, true, true, false, false] rfl rfl (any_of HT_.out (by kernel_rfl)) (fun _ _ _ h => h) (Or.inl ⟨by rfl, ?_⟩) ?_ ?_
                rotate_left;focus(intro w';go_simp;with_reducible rfl)
                rotate_left;focus(simp only [Act.put, List.setIfInBounds_toArray, List.set_cons_zero, List.set_cons_succ, i64_w];rfl)
                refine pure_ (i := 11) (N := some 61) (v := ?_) (a' := ?_) #[true, true, true, true, true, true, true, true, true, true, true, true, false] rfl rfl (any_of HT_.out (by kernel_rfl)) (fun _ _ _ h => h) (Or.inl ⟨by rfl, ?_⟩) ?_ ?_
                rotate_left;focus(intro w';go_simp;with_reducible rfl)
                rotate_left;focus(simp only [Act.put, List.setIfInBounds_toArray, List.set_cons_zero, List.set_cons_succ, i64_w];rfl)
                refine pure_ (i := 12) (N := some 49) (v := ?_) (a' := ?_) #[true, true, true, true, true, true, true, true, true, true, true, true, true] rfl rfl (any_of HT_.out (by kernel_rfl)) (fun _ _ _ h => h) (Or.inl ⟨by rfl, ?_⟩) ?_ ?_
                rotate_left;focus(intro w';go_simp;with_reducible rfl)
                rotate_left;focus(simp only [Act.put, List.setIfInBounds_toArray, List.set_cons_zero, List.set_cons_succ, i64_w];rfl)
                refine done_ (done_of HT_.out (by kernel_rfl)) ?_
                try go_wp2
                go_meet
                case rel => exact ⟨_, (decide (t184 ≥ 0)), (by first | rfl | (simp; done) | (simp [*]; done)), H', ⟨by have := HK1.out; have := HJ4.out; have := HJ13.out; first | omega | exact Nat.le_refl _⟩, ⟨by (with_reducible repeat first | apply bn | apply bd | apply ba); exact BK180.out⟩, ⟨by repeat with_reducible first | exact HB.out | apply below_alloc | apply pw_below_drewN | apply below_drew1 | refine below_set ?_ GE180.out⟩, ⟨(by repeat (first | (with_reducible first | exact HMI.out | apply MapI.Is.set | apply MapI.Is.alloc | apply MapI.Is.drewN | apply MapI.Is.drew) | exact HMI.out))⟩⟩
               ·rw [if_neg c29] at H
                exact absurd H (by simp)
              ·rw [if_neg c28] at H
               exact absurd H (by simp)
             ·rw [if_neg c26] at H
              have c26b0 : decide (0 < x11_1) = false := decide_eq_false c26
              clear c26
              (first | rw [c26b0] | (simp only [i64_w, i32_w]; rw [c26b0]) | skip)
              have H' := Aside0.mk H
              clear H
              try go_wp2
              have nM_ := Aside0.mk (MapI.Is.drew HMI.out)
              clear HMI
              have HMI := nM_
              clear nM_
              have n0_ := Aside0.mk (blk_drew BK180.out)
              have n1_ := Aside0.mk (below_drew1 HB.out)
              clear BK180
              clear HB
              have BK180 := n0_
              have HB := n1_
              clear n0_ n1_
              refine start_ (n := 13) (S := fun w' => True) (ds := []) #[false, false, false, false, false, false, false, false, false, false, false, false, false] (by kernel_rfl) rfl rfl trivial (fun hHeld => ?_); refine with_tabW super_checkNodes.tab9 super_checkNodes.bits9 (fun HT_ HW_ => ?_)
              generalize wc.drew = w33 at BK180 HB HMI hHeld ⊢
              refine pure_ (i := 0) (N := some 50) (v := ?_) (a' := ?_) #[true, false, false, false, false, false, false, false, false, false, false, false, false] rfl rfl (any_of HT_.out (by kernel_rfl)) (fun _ _ _ h => h) (Or.inl ⟨by rfl, ?_⟩) ?_ ?_
              rotate_left;focus(intro w';go_simp;with_reducible rfl)
              rotate_left;focus(simp only [Act.put, List.setIfInBounds_toArray, List.set_cons_zero, List.set_cons_succ, i64_w];rfl)
              refine pure_ (i := 1) (N := some 51) (v := ?_) (a' := ?_) #[true, true, false, false, false, false, false, false, false, false, false, false, false] rfl rfl (any_of HT_.out (by kernel_rfl)) (fun _ _ _ h => h) (Or.inl ⟨by rfl, ?_⟩) ?_ ?_
              rotate_left;focus(intro w';go_simp;with_reducible rfl)
              rotate_left;focus(simp only [Act.put, List.setIfInBounds_toArray, List.set_cons_zero, List.set_cons_succ, i64_w];rfl)
              refine pure_ (i := 2) (N := some 52) (v := ?_) (a' := ?_) #[true, true, true, false, false, false, false, false, false, false, false, false, false] rfl rfl (any_of HT_.out (by kernel_rfl)) (fun _ _ _ h => h) (Or.inl ⟨by rfl, ?_⟩) ?_ ?_
              rotate_left;focus(intro w';go_simp;with_reducible rfl)
              rotate_left;focus(simp only [Act.put, List.setIfInBounds_toArray, List.set_cons_zero, List.set_cons_succ, i64_w];rfl)
              refine pure_ (i := 3) (N := some 53) (v := undef) (a' := ?_) #[true, true, true, true, false, false, false, false, false, false, false, false, false] rfl rfl (any_of HT_.out (by kernel_rfl)) (fun _ _ _ h => h) (Or.inr ⟨by rfl, rfl⟩) ?_ ?_
              rotate_left;focus(simp only [Act.put, List.setIfInBounds_toArray, List.set_cons_zero, List.set_cons_succ, i64_w];rfl)
              refine pure_ (i := 4) (N := some 54) (v := undef) (a' := ?_) #[true, true, true, true, true, false, false, false, false, false, false, false, false] rfl rfl (any_of HT_.out (by kernel_rfl)) (fun _ _ _ h => h) (Or.inr ⟨by rfl, rfl⟩) ?_ ?_
              rotate_left;focus(simp only [Act.put, List.setIfInBounds_toArray, List.set_cons_zero, List.set_cons_succ, i64_w];rfl)
              refine pure_ (i := 5) (N := some 55) (v := undef) (a' := ?_) #[true, true, true, true, true, true, false, false, false, false, false, false, false] rfl rfl (any_of HT_.out (by kernel_rfl)) (fun _ _ _ h => h) (Or.inr ⟨by rfl, rfl⟩) ?_ ?_
              rotate_left;focus(simp only [Act.put, List.setIfInBounds_toArray, List.set_cons_zero, List.set_cons_succ, i64_w];rfl)
              refine pure_ (i := 6) (N := some 56) (v := undef) (a' := ?_) #[true, true, true, true, true, true, true, false, false, false, false, false, false] rfl rfl (any_of HT_.out (by kernel_rfl)) (fun _ _ _ h => h) (Or.inr ⟨by rfl, rfl⟩) ?_ ?_
              rotate_left;focus(simp only [Act.put, List.setIfInBounds_toArray, List.set_cons_zero, List.set_cons_succ, i64_w];rfl)
              refine pure_ (i := 7) (N := some 57) (v := undef) (a' := ?_) #[true, true, true, true, true, true, true, true, false, false, false, false, false] rfl rfl (any_of HT_.out (by kernel_rfl)) (fun _ _ _ h => h) (Or.inr ⟨by rfl, rfl⟩) ?_ ?_
              rotate_left;focus(simp only [Act.put, List.setIfInBounds_toArray, List.set_cons_zero, List.set_cons_succ, i64_w];rfl)
              refine pure_ (i := 8) (N := some 58) (v := undef) (a' := ?_) #[true, true, true, true, true, true, true, true, true, false, false, false, false] rfl rfl (any_of HT_.out (by kernel_rfl)) (fun _ _ _ h => h) (Or.inr ⟨by rfl, rfl⟩) ?_ ?_
              rotate_left;focus(simp only [Act.put, List.setIfInBounds_toArray, List.set_cons_zero, List.set_cons_succ, i64_w];rfl)
              refine pure_ (i := 9) (N := some 59) (v := undef) (a' := ?_) #[true, true, true, true, true, true, true, true, true, true, false, false, false] rfl rfl (any_of HT_.out (by kernel_rfl)) (fun _ _ _ h => h) (Or.inr ⟨by rfl, rfl⟩) ?_ ?_
              rotate_left;focus(simp only [Act.put, List.setIfInBounds_toArray, List.set_cons_zero, List.set_cons_succ, i64_w];rfl)
              refine pure_ (i := 10) (N := some 60) (v := undef) (a' := ?_) #[true, true, true, true, true, true, true, true, true, true, true, false, false] rfl rfl (any_of HT_.out (by kernel_rfl)) (fun _ _ _ h => h) (Or.inr ⟨by rfl, rfl⟩) ?_ ?_
              rotate_left;focus(simp only [Act.put, List.setIfInBounds_toArray, List.set_cons_zero, List.set_cons_succ, i64_w];rfl)
              refine pure_ (i := 11) (N := some 61) (v := ?_) (a' := ?_) #[true, true, true, true, true, true, true, true, true, true, true, true, false] rfl rfl (any_of HT_.out (by kernel_rfl)) (fun _ _ _ h => h) (Or.inl ⟨by rfl, ?_⟩) ?_ ?_
              rotate_left;focus(intro w';go_simp;with_reducible rfl)
              rotate_left;focus(simp only [Act.put, List.setIfInBounds_toArray, List.set_cons_zero, List.set_cons_succ, i64_w];rfl)
              refine pure_ (i := 12) (N := some 49) (v := ?_) (a' := ?_) #[true, true, true, true, true, true, true, true, true, true, true, true, true] rfl rfl (any_of HT_.out (by kernel_rfl)) (fun _ _ _ h => h) (Or.inl ⟨by rfl, ?_⟩) ?_ ?_
              rotate_left;focus(intro w';go_simp;with_reducible rfl)
              rotate_left;focus(simp only [Act.put, List.setIfInBounds_toArray, List.set_cons_zero, List.set_cons_succ, i64_w];rfl)
              refine done_ (done_of HT_.out (by kernel_rfl)) ?_
              try go_wp2
              go_meet
              case rel => exact ⟨_, (false), (by first | rfl | (simp; done) | (simp [*]; done)), H', ⟨by have := HK1.out; have := HJ4.out; have := HJ13.out; first | omega | exact Nat.le_refl _⟩, ⟨by (with_reducible repeat first | apply bn | apply bd | apply ba); exact BK180.out⟩, ⟨by repeat with_reducible first | exact HB.out | apply below_alloc | apply pw_below_drewN | apply below_drew1 | refine below_set ?_ GE180.out⟩, ⟨(by repeat (first | (with_reducible first | exact HMI.out | apply MapI.Is.set | apply MapI.Is.alloc | apply MapI.Is.drewN | apply MapI.Is.drew) | exact HMI.out))⟩⟩
            case rest =>
             clear HC25
             (try clear c1);(try clear p1);(try clear q1);(try clear hx1);(try clear c2);(try clear c2b0);(try clear p2);(try clear c3);(try clear c3b0);(try clear c4);(try clear c4b0);(try clear p6);(try clear c8);(try clear c8b0);(try clear c11);(try clear c12);(try clear c12b0);(try clear c13);(try clear c13b0);(try clear c15);(try clear c15b0);(try clear c17);(try clear c17b0);(try clear c17b1);(try clear p17);(try clear q17);(try clear hx17);(try clear c18);(try clear c18b0);(try clear p18);(try clear q18);(try clear hx18);(try clear c22);(try clear c23);(try clear c23b0);(try clear c24);(try clear c24b0);(try clear c26);(try clear c26b0);(try clear c28);(try clear c28b0);(try clear c29);(try clear c29b0);(try clear c32);(try clear hcz10_0);(try clear hcz10_1);(try clear hcz10_2);(try clear hcz16_0);(try clear hcz16_1);(try clear hcz16_2);(try clear hcz19_0);(try clear hcz19_1);(try clear hcz19_2);(try clear hcz20_0);(try clear hcz20_1);(try clear hcz20_2);(try clear hcz21_0);(try clear hcz21_1);(try clear hcz21_2);(try clear hcz7_0);(try clear hcz7_1);(try clear hcz7_2);(try clear hcz9_0);(try clear hcz9_1);(try clear hcz9_2);(try clear hfz10_0);(try clear hfz10_1);(try clear hfz10_2);(try clear hfz16_0);(try clear hfz16_1);(try clear hfz16_2);(try clear hfz19_0);(try clear hfz19_1);(try clear hfz19_2);(try clear hfz20_0);(try clear hfz20_1);(try clear hfz20_2);(try clear hfz21_0);(try clear hfz21_1);(try clear hfz21_2);(try clear hfz7_0);(try clear hfz7_1);(try clear hfz7_2);(try clear hfz9_0);(try clear hfz9_1);(try clear hfz9_2);(try clear hx179_0);(try clear hx179_1);(try clear hx179_2);(try clear hx181_0);(try clear hx181_1);(try clear hx181_2);(try clear hx182_0);(try clear hx182_1);(try clear hx182_2);(try clear hx183_0);(try clear hx183_1);(try clear hx183_2);(try clear p1);(try clear p17);(try clear p179);(try clear p18);(try clear p181);(try clear p182);(try clear p183);(try clear p2);(try clear q1);(try clear q17);(try clear q179);(try clear q18);(try clear q181);(try clear q182);(try clear q183)
             obtain ⟨kq, x49_24, rfl, HA, HJ24, BK180, HB, HMI⟩ := hcut
             cases kq with
             | zero => exact absurd HA.out (by simp [super_checkNodes.j3])
             | succ kj24 =>
              have H := HA.out
              clear HA
              simp only [super_checkNodes.j3] at H
              by_cases c34 : x49_24 = true
              ·subst c34
               have H1 : (if 0 ≤ (-1) then (if (-1) < (l0.length : Int) then (some 0) else (none)) else (none)) = some r := by rw [if_pos rfl] at H; exact H
               clear H
               have H := H1
               clear H1
               by_cases c35 : 0 ≤ (-1)
               ·exact absurd c35 (by decide)
               ·rw [if_neg c35] at H
                exact absurd H (by simp)
              ·replace c34 := Bool.eq_false_iff.mpr c34
               subst c34
               have H1 : (if ((rd_T36 l0 x11_1).f1) = 2 then (super_checkNodes.l0 kj24 l0 0 (wrap64 (x3_1 + 0)) l0 (l0.length : Int) (wrap64 (x11_1 + 1))) else (super_checkNodes.l0 kj24 l0 0 (wrap64 (x3_1 + 1)) l0 (l0.length : Int) (wrap64 (x11_1 + 1)))) = some r := by rw [if_neg (show ¬ (false = true) by decide)] at H; exact H
               clear H
               have H := H1
               clear H1
               by_cases c37 : ((rd_T36 l0 x11_1).f1) = 2
               ·rw [if_pos c37] at H
                have c37b0 : (((rd_T36 l0 x11_1).f1) == 2) = true := beq_iff_eq.mpr c37
                have c37b1 : (((rd_T36 l0 x11_1).f1) != 2) = false := bne_eq_false_iff_eq.mpr c37
                clear c37
                have H' := Aside0.mk H
                clear H
                have hcz38_0 : wc.cell? ⟨gb180, 0, none⟩ = some (.int .i64 ((rd_T36 l0 x11_1).f0)) := (blk_cell BK180.out 0).trans rfl
                have hcz38_1 : wc.cell? ⟨gb180, 1, none⟩ = some (.int .i64 ((rd_T36 l0 x11_1).f1)) := (blk_cell BK180.out 1).trans rfl
                have hcz38_2 : wc.cell? ⟨gb180, 2, none⟩ = some (.int .i64 ((rd_T36 l0 x11_1).f2)) := (blk_cell BK180.out 2).trans rfl
                have hfz38_0 := blk_frozen BK180.out 0
                have hfz38_1 := blk_frozen BK180.out 1
                have hfz38_2 := blk_frozen BK180.out 2
                go_wp2_with (first | ((with_reducible refine gate_dst (N := 73) rfl ?_); at_lookup; refine MapI.wp_look rfl _ _ rfl Try.underlying3 Try.underlying55 (zero3_run _) gm x3_1 ((rd_T36 l0 x11_1).f0) (HZ.out _) rfl rfl (by repeat (first | (with_reducible first | exact HMI.out | apply MapI.Is.set | apply MapI.Is.alloc | apply MapI.Is.drewN | apply MapI.Is.drew) | exact HMI.out)) ?_) | (at_mapUpdate; refine MapI.wp_put rfl _ _ _ rfl Try.underlying3 Try.underlying55 gm x3_1 ((rd_T36 l0 x11_1).f0) (wrap64 (x3_1 + 0)) (HZ.out _) rfl rfl (show (Value.int .i64 (wrap64 x3_1)) = Value.int .i64 (wrap64 (x3_1 + 0)) by rw [Int.add_zero]) (by repeat (first | (with_reducible first | exact HMI.out | apply MapI.Is.set | apply MapI.Is.alloc | apply MapI.Is.drewN | apply MapI.Is.drew) | exact HMI.out)) ?_; intro w50 hM2 hg2; have n0_ := Aside0.mk (show MapI.Is w50 gm (wrap64 (x3_1 + 0)) from .inl hM2); have n1_ := Aside0.mk (MapI.HBG GM.out (by repeat with_reducible first | exact HB.out | apply below_alloc | apply pw_below_drewN | apply below_drew1) hg2); clear HMI HB; have HMI := n0_; have HB := n1_; clear n0_ n1_; clear hM2 hg2))
                go_roundg kj24
                case measure => have := HK1.out; have := HJ4.out; have := HJ13.out; have := HJ24.out; omega
                case rel => exact ⟨(wrap64 (x3_1 + 0)), (wrap64 (x11_1 + 1)), (by first | rfl | (simp; done) | (simp [*]; done)), H', ⟨by have := HK1.out; have := HJ4.out; have := HJ13.out; have := HJ24.out; omega⟩, ⟨by repeat with_reducible first | exact HB.out | apply below_alloc | apply pw_below_drewN | apply below_drew1 | refine below_set ?_ GE180.out⟩, ⟨(by repeat (first | (with_reducible first | exact HMI.out | apply MapI.Is.set | apply MapI.Is.alloc | apply MapI.Is.drewN | apply MapI.Is.drew) | exact HMI.out))⟩⟩
               ·rw [if_neg c37] at H
                have c37b0 : (((rd_T36 l0 x11_1).f1) == 2) = false := beq_eq_false_iff_ne.mpr c37
                have c37b1 : (((rd_T36 l0 x11_1).f1) != 2) = true := bne_iff_ne.mpr c37
                have H' := Aside0.mk H
                clear H
                have hcz39_0 : wc.cell? ⟨gb180, 0, none⟩ = some (.int .i64 ((rd_T36 l0 x11_1).f0)) := (blk_cell BK180.out 0).trans rfl
                have hcz39_1 : wc.cell? ⟨gb180, 1, none⟩ = some (.int .i64 ((rd_T36 l0 x11_1).f1)) := (blk_cell BK180.out 1).trans rfl
                have hcz39_2 : wc.cell? ⟨gb180, 2, none⟩ = some (.int .i64 ((rd_T36 l0 x11_1).f2)) := (blk_cell BK180.out 2).trans rfl
                have hfz39_0 := blk_frozen BK180.out 0
                have hfz39_1 := blk_frozen BK180.out 1
                have hfz39_2 := blk_frozen BK180.out 2
                go_wp2_with (first | ((with_reducible refine gate_dst (N := 68) rfl ?_); at_lookup; refine MapI.wp_look rfl _ _ rfl Try.underlying3 Try.underlying55 (zero3_run _) gm x3_1 ((rd_T36 l0 x11_1).f0) (HZ.out _) rfl rfl (by repeat (first | (with_reducible first | exact HMI.out | apply MapI.Is.set | apply MapI.Is.alloc | apply MapI.Is.drewN | apply MapI.Is.drew) | exact HMI.out)) ?_) | (at_mapUpdate; refine MapI.wp_put rfl _ _ _ rfl Try.underlying3 Try.underlying55 gm x3_1 ((rd_T36 l0 x11_1).f0) (wrap64 (x3_1 + 1)) (HZ.out _) rfl rfl (by first | rfl | (simp; done)) (by repeat (first | (with_reducible first | exact HMI.out | apply MapI.Is.set | apply MapI.Is.alloc | apply MapI.Is.drewN | apply MapI.Is.drew) | exact HMI.out)) ?_; intro w50 hM2 hg2; have n0_ := Aside0.mk (show MapI.Is w50 gm (wrap64 (x3_1 + 1)) from .inl hM2); have n1_ := Aside0.mk (MapI.HBG GM.out (by repeat with_reducible first | exact HB.out | apply below_alloc | apply pw_below_drewN | apply below_drew1) hg2); clear HMI HB; have HMI := n0_; have HB := n1_; clear n0_ n1_; clear hM2 hg2))
                go_roundg kj24
                case measure => have := HK1.out; have := HJ4.out; have := HJ13.out; have := HJ24.out; omega
                case rel => exact ⟨(wrap64 (x3_1 + 1)), (wrap64 (x11_1 + 1)), (by first | rfl | (simp; done) | (simp [*]; done)), H', ⟨by have := HK1.out; have := HJ4.out; have := HJ13.out; have := HJ24.out; omega⟩, ⟨by repeat with_reducible first | exact HB.out | apply below_alloc | apply pw_below_drewN | apply below_drew1 | refine below_set ?_ GE180.out⟩, ⟨(by repeat (first | (with_reducible first | exact HMI.out | apply MapI.Is.set | apply MapI.Is.alloc | apply MapI.Is.drewN | apply MapI.Is.drew) | exact HMI.out))⟩⟩
     ·rw [if_neg c4] at H
      exact absurd H (by simp)
    ·rw [if_neg c3] at H
     exact absurd H (by simp)
   ·rw [if_neg c2] at H
    have c2b0 : decide (x11_1 < (l0.length : Int)) = false := decide_eq_false c2
    clear c2
    by_cases c40 : x3_1 = 3
    ·rw [if_pos c40] at H
     have c40b0 : (x3_1 == 3) = true := beq_iff_eq.mpr c40
     have c40b1 : (x3_1 != 3) = false := bne_eq_false_iff_eq.mpr c40
     clear c40
     obtain rfl := Option.some.inj H
     have hI_ := HMI.out
     rw [show x3_1 = 3 from beq_iff_eq.1 c40b0] at hI_
     have hOne : MapI.One wr gm 3 := by
      rcases hI_ with h | ⟨h0, _⟩
      ·exact h
      ·exact absurd h0 (by decide)
     have HO1 := Aside0.mk hOne
     clear hOne hI_
     go_wp2_with (first | ((with_reducible refine gate_dst (N := 77) rfl ?_); refine MapI.wp_range rfl _ rfl Try.underlying55 gm 3 rfl HO1.out ?_; intro gr w51 hgr hit hM3 hb; have n0_ := Aside0.mk (below_step HB.out hb); have n1_ := Aside0.mk hM3; have n2_ := Aside0.mk hit; have n3_ := Aside0.mk (Nat.le_trans (below_size HB.out) hgr); clear HB HO1; have HB := n0_; have HO1 := n1_; have HIT := n2_; have GR := n3_; clear n0_ n1_ n2_ n3_; clear hgr hit hM3 hb))
     refine wp_loop_rounds 2 ?_
     rw [rounds_succ]
     go_wp2_with (first | ((with_reducible refine gate_dst (N := 78) rfl ?_); refine MapI.wp_next1 rfl _ rfl gm gr 3 rfl HIT.out HO1.out ?_; intro w52 hit hM3 hg2; have n0_ := Aside0.mk (MapI.HBG GR.out HB.out hg2); have n1_ := Aside0.mk hM3; have n2_ := Aside0.mk hit; clear HB HO1 HIT; have HB := n0_; have HO1 := n1_; have HIT := n2_; clear n0_ n1_ n2_; clear hit hM3 hg2) | ((with_reducible refine gate_dst (N := 80) rfl ?_); refine MapI.wp_entry rfl _ rfl gm gr 3 rfl HIT.out HO1.out ?_))
     rw [rounds_succ]
     go_wp2_with (first | ((with_reducible refine gate_dst (N := 78) rfl ?_); refine MapI.wp_next2 rfl _ rfl gm gr 3 rfl HIT.out HO1.out ?_))
     go_ret
     exact ⟨by first | rfl | (simp [errW_none, errW_some] <;> rfl) | (simp [*, errW_none, errW_some] <;> rfl), by repeat with_reducible first | exact HB.out | apply below_alloc | apply pw_below_drewN | apply below_drew1⟩
    ·rw [if_neg c40] at H
     have c40b0 : (x3_1 == 3) = false := beq_eq_false_iff_ne.mpr c40
     have c40b1 : (x3_1 != 3) = true := bne_iff_ne.mpr c40
     by_cases c41 : 0 ≤ (-1)
     ·exact absurd c41 (by decide)
     ·rw [if_neg c41] at H
      exact absurd H (by simp)

end Go.Proofs.Ytbmhpnegigccnaa.PS
