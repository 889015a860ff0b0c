/- Printed by a program of this session out of the translation: plain functions with the answers of the Go functions, and the proofs that they have them. -/
import Derived.Test.YtkbclcecmcdlfaaDoorD12
namespace Go.Proofs.YtkbclcecmcdlfaaDoor.PD
open Go.RowKit Go.Proofs.YtkbclcecmcdlfaaDoorW.PrintWords Go.Proofs.YtkbclcecmcdlfaaDoorW.PrintLast Go.Proofs.YtkbclcecmcdlfaaDoorW.PrintMore
attribute [local go_sem] max2_int min2_int max_two min_two max_three min_three max_four min_four   -- for this text's walks alone
set_option linter.unusedVariables false
set_option linter.unusedSimpArgs false

/-! ### dataflowlaw10_nearest: function 11 -/
mutual
def dataflowlaw10_nearest.l0 : Nat → List ByteArray → ByteArray → Int → List (S32) → Option (ByteArray)
 | 0, _, _, _, _ => none
 | k + 1, x1, x2, x7, x433000 => if x7 < (x1.length : Int) then (if 0 ≤ x7 then ((dataflowref10_Find.f k x433000 (rdOf ByteArray.empty x1 x7)).bind fun t434 => (if 0 ≤ t434 then (if t434 < (x433000.length : Int) then (dataflowlaw10_nearest.l1 k x1 x2 x7 0 x433000 ((rd_T32 x433000 t434).f0) ((rd_T32 x433000 t434).f1) ((rd_T32 x433000 t434).f2) ((rd_T32 x433000 t434).f3)) else (none)) else (none))) else (none)) else (some (⟨#[]⟩ : ByteArray))
def dataflowlaw10_nearest.l1 : Nat → List ByteArray → ByteArray → Int → Int → List (S32) → ByteArray → ByteArray → List (S67) → List (S37) → Option (ByteArray)
 | 0, _, _, _, _, _, _, _, _, _ => none
 | k + 1, x1, x2, x7, x9, x433000, x437000, x437001, x437002, x437003 => if x9 < (x437003.length : Int) then (if 0 ≤ x9 then (if ((rd_T37 x437003 x9).f0).toList = x2.toList then (some x437000) else (dataflowlaw10_nearest.l1 k x1 x2 x7 (wrap64 (x9 + 1)) x433000 x437000 x437001 x437002 x437003)) else (none)) else (dataflowlaw10_nearest.l0 k x1 x2 (wrap64 (x7 + 1)) x433000)
end
def dataflowlaw10_nearest.f (k : Nat) (l0_0 : List (S32)) (l1 : List ByteArray) (a2 : ByteArray) : Option (ByteArray) := dataflowlaw10_nearest.l0 k l1 a2 0 l0_0
theorem dataflowlaw10_nearest.mono_l : ∀ k, (∀ y0 y1 y2 y3, LeO (dataflowlaw10_nearest.l0 k y0 y1 y2 y3) (dataflowlaw10_nearest.l0 (k + 1) y0 y1 y2 y3)) ∧ (∀ y0 y1 y2 y3 y4 y5 y6 y7 y8, LeO (dataflowlaw10_nearest.l1 k y0 y1 y2 y3 y4 y5 y6 y7 y8) (dataflowlaw10_nearest.l1 (k + 1) y0 y1 y2 y3 y4 y5 y6 y7 y8))
 | 0 => ⟨fun _ _ _ _ r h => by simp [dataflowlaw10_nearest.l0] at h, fun _ _ _ _ _ _ _ _ _ r h => by simp [dataflowlaw10_nearest.l1] at h⟩
 | k + 1 => by
  obtain ⟨ih0, ih1⟩ := dataflowlaw10_nearest.mono_l k
  refine ⟨?_, ?_⟩
  ·intro y0 y1 y2 y3
   unfold dataflowlaw10_nearest.l0
   repeat' first
   | (with_reducible exact ih0 _ _ _ _)
   | (with_reducible exact ih1 _ _ _ _ _ _ _ _ _)
   | (with_reducible exact dataflowref10_Find.mono _ _ _)
   | (with_reducible exact LeO.refl _)
   | (with_reducible exact LeO.none _)
   | (with_reducible refine LeO.ite ?_ ?_)
   | (with_reducible refine LeO.bind ?_ (fun _ => ?_))
   | exact ih0 _ _ _ _
   | exact ih1 _ _ _ _ _ _ _ _ _
   | exact dataflowref10_Find.mono _ _ _
   | exact LeO.none _
   | refine LeO.ite ?_ ?_
   | refine LeO.bind ?_ (fun _ => ?_)
  ·intro y0 y1 y2 y3 y4 y5 y6 y7 y8
   unfold dataflowlaw10_nearest.l1
   repeat' first
   | (with_reducible exact ih0 _ _ _ _)
   | (with_reducible exact ih1 _ _ _ _ _ _ _ _ _)
   | (with_reducible exact dataflowref10_Find.mono _ _ _)
   | (with_reducible exact LeO.refl _)
   | (with_reducible exact LeO.none _)
   | (with_reducible refine LeO.ite ?_ ?_)
   | (with_reducible refine LeO.bind ?_ (fun _ => ?_))
   | exact ih0 _ _ _ _
   | exact ih1 _ _ _ _ _ _ _ _ _
   | exact dataflowref10_Find.mono _ _ _
   | exact LeO.none _
   | refine LeO.ite ?_ ?_
   | refine LeO.bind ?_ (fun _ => ?_)
theorem dataflowlaw10_nearest.mono : ∀ a0 a1 a2 k, LeO (dataflowlaw10_nearest.f k a0 a1 a2) (dataflowlaw10_nearest.f (k + 1) a0 a1 a2) := by
 intro a0 a1 a2 k
 obtain ⟨ih0, ih1⟩ := dataflowlaw10_nearest.mono_l k
 unfold dataflowlaw10_nearest.f
 repeat' first
   | (with_reducible exact ih0 _ _ _ _)
   | (with_reducible exact ih1 _ _ _ _ _ _ _ _ _)
   | (with_reducible exact dataflowref10_Find.mono _ _ _)
   | (with_reducible exact LeO.refl _)
   | (with_reducible exact LeO.none _)
   | (with_reducible refine LeO.ite ?_ ?_)
   | (with_reducible refine LeO.bind ?_ (fun _ => ?_))
   | exact ih0 _ _ _ _
   | exact ih1 _ _ _ _ _ _ _ _ _
   | exact dataflowref10_Find.mono _ _ _
   | exact LeO.none _
   | refine LeO.ite ?_ ?_
   | refine LeO.bind ?_ (fun _ => ?_)
def dataflowlaw10_nearest.T4 : Bool × List (List Nat × List Nat) := (true, [([], []), ([0], [0]), ([], []), ([], []), ([], []), ([3, 4], [3, 4]), ([5], [5]), ([2, 6], [2, 6]), ([1, 7], [1, 7]), ([8], [8]), ([], []), ([10, 9, 7, 0, 1, 2, 3, 4, 5, 6, 7, 8, 9, 10], [9, 10])])
def dataflowlaw10_nearest.B4 : List Nat := [0, 1, 0, 0, 0, 24, 56, 124, 255, 511, 0, 2047]
theorem dataflowlaw10_nearest.tab4 : rtab .any (opsOf Tryd.f11 4) = dataflowlaw10_nearest.T4 := by kernel_rfl
theorem dataflowlaw10_nearest.bits4 : waitsOk dataflowlaw10_nearest.T4.2 dataflowlaw10_nearest.B4 = true := by kernel_rfl
set_option maxHeartbeats 8000000 in
set_option maxRecDepth 100000 in
theorem dataflowlaw10_nearest.calls (k : Nat) (A0_0 : Option Addr) (c0_0 : Nat) (l0_0 : List (S32)) (A1 : Option Addr) (c1 : Nat) (l1 : List ByteArray) (a2 : ByteArray) (r : ByteArray) (w : World) (hr0_0 : Kd.C k32 w A0_0 l0_0.length l0_0) (hc0_0 : l0_0.length ≤ c0_0) (hr1 : Kd.C Kd.string w A1 l1.length l1) (hc1 : l1.length ≤ c1) (h : dataflowlaw10_nearest.f k l0_0 l1 a2 = some r) :
  Calls Tryd.prog 11 #[.agg #[.slice A0_0 l0_0.length c0_0], .slice A1 l1.length c1, .string a2] w fun e w' => e = .returned (.string r) ∧ Below w.heap.size w w' := by
 have hu24 := Tryd.underlying24
 have hu32 := Tryd.underlying32
 have HR0_0 := Aside0.mk hr0_0
 have HC0_0 := Aside0.mk hc0_0
 clear hr0_0 hc0_0
 have HR1 := Aside0.mk hr1
 have HC1 := Aside0.mk hc1
 clear hr1 hc1
 have HB := Aside0.mk (Below.refl w.heap.size w)
 have H : (dataflowlaw10_nearest.l0 k l1 a2 0 l0_0) = some r := h
 clear h
 have H' := Aside0.mk H
 clear H
 go_enter Tryd.func11, Tryd.ntmps11
 go_wp2_with (first | ((with_reducible refine gate_dst (N := 3) rfl ?_); refine box_event ?hg (N := 3) ?hd (cs := #[.slice A0_0 l0_0.length c0_0]) (t := 24) ?hr ?_; (case hd => rfl); (case hg => rfl); (case hr => first | (go_simp; done) | (go_simp; rfl)); intro gb432 hg w4 hbox hb; have n0_ := Aside0.mk (below_step (by repeat with_reducible first | exact HB.out | apply below_alloc | apply pw_below_drewN | apply below_drew1) hb); have n1_ := Aside0.mk (hbox); have n2_ := Aside0.mk ((by rw [hg]; exact (below_size (by repeat with_reducible first | exact HB.out | apply below_alloc | apply pw_below_drewN | apply below_drew1)) : w.heap.size ≤ gb432)); have n3_ := Aside0.mk ((by rw [hg]; exact (below_size (by repeat with_reducible first | exact HB.out | apply below_alloc | apply pw_below_drewN | apply below_drew1)) : w.heap.size ≤ gb432)); clear HB; have HB := n0_; have BK432 := n1_; have GW432 := n2_; have GE432 := n3_; clear n0_ n1_ n2_ n3_; clear hb hbox hg))
 go_loopg [7] k (fun kq v7 w' => ∃ (x7_1 : Int), v7 = .int .i64 x7_1 ∧ Aside0 (dataflowlaw10_nearest.l0 kq l1 a2 x7_1 l0_0 = some r) ∧ Aside0 (kq ≤ k) ∧ Aside0 (w'.heap[gb432]? = some (.cells #[(.slice A0_0 l0_0.length c0_0)] 24 (0, 0))) ∧ Aside0 (Below w.heap.size w w'))
 case atStart => exact ⟨(0), (by first | rfl | (simp; done) | (simp [*]; done)), H', ⟨Nat.le_refl _⟩, ⟨by (with_reducible repeat first | apply bn | apply bd | apply ba); exact BK432.out⟩, ⟨by repeat with_reducible first | exact HB.out | apply below_alloc | apply pw_below_drewN | apply below_drew1 | refine below_set ?_ GE432.out⟩⟩
 case round =>
  clear H'
  (try clear c1);(try clear p2)
  obtain ⟨x7_1, rfl, HA, HK1, BK432, HB⟩ := hrel
  cases gk with
  | zero => exact absurd HA.out (by simp [dataflowlaw10_nearest.l0])
  | succ k1 =>
   have H := HA.out
   clear HA
   simp only [dataflowlaw10_nearest.l0] at H
   by_cases c5 : x7_1 < (l1.length : Int)
   ·rw [if_pos c5] at H
    have c5b0 : decide (x7_1 < (l1.length : Int)) = true := decide_eq_true c5
    clear c5
    by_cases c6 : 0 ≤ x7_1
    ·rw [if_pos c6] at H
     have c6b0 : decide (0 ≤ x7_1) = true := decide_eq_true c6
     clear c6
     replace H := Option.bind_eq_some_iff.mp H
     obtain ⟨t434, A70, H⟩ := H
     replace H : (if 0 ≤ t434 then (if t434 < (l0_0.length : Int) then (dataflowlaw10_nearest.l1 k1 l1 a2 x7_1 0 l0_0 ((rd_T32 l0_0 t434).f0) ((rd_T32 l0_0 t434).f1) ((rd_T32 l0_0 t434).f2) ((rd_T32 l0_0 t434).f3)) else (none)) else (none)) = some r := H
     have A7 := Aside0.mk A70
     clear A70
     by_cases c8 : 0 ≤ t434
     ·rw [if_pos c8] at H
      have c8b0 : decide (0 ≤ t434) = true := decide_eq_true c8
      clear c8
      by_cases c9 : t434 < (l0_0.length : Int)
      ·rw [if_pos c9] at H
       have c9b0 : decide (t434 < (l0_0.length : Int)) = true := decide_eq_true c9
       clear c9
       have H' := Aside0.mk H
       clear H
       try go_wp2
       have n0_ := Aside0.mk (blk_drew BK432.out)
       have n1_ := Aside0.mk (below_drew1 HB.out)
       clear BK432
       clear HB
       have BK432 := n0_
       have HB := n1_
       clear n0_ n1_
       have p433 : 0 ≤ (x7_1 : Int) := of_decide_eq_true (by first | (with_reducible assumption) | assumption)
       have q433 : x7_1 < (l1.length : Int) := of_decide_eq_true (by first | (with_reducible assumption) | assumption)
       obtain ⟨ad433, e433, hx433_0⟩ := Kd.at_string HR1.out x7_1 p433 q433
       have hw433_0 := hx433_0
       cases e433
       replace hx433_0 := (HB.out.cell (World.block_lt_of_cell? w _ hx433_0)).trans hx433_0
       replace p433 := eq_true p433
       replace q433 := eq_true q433
       have p435 : 0 ≤ (t434 : Int) := of_decide_eq_true (by first | (with_reducible assumption) | assumption)
       have q435 : t434 < (l0_0.length : Int) := of_decide_eq_true (by first | (with_reducible assumption) | assumption)
       obtain ⟨ad435, A435_2, c435_2, A435_3, c435_3, e435, hx435_0, hx435_1, hx435_2, hx435_3, hl435_2, hi435_2, hl435_3, hi435_3⟩ := at_T32 HR0_0.out t434 p435 q435
       have hw435_3 := hx435_3
       have hw435_2 := hx435_2
       have hw435_1 := hx435_1
       have hw435_0 := hx435_0
       cases e435
       replace hx435_0 := (HB.out.cell (World.block_lt_of_cell? w _ hx435_0)).trans hx435_0
       replace hx435_1 := (HB.out.cell (World.block_lt_of_cell? w _ hx435_1)).trans hx435_1
       replace hx435_2 := (HB.out.cell (World.block_lt_of_cell? w _ hx435_2)).trans hx435_2
       replace hx435_3 := (HB.out.cell (World.block_lt_of_cell? w _ hx435_3)).trans hx435_3
       have HR435_2 := Aside0.mk hi435_2
       have HC435_2 := Aside0.mk hl435_2
       clear hi435_2 hl435_2
       have HR435_3 := Aside0.mk hi435_3
       have HC435_3 := Aside0.mk hl435_3
       clear hi435_3 hl435_3
       replace p435 := eq_true p435
       replace q435 := eq_true q435
       refine start_ (n := 12) (S := fun w' => w'.cell? ⟨gb432, 0, none⟩ = some (.slice (some ad435) l0_0.length c0_0) ∧ w'.cell? (ad433.add (x7_1).toNat) = some (.string (rdOf ByteArray.empty l1 x7_1)) ∧ w'.cell? (ad435.add ((t434).toNat * 4)) = some (.string ((rd_T32 l0_0 t434).f0)) ∧ w'.cell? ⟨(ad435.add ((t434).toNat * 4)).block, (ad435.add ((t434).toNat * 4)).off + 1, none⟩ = some (.string ((rd_T32 l0_0 t434).f1)) ∧ w'.cell? ⟨(ad435.add ((t434).toNat * 4)).block, (ad435.add ((t434).toNat * 4)).off + 2, none⟩ = some (.slice A435_2 ((rd_T32 l0_0 t434).f2).length c435_2) ∧ w'.cell? ⟨(ad435.add ((t434).toNat * 4)).block, (ad435.add ((t434).toNat * 4)).off + 3, none⟩ = some (.slice A435_3 ((rd_T32 l0_0 t434).f3).length c435_3)) (ds := []) #[false,false,false,false,false,false,false,false,false,false,false,false] (by kernel_rfl) rfl rfl ⟨(blk_cell BK432.out 0).trans rfl, ((HB.out.cell (World.block_lt_of_cell? w _ hw433_0)).trans hw433_0), ((HB.out.cell (World.block_lt_of_cell? w _ hw435_0)).trans hw435_0), ((HB.out.cell (World.block_lt_of_cell? w _ hw435_1)).trans hw435_1), ((HB.out.cell (World.block_lt_of_cell? w _ hw435_2)).trans hw435_2), ((HB.out.cell (World.block_lt_of_cell? w _ hw435_3)).trans hw435_3)⟩ (fun hHeld => ?_); refine with_tabW dataflowlaw10_nearest.tab4 dataflowlaw10_nearest.bits4 (fun HT_ HW_ => ?_)
       generalize wr.drew = w10 at BK432 HB HR435_2 HR435_3 hx433_0 hx435_0 hx435_1 hx435_2 hx435_3 hHeld ⊢
       refine pure_ (i := 0) (N := some 16) (v := ?_) (a' := ?_) #[true,false,false,false,false,false,false,false,false,false,false,false] rfl rfl (any_of HT_.out (by kernel_rfl)) (fun _ _ _ h => h) (Or.inl ⟨by rfl, ?_⟩) ?_ ?_
       rotate_left;focus(intro w';go_simp;with_reducible rfl)
       rotate_left;focus(simp only [Act.put, List.setIfInBounds_toArray, List.set_cons_zero, List.set_cons_succ, i64_w];rfl)
       refine pure_ (i := 3) (N := some 19) (v := ?_) (a' := ?_) #[true,false,false,true,false,false,false,false,false,false,false,false] rfl rfl (any_of HT_.out (by kernel_rfl)) (fun _ _ _ h => h) (Or.inl ⟨by rfl, ?_⟩) ?_ ?_
       rotate_left;focus(intro w';go_simp;with_reducible rfl)
       rotate_left;focus(simp only [Act.put, List.setIfInBounds_toArray, List.set_cons_zero, List.set_cons_succ, i64_w];rfl)
       refine pure_ (i := 4) (N := some 20) (v := ?_) (a' := ?_) #[true,false,false,true,true,false,false,false,false,false,false,false] rfl rfl (any_of HT_.out (by kernel_rfl)) (fun _ _ _ h => h) (Or.inl ⟨by rfl, ?_⟩) ?_ ?_
       rotate_left;focus(intro w';go_simp;with_reducible rfl)
       rotate_left;focus(simp only [Act.put, List.setIfInBounds_toArray, List.set_cons_zero, List.set_cons_succ, i64_w];rfl)
       refine pure_ (i := 5) (N := some 21) (v := ?_) (a' := ?_) #[true,false,false,true,true,true,false,false,false,false,false,false] rfl rfl (any_of HT_.out (by kernel_rfl)) (fun _ _ _ h => h) (Or.inl ⟨by rfl, ?_⟩) ?_ ?_
       rotate_left;focus(intro w';go_simp;with_reducible rfl)
       rotate_left;focus(simp only [Act.put, List.setIfInBounds_toArray, List.set_cons_zero, List.set_cons_succ, i64_w];rfl)
       refine take_ (i := 1) (N := some 17) (v := ?_) (a' := ?_) #[true,true,false,true,true,true,false,false,false,false,false,false] rfl rfl (take_ofW HT_.out HW_.out (by kernel_rfl)) (fun _ _ _ h => h) (Or.inl ⟨by rfl, ?_⟩) hHeld ?_ ?_
       rotate_left;focus(rintro w' ⟨s0, s1, s2, s3, s4, s5⟩;go_simp;with_reducible rfl)
       rotate_left;focus(simp only [Act.put, List.setIfInBounds_toArray, List.set_cons_zero, List.set_cons_succ, i64_w];rfl)
       refine take_ (i := 2) (N := some 18) (v := ?_) (a' := ?_) #[true,true,true,true,true,true,false,false,false,false,false,false] rfl rfl (take_ofW HT_.out HW_.out (by kernel_rfl)) (fun _ _ _ h => h) (Or.inl ⟨by rfl, ?_⟩) hHeld ?_ ?_
       rotate_left;focus(rintro w' ⟨s0, s1, s2, s3, s4, s5⟩;go_simp;with_reducible rfl)
       rotate_left;focus(simp only [Act.put, List.setIfInBounds_toArray, List.set_cons_zero, List.set_cons_succ, i64_w];rfl)
       refine take_ (i := 6) (N := some 22) (v := ?_) (a' := ?_) #[true,true,true,true,true,true,true,false,false,false,false,false] rfl rfl (take_ofW HT_.out HW_.out (by kernel_rfl)) (fun _ _ _ h => h) (Or.inl ⟨by rfl, ?_⟩) hHeld ?_ ?_
       rotate_left;focus(rintro w' ⟨s0, s1, s2, s3, s4, s5⟩;go_simp;with_reducible rfl)
       rotate_left;focus(simp only [Act.put, List.setIfInBounds_toArray, List.set_cons_zero, List.set_cons_succ, i64_w];rfl)
       refine join_ (σ := Nat) 1 #[true,true,true,true,true,true,true,true,true,true,true,false] (fun s_ => [(23, .int .i64 t434), (8, .pointer (some ⟨s_, 0, none⟩)), (24, .pointer (some (ad435.add ((t434).toNat * 4)))), (25, .agg #[.string ((rd_T32 l0_0 t434).f0), .string ((rd_T32 l0_0 t434).f1), .slice A435_2 ((rd_T32 l0_0 t434).f2).length c435_2, .slice A435_3 ((rd_T32 l0_0 t434).f3).length c435_3])]) (fun s_ w' => (w'.cell? ⟨gb432, 0, none⟩ = some (.slice (some ad435) l0_0.length c0_0) ∧ w'.cell? (ad433.add (x7_1).toNat) = some (.string (rdOf ByteArray.empty l1 x7_1)) ∧ w'.cell? (ad435.add ((t434).toNat * 4)) = some (.string ((rd_T32 l0_0 t434).f0)) ∧ w'.cell? ⟨(ad435.add ((t434).toNat * 4)).block, (ad435.add ((t434).toNat * 4)).off + 1, none⟩ = some (.string ((rd_T32 l0_0 t434).f1)) ∧ w'.cell? ⟨(ad435.add ((t434).toNat * 4)).block, (ad435.add ((t434).toNat * 4)).off + 2, none⟩ = some (.slice A435_2 ((rd_T32 l0_0 t434).f2).length c435_2) ∧ w'.cell? ⟨(ad435.add ((t434).toNat * 4)).block, (ad435.add ((t434).toNat * 4)).off + 3, none⟩ = some (.slice A435_3 ((rd_T32 l0_0 t434).f3).length c435_3)) ∧ (w'.heap[gb432]? = some (.cells #[.slice (some ad435) l0_0.length c0_0] 24 (0, 0))) ∧ (w'.heap[s_]? = some (.cells #[.string (⟨#[]⟩ : ByteArray), .string (⟨#[]⟩ : ByteArray), .slice none 0 0, .slice none 0 0] 32 (0, 0))) ∧ (w.heap.size ≤ s_) ∧ (w.heap.size ≤ s_) ∧ (gb432 ≠ s_) ∧ (s_ ≠ gb432) ∧ (Below w.heap.size w w')) ?_ ?_
       rotate_left
       ·intro hCont
        refine two_ (i := 7) (j := 10) (Ni := some 23) (Nj := some 8) #[true,true,true,true,true,true,true,true,false,false,false,false] #[true,true,true,true,true,true,true,false,false,false,true,false] rfl rfl rfl rfl (two_of HT_.out (by kernel_rfl)) (by decide) (by decide) (fun K hK => ?_) (fun K hK => ?_)
        ·skip
         refine goes_ Tryd.func17 (by kernel_rfl) rfl #[.agg #[.slice (some ad435) l0_0.length c0_0], .string (rdOf ByteArray.empty l1 x7_1)] (by rfl) rfl rfl (by (try simp only [List.map_toArray, List.map_cons, List.map_nil]); first | done | rfl) ?_
         with_reducible refine (dataflowref10_Find.calls k1 _ _ l0_0 (rdOf ByteArray.empty l1 x7_1) t434 _ ?side1 ?side2 A7.out).mono ?_
         (case side1 => repeat (first | exact (Kd.C_below HR0_0.out HB.out) | (with_reducible refine Kd.C_alloc ?_ _) | (with_reducible refine Kd.C_drewN ?_ _) | (with_reducible refine Kd.C_drew ?_)))
         (case side2 => exact HC0_0.out)
         rintro e w11 ⟨rfl, hb⟩
         refine ⟨_, rfl, ?_⟩
         have n0_ := Aside0.mk (blk_below (g := gb432) (o := .cells #[.slice (some ad435) l0_0.length c0_0] 24 (0, 0)) (by (with_reducible repeat first | apply bn | apply bd | apply ba); exact BK432.out) hb)
         have n1_ := Aside0.mk (below_step (by repeat with_reducible first | exact HB.out | apply below_alloc | apply pw_below_drewN | apply below_drew1 | refine below_set ?_ GE432.out) hb)
         clear BK432
         clear HB
         have BK432 := n0_
         have HB := n1_
         clear n0_ n1_
         (try clear hb)
         (try clear hb2)
         (try clear hk)
         (try clear hi)
         refine hK.out _ _ ⟨(blk_cell BK432.out 0).trans rfl, ((HB.out.cell (World.block_lt_of_cell? w _ hw433_0)).trans hw433_0), ((HB.out.cell (World.block_lt_of_cell? w _ hw435_0)).trans hw435_0), ((HB.out.cell (World.block_lt_of_cell? w _ hw435_1)).trans hw435_1), ((HB.out.cell (World.block_lt_of_cell? w _ hw435_2)).trans hw435_2), ((HB.out.cell (World.block_lt_of_cell? w _ hw435_3)).trans hw435_3)⟩ (fun hHeld => ?_)
         clear hK K
         refine norm_ (a' := ?_) ?_ ?_
         rotate_left;focus(show Act.put _ (some 23) _ = _;simp only [Act.put, List.setIfInBounds_toArray, List.set_cons_zero, List.set_cons_succ, i64_w];rfl)
         refine pure_ (i := 8) (N := some 24) (v := ?_) (a' := ?_) #[true,true,true,true,true,true,true,true,true,false,false,false] rfl rfl (any_of HT_.out (by kernel_rfl)) (fun _ _ _ h => h) (Or.inl ⟨by rfl, ?_⟩) ?_ ?_
         rotate_left;focus(intro w';go_simp;with_reducible rfl)
         rotate_left;focus(simp only [Act.put, List.setIfInBounds_toArray, List.set_cons_zero, List.set_cons_succ, i64_w];rfl)
         refine take_ (i := 9) (N := some 25) (v := ?_) (a' := ?_) #[true,true,true,true,true,true,true,true,true,true,false,false] rfl rfl (take_ofW HT_.out HW_.out (by kernel_rfl)) (fun _ _ _ h => h) (Or.inl ⟨by rfl, ?_⟩) hHeld ?_ ?_
         rotate_left;focus(rintro w' ⟨s0, s1, s2, s3, s4, s5⟩;go_simp;with_reducible rfl)
         rotate_left;focus(simp only [Act.put, List.setIfInBounds_toArray, List.set_cons_zero, List.set_cons_succ, i64_w];rfl)
         refine one_ (i := 10) (N := some 8) #[true,true,true,true,true,true,true,true,true,true,true,false] rfl rfl (one_of HT_.out (by kernel_rfl)) (by decide) (fun K hK => ?_)
         refine box_step ?hg (N := 8) ?hd (cs := #[.string (⟨#[]⟩ : ByteArray), .string (⟨#[]⟩ : ByteArray), .slice none 0 0, .slice none 0 0]) (t := 32) ?hr ?_; (case hd => rfl); (case hg => rfl); (case hr => first | (go_simp; done) | (go_simp; rfl))
         intro gb436 hg w12 hbox hb
         have n0_ := Aside0.mk (blk_below (g := gb432) (o := .cells #[.slice (some ad435) l0_0.length c0_0] 24 (0, 0)) (by (with_reducible repeat first | apply bn | apply bd | apply ba); exact BK432.out) hb)
         have n1_ := Aside0.mk (below_step (by repeat with_reducible first | exact HB.out | apply below_alloc | apply pw_below_drewN | apply below_drew1 | refine below_set ?_ GE432.out) hb)
         have n2_ := Aside0.mk (hbox)
         have n3_ := Aside0.mk ((by rw [hg]; exact (below_size (by repeat with_reducible first | exact HB.out | apply below_alloc | apply pw_below_drewN | apply below_drew1 | refine below_set ?_ GE432.out)) : w.heap.size ≤ gb436))
         have n4_ := Aside0.mk ((by rw [hg]; exact (below_size (by repeat with_reducible first | exact HB.out | apply below_alloc | apply pw_below_drewN | apply below_drew1 | refine below_set ?_ GE432.out)) : w.heap.size ≤ gb436))
         have n5_ := Aside0.mk ((by rw [hg]; exact Nat.ne_of_lt (blk_lt (g := gb432) (o := .cells #[.slice (some ad435) l0_0.length c0_0] 24 (0, 0)) (by (with_reducible repeat first | apply bn | apply bd | apply ba); exact BK432.out)) : gb432 ≠ gb436))
         have n6_ := Aside0.mk ((by rw [hg]; exact Nat.ne_of_gt (blk_lt (g := gb432) (o := .cells #[.slice (some ad435) l0_0.length c0_0] 24 (0, 0)) (by (with_reducible repeat first | apply bn | apply bd | apply ba); exact BK432.out)) : gb436 ≠ gb432))
         clear BK432
         clear HB
         have BK432 := n0_
         have HB := n1_
         have BK436 := n2_
         have GW436 := n3_
         have GE436 := n4_
         have NB432_436 := n5_
         have NB436_432 := n6_
         clear n0_ n1_ n2_ n3_ n4_ n5_ n6_
         clear hb hbox hg
         refine hK.out _ _ ⟨(blk_cell BK432.out 0).trans rfl, ((HB.out.cell (World.block_lt_of_cell? w _ hw433_0)).trans hw433_0), ((HB.out.cell (World.block_lt_of_cell? w _ hw435_0)).trans hw435_0), ((HB.out.cell (World.block_lt_of_cell? w _ hw435_1)).trans hw435_1), ((HB.out.cell (World.block_lt_of_cell? w _ hw435_2)).trans hw435_2), ((HB.out.cell (World.block_lt_of_cell? w _ hw435_3)).trans hw435_3)⟩ (fun hHeld => ?_)
         clear hK K
         refine norm_ (a' := ?_) ?_ ?_
         rotate_left;focus(show Act.put _ (some 8) _ = _;simp only [Act.put, List.setIfInBounds_toArray, List.set_cons_zero, List.set_cons_succ, i64_w];rfl)
         exact norm_ (by simp only [putAll, Act.put, List.setIfInBounds_toArray, List.set_cons_zero, List.set_cons_succ]) (hCont (gb436) _ ⟨hHeld, (by (with_reducible repeat first | apply bn | apply bd | apply ba); exact BK432.out), (by (with_reducible repeat first | apply bn | apply bd | apply ba); exact BK436.out), GW436.out, GE436.out, NB432_436.out, NB436_432.out, (by repeat with_reducible first | exact HB.out | apply below_alloc | apply pw_below_drewN | apply below_drew1 | refine below_set ?_ GE432.out | refine below_set ?_ GE436.out)⟩)
        ·skip
         refine box_step ?hg (N := 8) ?hd (cs := #[.string (⟨#[]⟩ : ByteArray), .string (⟨#[]⟩ : ByteArray), .slice none 0 0, .slice none 0 0]) (t := 32) ?hr ?_; (case hd => rfl); (case hg => rfl); (case hr => first | (go_simp; done) | (go_simp; rfl))
         intro gb436 hg w11 hbox hb
         have n0_ := Aside0.mk (blk_below (g := gb432) (o := .cells #[.slice (some ad435) l0_0.length c0_0] 24 (0, 0)) (by (with_reducible repeat first | apply bn | apply bd | apply ba); exact BK432.out) hb)
         have n1_ := Aside0.mk (below_step (by repeat with_reducible first | exact HB.out | apply below_alloc | apply pw_below_drewN | apply below_drew1 | refine below_set ?_ GE432.out) hb)
         have n2_ := Aside0.mk (hbox)
         have n3_ := Aside0.mk ((by rw [hg]; exact (below_size (by repeat with_reducible first | exact HB.out | apply below_alloc | apply pw_below_drewN | apply below_drew1 | refine below_set ?_ GE432.out)) : w.heap.size ≤ gb436))
         have n4_ := Aside0.mk ((by rw [hg]; exact (below_size (by repeat with_reducible first | exact HB.out | apply below_alloc | apply pw_below_drewN | apply below_drew1 | refine below_set ?_ GE432.out)) : w.heap.size ≤ gb436))
         have n5_ := Aside0.mk ((by rw [hg]; exact Nat.ne_of_lt (blk_lt (g := gb432) (o := .cells #[.slice (some ad435) l0_0.length c0_0] 24 (0, 0)) (by (with_reducible repeat first | apply bn | apply bd | apply ba); exact BK432.out)) : gb432 ≠ gb436))
         have n6_ := Aside0.mk ((by rw [hg]; exact Nat.ne_of_gt (blk_lt (g := gb432) (o := .cells #[.slice (some ad435) l0_0.length c0_0] 24 (0, 0)) (by (with_reducible repeat first | apply bn | apply bd | apply ba); exact BK432.out)) : gb436 ≠ gb432))
         clear BK432
         clear HB
         have BK432 := n0_
         have HB := n1_
         have BK436 := n2_
         have GW436 := n3_
         have GE436 := n4_
         have NB432_436 := n5_
         have NB436_432 := n6_
         clear n0_ n1_ n2_ n3_ n4_ n5_ n6_
         clear hb hbox hg
         refine hK.out _ _ ⟨(blk_cell BK432.out 0).trans rfl, ((HB.out.cell (World.block_lt_of_cell? w _ hw433_0)).trans hw433_0), ((HB.out.cell (World.block_lt_of_cell? w _ hw435_0)).trans hw435_0), ((HB.out.cell (World.block_lt_of_cell? w _ hw435_1)).trans hw435_1), ((HB.out.cell (World.block_lt_of_cell? w _ hw435_2)).trans hw435_2), ((HB.out.cell (World.block_lt_of_cell? w _ hw435_3)).trans hw435_3)⟩ (fun hHeld => ?_)
         clear hK K
         refine norm_ (a' := ?_) ?_ ?_
         rotate_left;focus(show Act.put _ (some 8) _ = _;simp only [Act.put, List.setIfInBounds_toArray, List.set_cons_zero, List.set_cons_succ, i64_w];rfl)
         refine one_ (i := 7) (N := some 23) #[true,true,true,true,true,true,true,true,false,false,true,false] rfl rfl (one_of HT_.out (by kernel_rfl)) (by decide) (fun K hK => ?_)
         refine goes_ Tryd.func17 (by kernel_rfl) rfl #[.agg #[.slice (some ad435) l0_0.length c0_0], .string (rdOf ByteArray.empty l1 x7_1)] (by rfl) rfl rfl (by (try simp only [List.map_toArray, List.map_cons, List.map_nil]); first | done | rfl) ?_
         with_reducible refine (dataflowref10_Find.calls k1 _ _ l0_0 (rdOf ByteArray.empty l1 x7_1) t434 _ ?side1 ?side2 A7.out).mono ?_
         (case side1 => repeat (first | exact (Kd.C_below HR0_0.out HB.out) | (with_reducible refine Kd.C_alloc ?_ _) | (with_reducible refine Kd.C_drewN ?_ _) | (with_reducible refine Kd.C_drew ?_)))
         (case side2 => exact HC0_0.out)
         rintro e w12 ⟨rfl, hb⟩
         refine ⟨_, rfl, ?_⟩
         have n0_ := Aside0.mk (blk_below (g := gb432) (o := .cells #[.slice (some ad435) l0_0.length c0_0] 24 (0, 0)) (by (with_reducible repeat first | apply bn | apply bd | apply ba); exact BK432.out) hb)
         have n1_ := Aside0.mk (blk_below (g := gb436) (o := .cells #[.string (⟨#[]⟩ : ByteArray), .string (⟨#[]⟩ : ByteArray), .slice none 0 0, .slice none 0 0] 32 (0, 0)) (by (with_reducible repeat first | apply bn | apply bd | apply ba); exact BK436.out) hb)
         have n2_ := Aside0.mk (below_step (by repeat with_reducible first | exact HB.out | apply below_alloc | apply pw_below_drewN | apply below_drew1 | refine below_set ?_ GE432.out | refine below_set ?_ GE436.out) hb)
         clear BK432
         clear BK436
         clear HB
         have BK432 := n0_
         have BK436 := n1_
         have HB := n2_
         clear n0_ n1_ n2_
         (try clear hb)
         (try clear hb2)
         (try clear hk)
         (try clear hi)
         refine hK.out _ _ ⟨(blk_cell BK432.out 0).trans rfl, ((HB.out.cell (World.block_lt_of_cell? w _ hw433_0)).trans hw433_0), ((HB.out.cell (World.block_lt_of_cell? w _ hw435_0)).trans hw435_0), ((HB.out.cell (World.block_lt_of_cell? w _ hw435_1)).trans hw435_1), ((HB.out.cell (World.block_lt_of_cell? w _ hw435_2)).trans hw435_2), ((HB.out.cell (World.block_lt_of_cell? w _ hw435_3)).trans hw435_3)⟩ (fun hHeld => ?_)
         clear hK K
         refine norm_ (a' := ?_) ?_ ?_
         rotate_left;focus(show Act.put _ (some 23) _ = _;simp only [Act.put, List.setIfInBounds_toArray, List.set_cons_zero, List.set_cons_succ, i64_w];rfl)
         refine pure_ (i := 8) (N := some 24) (v := ?_) (a' := ?_) #[true,true,true,true,true,true,true,true,true,false,true,false] rfl rfl (any_of HT_.out (by kernel_rfl)) (fun _ _ _ h => h) (Or.inl ⟨by rfl, ?_⟩) ?_ ?_
         rotate_left;focus(intro w';go_simp;with_reducible rfl)
         rotate_left;focus(simp only [Act.put, List.setIfInBounds_toArray, List.set_cons_zero, List.set_cons_succ, i64_w];rfl)
         refine take_ (i := 9) (N := some 25) (v := ?_) (a' := ?_) #[true,true,true,true,true,true,true,true,true,true,true,false] rfl rfl (take_ofW HT_.out HW_.out (by kernel_rfl)) (fun _ _ _ h => h) (Or.inl ⟨by rfl, ?_⟩) hHeld ?_ ?_
         rotate_left;focus(rintro w' ⟨s0, s1, s2, s3, s4, s5⟩;go_simp;with_reducible rfl)
         rotate_left;focus(simp only [Act.put, List.setIfInBounds_toArray, List.set_cons_zero, List.set_cons_succ, i64_w];rfl)
         exact norm_ (by simp only [putAll, Act.put, List.setIfInBounds_toArray, List.set_cons_zero, List.set_cons_succ]) (hCont (gb436) _ ⟨hHeld, (by (with_reducible repeat first | apply bn | apply bd | apply ba); exact BK432.out), (by (with_reducible repeat first | apply bn | apply bd | apply ba); exact BK436.out), GW436.out, GE436.out, NB432_436.out, NB436_432.out, (by repeat with_reducible first | exact HB.out | apply below_alloc | apply pw_below_drewN | apply below_drew1 | refine below_set ?_ GE432.out | refine below_set ?_ GE436.out)⟩)
       rintro gb436 w13 ⟨hS_, h0_, h1_, h2_, h3_, h4_, h5_, h6_⟩
       have n0_ : Aside0 (w13.heap[gb432]? = some (.cells #[.slice (some ad435) l0_0.length c0_0] 24 (0, 0))) := ⟨h0_⟩
       have n1_ : Aside0 (w13.heap[gb436]? = some (.cells #[.string (⟨#[]⟩ : ByteArray), .string (⟨#[]⟩ : ByteArray), .slice none 0 0, .slice none 0 0] 32 (0, 0))) := ⟨h1_⟩
       have n2_ : Aside0 (w.heap.size ≤ gb436) := ⟨h2_⟩
       have n3_ : Aside0 (w.heap.size ≤ gb436) := ⟨h3_⟩
       have n4_ : Aside0 (gb432 ≠ gb436) := ⟨h4_⟩
       have n5_ : Aside0 (gb436 ≠ gb432) := ⟨h5_⟩
       have n6_ : Aside0 (Below w.heap.size w w13) := ⟨h6_⟩
       clear BK432
       clear HB
       clear h0_ h1_ h2_ h3_ h4_ h5_ h6_
       have BK432 := n0_
       have BK436 := n1_
       have GW436 := n2_
       have GE436 := n3_
       have NB432_436 := n4_
       have NB436_432 := n5_
       have HB := n6_
       clear n0_ n1_ n2_ n3_ n4_ n5_ n6_
       have hHeld : w13.cell? ⟨gb432, 0, none⟩ = some (.slice (some ad435) l0_0.length c0_0) ∧ w13.cell? (ad433.add (x7_1).toNat) = some (.string (rdOf ByteArray.empty l1 x7_1)) ∧ w13.cell? (ad435.add ((t434).toNat * 4)) = some (.string ((rd_T32 l0_0 t434).f0)) ∧ w13.cell? ⟨(ad435.add ((t434).toNat * 4)).block, (ad435.add ((t434).toNat * 4)).off + 1, none⟩ = some (.string ((rd_T32 l0_0 t434).f1)) ∧ w13.cell? ⟨(ad435.add ((t434).toNat * 4)).block, (ad435.add ((t434).toNat * 4)).off + 2, none⟩ = some (.slice A435_2 ((rd_T32 l0_0 t434).f2).length c435_2) ∧ w13.cell? ⟨(ad435.add ((t434).toNat * 4)).block, (ad435.add ((t434).toNat * 4)).off + 3, none⟩ = some (.slice A435_3 ((rd_T32 l0_0 t434).f3).length c435_3) := hS_
       refine norm_ (a' := ?_) ?_ ?_
       rotate_left;focus(simp only [putAll, Act.put, List.setIfInBounds_toArray, List.set_cons_zero, List.set_cons_succ];rfl)
       refine one_ (i := 11) (N := none) #[true,true,true,true,true,true,true,true,true,true,true,true] rfl rfl (one_of HT_.out (by kernel_rfl)) (by decide) (fun K hK => ?_)
       have hs14 : w13.cell? ⟨gb436, 0, none⟩ = some (.string (⟨#[]⟩ : ByteArray)) := (blk_cell BK436.out 0).trans rfl
       have hfs14 := blk_frozen BK436.out 0
       have hns14_0 := NB432_436.out
       have hms14_0 := NB436_432.out
       have hs15 : w13.cell? ⟨gb436, 1, none⟩ = some (.string (⟨#[]⟩ : ByteArray)) := (blk_cell BK436.out 1).trans rfl
       have hfs15 := blk_frozen BK436.out 1
       have hns15_0 := NB432_436.out
       have hms15_0 := NB436_432.out
       have hs16 : w13.cell? ⟨gb436, 2, none⟩ = some (.slice none 0 0) := (blk_cell BK436.out 2).trans rfl
       have hfs16 := blk_frozen BK436.out 2
       have hns16_0 := NB432_436.out
       have hms16_0 := NB436_432.out
       have hs17 : w13.cell? ⟨gb436, 3, none⟩ = some (.slice none 0 0) := (blk_cell BK436.out 3).trans rfl
       have hfs17 := blk_frozen BK436.out 3
       have hns17_0 := NB432_436.out
       have hms17_0 := NB436_432.out
       refine skip_ (w1 := ?_) (by rfl) rfl ?_ ?_
       rotate_left;focus(go_simp;rfl)
       refine hK.out _ _ ⟨(far4 (g := gb436) NB432_436.out (hHeld.1)), (far4 (g := gb436) (ltw hw433_0 GW436.out) (hHeld.2.1)), (far4 (g := gb436) (ltw hw435_0 GW436.out) (hHeld.2.2.1)), (far4 (g := gb436) (ltw hw435_1 GW436.out) (hHeld.2.2.2.1)), (far4 (g := gb436) (ltw hw435_2 GW436.out) (hHeld.2.2.2.2.1)), (far4 (g := gb436) (ltw hw435_3 GW436.out) (hHeld.2.2.2.2.2))⟩ (fun hHeld => ?_)
       clear hK K
       refine done_ (done_of HT_.out (by kernel_rfl)) ?_
       try go_wp2
       go_loopg [9] k1 (fun kq v9 w' => ∃ (x9_2 : Int), v9 = .int .i64 x9_2 ∧ Aside0 (dataflowlaw10_nearest.l1 kq l1 a2 x7_1 x9_2 l0_0 ((rd_T32 l0_0 t434).f0) ((rd_T32 l0_0 t434).f1) ((rd_T32 l0_0 t434).f2) ((rd_T32 l0_0 t434).f3) = some r) ∧ Aside0 (kq ≤ k1) ∧ Aside0 (w'.heap[gb432]? = some (.cells #[(.slice (some ad435) l0_0.length c0_0)] 24 (0, 0))) ∧ Aside0 (w'.heap[gb436]? = some (.cells #[.string ((rd_T32 l0_0 t434).f0), .string ((rd_T32 l0_0 t434).f1), (.slice A435_2 ((rd_T32 l0_0 t434).f2).length c435_2), (.slice A435_3 ((rd_T32 l0_0 t434).f3).length c435_3)] 32 (0, 0))) ∧ Aside0 (Below w.heap.size w w'))
       case atStart => exact ⟨(0), (by first | rfl | (simp; done) | (simp [*]; done)), H', ⟨Nat.le_refl _⟩, ⟨by (with_reducible repeat first | apply bn | apply bd | apply ba); refine blk_far ?_ NB432_436.out _; refine blk_far ?_ NB432_436.out _; refine blk_far ?_ NB432_436.out _; refine blk_far ?_ NB432_436.out _; (with_reducible repeat first | apply bn | apply bd | apply ba); exact BK432.out⟩, ⟨by (with_reducible repeat first | apply bn | apply bd | apply ba); refine blk_put (cs := #[.string ((rd_T32 l0_0 t434).f0), .string ((rd_T32 l0_0 t434).f1), .slice A435_2 ((rd_T32 l0_0 t434).f2).length c435_2, .slice none 0 0]) ?_ 3 _ rfl; refine blk_put (cs := #[.string ((rd_T32 l0_0 t434).f0), .string ((rd_T32 l0_0 t434).f1), .slice none 0 0, .slice none 0 0]) ?_ 2 _ rfl; refine blk_put (cs := #[.string ((rd_T32 l0_0 t434).f0), .string (⟨#[]⟩ : ByteArray), .slice none 0 0, .slice none 0 0]) ?_ 1 _ rfl; refine blk_put (cs := #[.string (⟨#[]⟩ : ByteArray), .string (⟨#[]⟩ : ByteArray), .slice none 0 0, .slice none 0 0]) ?_ 0 _ rfl; (with_reducible repeat first | apply bn | apply bd | apply ba); exact BK436.out⟩, ⟨by repeat with_reducible first | exact HB.out | apply below_alloc | apply pw_below_drewN | apply below_drew1 | refine below_set ?_ GE432.out | refine below_set ?_ GE436.out⟩⟩
       case round =>
        clear H'
        (try clear c1);(try clear p2);(try clear c4);(try clear p4);(try clear q4);(try clear hx4);(try clear c5);(try clear c5b0);(try clear c6);(try clear c6b0);(try clear c8);(try clear c8b0);(try clear c9);(try clear c9b0);(try clear c11);(try clear c17);(try clear hx433_0);(try clear hx435_0);(try clear hx435_1);(try clear hx435_2);(try clear hx435_3);(try clear p2);(try clear p433);(try clear p435);(try clear q433);(try clear q435)
        obtain ⟨x9_2, rfl, HA, HK2, BK432, BK436, HB⟩ := hrel
        cases gk with
        | zero => exact absurd HA.out (by simp [dataflowlaw10_nearest.l1])
        | succ k2 =>
         have H := HA.out
         clear HA
         simp only [dataflowlaw10_nearest.l1] at H
         by_cases c18 : x9_2 < (((rd_T32 l0_0 t434).f3).length : Int)
         ·rw [if_pos c18] at H
          have c18b0 : decide (x9_2 < (((rd_T32 l0_0 t434).f3).length : Int)) = true := decide_eq_true c18
          clear c18
          by_cases c19 : 0 ≤ x9_2
          ·rw [if_pos c19] at H
           have c19b0 : decide (0 ≤ x9_2) = true := decide_eq_true c19
           clear c19
           by_cases c20 : ((rd_T37 ((rd_T32 l0_0 t434).f3) x9_2).f0).toList = a2.toList
           ·rw [if_pos c20] at H
            have c20b0 : (((rd_T37 ((rd_T32 l0_0 t434).f3) x9_2).f0).toList == a2.toList) = true := beq_iff_eq.mpr c20
            have c20b1 : (((rd_T37 ((rd_T32 l0_0 t434).f3) x9_2).f0).toList != a2.toList) = false := bne_eq_false_iff_eq.mpr c20
            clear c20
            obtain rfl := Option.some.inj H
            have hnb21 := NB436_432.out
            have hnc21 := NB432_436.out
            have hcz22_0 : wr.cell? ⟨gb436, 0, none⟩ = some (.string ((rd_T32 l0_0 t434).f0)) := (blk_cell BK436.out 0).trans rfl
            have hcz22_1 : wr.cell? ⟨gb436, 1, none⟩ = some (.string ((rd_T32 l0_0 t434).f1)) := (blk_cell BK436.out 1).trans rfl
            have hcz22_2 : wr.cell? ⟨gb436, 2, none⟩ = some (.slice A435_2 ((rd_T32 l0_0 t434).f2).length c435_2) := (blk_cell BK436.out 2).trans rfl
            have hcz22_3 : wr.cell? ⟨gb436, 3, none⟩ = some (.slice A435_3 ((rd_T32 l0_0 t434).f3).length c435_3) := (blk_cell BK436.out 3).trans rfl
            have hfz22_0 := blk_frozen BK436.out 0
            have hfz22_1 := blk_frozen BK436.out 1
            have hfz22_2 := blk_frozen BK436.out 2
            have hfz22_3 := blk_frozen BK436.out 3
            have p437 : 0 ≤ (x9_2 : Int) := of_decide_eq_true (by first | (with_reducible assumption) | assumption)
            have q437 : x9_2 < (((rd_T32 l0_0 t434).f3).length : Int) := of_decide_eq_true (by first | (with_reducible assumption) | assumption)
            obtain ⟨ad437, A437_2, c437_2, e437, hx437_0, hx437_1, hx437_2, hx437_3, hl437_2, hi437_2⟩ := at_T37 HR435_3.out x9_2 p437 q437
            cases e437
            replace hx437_0 := (HB.out.cell (World.block_lt_of_cell? w _ hx437_0)).trans hx437_0
            replace hx437_1 := (HB.out.cell (World.block_lt_of_cell? w _ hx437_1)).trans hx437_1
            replace hx437_2 := (HB.out.cell (World.block_lt_of_cell? w _ hx437_2)).trans hx437_2
            replace hx437_3 := (HB.out.cell (World.block_lt_of_cell? w _ hx437_3)).trans hx437_3
            have HR437_2 := Aside0.mk hi437_2
            have HC437_2 := Aside0.mk hl437_2
            clear hi437_2 hl437_2
            replace p437 := eq_true p437
            replace q437 := eq_true q437
            go_wp2
            go_ret
            exact ⟨by first | rfl | (simp [errW_none, errW_some] <;> rfl) | (simp [*, errW_none, errW_some] <;> rfl), by repeat with_reducible first | exact HB.out | apply below_alloc | apply pw_below_drewN | apply below_drew1 | refine below_set ?_ GE432.out | refine below_set ?_ GE436.out⟩
           ·rw [if_neg c20] at H
            have c20b0 : (((rd_T37 ((rd_T32 l0_0 t434).f3) x9_2).f0).toList == a2.toList) = false := beq_eq_false_iff_ne.mpr c20
            have c20b1 : (((rd_T37 ((rd_T32 l0_0 t434).f3) x9_2).f0).toList != a2.toList) = true := bne_iff_ne.mpr c20
            have H' := Aside0.mk H
            clear H
            have hnb23 := NB436_432.out
            have hnc23 := NB432_436.out
            have hcz24_0 : wr.cell? ⟨gb436, 0, none⟩ = some (.string ((rd_T32 l0_0 t434).f0)) := (blk_cell BK436.out 0).trans rfl
            have hcz24_1 : wr.cell? ⟨gb436, 1, none⟩ = some (.string ((rd_T32 l0_0 t434).f1)) := (blk_cell BK436.out 1).trans rfl
            have hcz24_2 : wr.cell? ⟨gb436, 2, none⟩ = some (.slice A435_2 ((rd_T32 l0_0 t434).f2).length c435_2) := (blk_cell BK436.out 2).trans rfl
            have hcz24_3 : wr.cell? ⟨gb436, 3, none⟩ = some (.slice A435_3 ((rd_T32 l0_0 t434).f3).length c435_3) := (blk_cell BK436.out 3).trans rfl
            have hfz24_0 := blk_frozen BK436.out 0
            have hfz24_1 := blk_frozen BK436.out 1
            have hfz24_2 := blk_frozen BK436.out 2
            have hfz24_3 := blk_frozen BK436.out 3
            have p437 : 0 ≤ (x9_2 : Int) := of_decide_eq_true (by first | (with_reducible assumption) | assumption)
            have q437 : x9_2 < (((rd_T32 l0_0 t434).f3).length : Int) := of_decide_eq_true (by first | (with_reducible assumption) | assumption)
            obtain ⟨ad437, A437_2, c437_2, e437, hx437_0, hx437_1, hx437_2, hx437_3, hl437_2, hi437_2⟩ := at_T37 HR435_3.out x9_2 p437 q437
            cases e437
            replace hx437_0 := (HB.out.cell (World.block_lt_of_cell? w _ hx437_0)).trans hx437_0
            replace hx437_1 := (HB.out.cell (World.block_lt_of_cell? w _ hx437_1)).trans hx437_1
            replace hx437_2 := (HB.out.cell (World.block_lt_of_cell? w _ hx437_2)).trans hx437_2
            replace hx437_3 := (HB.out.cell (World.block_lt_of_cell? w _ hx437_3)).trans hx437_3
            have HR437_2 := Aside0.mk hi437_2
            have HC437_2 := Aside0.mk hl437_2
            clear hi437_2 hl437_2
            replace p437 := eq_true p437
            replace q437 := eq_true q437
            go_wp2
            go_roundg k2
            case measure => have := HK1.out; have := HK2.out; omega
            case rel => exact ⟨(wrap64 (x9_2 + 1)), (by first | rfl | (simp; done) | (simp [*]; done)), H', ⟨by have := HK1.out; have := HK2.out; omega⟩, ⟨by (with_reducible repeat first | apply bn | apply bd | apply ba); exact BK432.out⟩, ⟨by (with_reducible repeat first | apply bn | apply bd | apply ba); exact BK436.out⟩, ⟨by repeat with_reducible first | exact HB.out | apply below_alloc | apply pw_below_drewN | apply below_drew1 | refine below_set ?_ GE432.out | refine below_set ?_ GE436.out⟩⟩
          ·rw [if_neg c19] at H
           exact absurd H (by simp)
         ·rw [if_neg c18] at H
          have c18b0 : decide (x9_2 < (((rd_T32 l0_0 t434).f3).length : Int)) = false := decide_eq_false c18
          clear c18
          have H' := Aside0.mk H
          clear H
          have hnb25 := NB436_432.out
          have hnc25 := NB432_436.out
          have hcz26_0 : wr.cell? ⟨gb436, 0, none⟩ = some (.string ((rd_T32 l0_0 t434).f0)) := (blk_cell BK436.out 0).trans rfl
          have hcz26_1 : wr.cell? ⟨gb436, 1, none⟩ = some (.string ((rd_T32 l0_0 t434).f1)) := (blk_cell BK436.out 1).trans rfl
          have hcz26_2 : wr.cell? ⟨gb436, 2, none⟩ = some (.slice A435_2 ((rd_T32 l0_0 t434).f2).length c435_2) := (blk_cell BK436.out 2).trans rfl
          have hcz26_3 : wr.cell? ⟨gb436, 3, none⟩ = some (.slice A435_3 ((rd_T32 l0_0 t434).f3).length c435_3) := (blk_cell BK436.out 3).trans rfl
          have hfz26_0 := blk_frozen BK436.out 0
          have hfz26_1 := blk_frozen BK436.out 1
          have hfz26_2 := blk_frozen BK436.out 2
          have hfz26_3 := blk_frozen BK436.out 3
          go_wp2
          go_roundg k2
          case measure => have := HK1.out; have := HK2.out; omega
          case rel => exact ⟨(wrap64 (x7_1 + 1)), (by first | rfl | (simp; done) | (simp [*]; done)), H', ⟨by have := HK1.out; have := HK2.out; omega⟩, ⟨by (with_reducible repeat first | apply bn | apply bd | apply ba); exact BK432.out⟩, ⟨by repeat with_reducible first | exact HB.out | apply below_alloc | apply pw_below_drewN | apply below_drew1 | refine below_set ?_ GE432.out | refine below_set ?_ GE436.out⟩⟩
      ·rw [if_neg c9] at H
       exact absurd H (by simp)
     ·rw [if_neg c8] at H
      exact absurd H (by simp)
    ·rw [if_neg c6] at H
     exact absurd H (by simp)
   ·rw [if_neg c5] at H
    have c5b0 : decide (x7_1 < (l1.length : Int)) = false := decide_eq_false c5
    clear c5
    obtain rfl := Option.some.inj H
    go_wp2
    go_ret
    exact ⟨by first | rfl | (simp [errW_none, errW_some] <;> rfl) | (simp [*, errW_none, errW_some] <;> rfl), by repeat with_reducible first | exact HB.out | apply below_alloc | apply pw_below_drewN | apply below_drew1 | refine below_set ?_ GE432.out⟩

end Go.Proofs.YtkbclcecmcdlfaaDoor.PD
