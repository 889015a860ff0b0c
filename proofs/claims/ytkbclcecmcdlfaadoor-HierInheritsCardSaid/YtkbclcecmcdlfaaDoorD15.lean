/- Printed by a program of this session out of the translation: plain functions with the answers of the Go functions, and the proofs that they have them. -/
import Derived.Test.YtkbclcecmcdlfaaDoorD1
namespace Go.Proofs.YtkbclcecmcdlfaaDoor.PD
open Go.RowKit Go.Proofs.YtkbclcecmcdlfaaDoorW.PrintWords Go.Proofs.YtkbclcecmcdlfaaDoorW.PrintLast Go.Proofs.YtkbclcecmcdlfaaDoorW.PrintMore
attribute [local go_sem] max2_int min2_int max_two min_two max_three min_three max_four min_four   -- for this text's walks alone
set_option linter.unusedVariables false
set_option linter.unusedSimpArgs false

/-! ### hier_Field: function 18 -/
mutual
def hier_Field.l0 : Nat → ByteArray → List Int → Int → Int → List (S32) → Option (ByteArray × ByteArray × Bool)
 | 0, _, _, _, _, _ => none
 | k + 1, x2, x23, x24, x25, x521000 => if x25 < x24 then (if 0 ≤ x25 then (if x25 < (x23.length : Int) then (if 0 ≤ (rd x23 x25) then (if (rd x23 x25) < (x521000.length : Int) then (hier_Field.l1 k x2 (rd x23 x25) x23 x24 x25 ((rd_T32 x521000 (rd x23 x25)).f2) (((rd_T32 x521000 (rd x23 x25)).f2).length : Int) 0 x521000) else (none)) else (none)) else (none)) else (none)) else (some ((⟨#[]⟩ : ByteArray), (⟨#[]⟩ : ByteArray), false))
def hier_Field.l1 : Nat → ByteArray → Int → List Int → Int → Int → List (S67) → Int → Int → List (S32) → Option (ByteArray × ByteArray × Bool)
 | 0, _, _, _, _, _, _, _, _, _ => none
 | k + 1, x2, x12, x23, x24, x25, x34, x35, x36, x521000 => if x36 < x35 then (if 0 ≤ x36 then (if x36 < (x34.length : Int) then (if ((rd_T67 x34 x36).f0).toList = x2.toList then (if 0 ≤ x12 then (if x12 < (x521000.length : Int) then (some ((rd_T32 x521000 x12).f0, (rd_T67 x34 x36).f1, true)) else (none)) else (none)) else (hier_Field.l1 k x2 x12 x23 x24 x25 x34 x35 (wrap64 (x36 + 1)) x521000)) else (none)) else (none)) else (hier_Field.l0 k x2 x23 x24 (wrap64 (x25 + 1)) x521000)
end
def hier_Field.f (k : Nat) (l0_0 : List (S32)) (a1 : ByteArray) (a2 : ByteArray) : Option (ByteArray × ByteArray × Bool) := (hier_index.f k l0_0).bind fun t521 => ((hier_chain.f k l0_0 t521 a1).bind fun bt522 => (hier_Field.l0 k a2 bt522.1 (bt522.1.length : Int) 0 l0_0))
theorem hier_Field.mono_l : ∀ k, (∀ y0 y1 y2 y3 y4, LeO (hier_Field.l0 k y0 y1 y2 y3 y4) (hier_Field.l0 (k + 1) y0 y1 y2 y3 y4)) ∧ (∀ y0 y1 y2 y3 y4 y5 y6 y7 y8, LeO (hier_Field.l1 k y0 y1 y2 y3 y4 y5 y6 y7 y8) (hier_Field.l1 (k + 1) y0 y1 y2 y3 y4 y5 y6 y7 y8))
 | 0 => ⟨fun _ _ _ _ _ r h => by simp [hier_Field.l0] at h, fun _ _ _ _ _ _ _ _ _ r h => by simp [hier_Field.l1] at h⟩
 | k + 1 => by
  obtain ⟨ih0, ih1⟩ := hier_Field.mono_l k
  refine ⟨?_, ?_⟩
  ·intro y0 y1 y2 y3 y4
   unfold hier_Field.l0
   repeat' first
   | (with_reducible exact ih0 _ _ _ _ _)
   | (with_reducible exact ih1 _ _ _ _ _ _ _ _ _)
   | (with_reducible exact hier_chain.mono _ _ _ _)
   | (with_reducible exact hier_index.mono _ _)
   | (with_reducible exact LeO.refl _)
   | (with_reducible exact LeO.none _)
   | (with_reducible refine LeO.ite ?_ ?_)
   | (with_reducible refine LeO.bind ?_ (fun _ => ?_))
   | exact ih0 _ _ _ _ _
   | exact ih1 _ _ _ _ _ _ _ _ _
   | exact hier_chain.mono _ _ _ _
   | exact hier_index.mono _ _
   | exact LeO.none _
   | refine LeO.ite ?_ ?_
   | refine LeO.bind ?_ (fun _ => ?_)
  ·intro y0 y1 y2 y3 y4 y5 y6 y7 y8
   unfold hier_Field.l1
   repeat' first
   | (with_reducible exact ih0 _ _ _ _ _)
   | (with_reducible exact ih1 _ _ _ _ _ _ _ _ _)
   | (with_reducible exact hier_chain.mono _ _ _ _)
   | (with_reducible exact hier_index.mono _ _)
   | (with_reducible exact LeO.refl _)
   | (with_reducible exact LeO.none _)
   | (with_reducible refine LeO.ite ?_ ?_)
   | (with_reducible refine LeO.bind ?_ (fun _ => ?_))
   | exact ih0 _ _ _ _ _
   | exact ih1 _ _ _ _ _ _ _ _ _
   | exact hier_chain.mono _ _ _ _
   | exact hier_index.mono _ _
   | exact LeO.none _
   | refine LeO.ite ?_ ?_
   | refine LeO.bind ?_ (fun _ => ?_)
theorem hier_Field.mono : ∀ a0 a1 a2 k, LeO (hier_Field.f k a0 a1 a2) (hier_Field.f (k + 1) a0 a1 a2) := by
 intro a0 a1 a2 k
 obtain ⟨ih0, ih1⟩ := hier_Field.mono_l k
 unfold hier_Field.f
 repeat' first
   | (with_reducible exact ih0 _ _ _ _ _)
   | (with_reducible exact ih1 _ _ _ _ _ _ _ _ _)
   | (with_reducible exact hier_chain.mono _ _ _ _)
   | (with_reducible exact hier_index.mono _ _)
   | (with_reducible exact LeO.refl _)
   | (with_reducible exact LeO.none _)
   | (with_reducible refine LeO.ite ?_ ?_)
   | (with_reducible refine LeO.bind ?_ (fun _ => ?_))
   | exact ih0 _ _ _ _ _
   | exact ih1 _ _ _ _ _ _ _ _ _
   | exact hier_chain.mono _ _ _ _
   | exact hier_index.mono _ _
   | exact LeO.none _
   | refine LeO.ite ?_ ?_
   | refine LeO.bind ?_ (fun _ => ?_)
def hier_Field.T1 : Bool × List (List Nat × List Nat) := (true, [([], []), ([], []), ([1], [1]), ([], []), ([0, 2, 3, 2], [0, 2, 3]), ([4], [4]), ([5], [5]), ([5], [5]), ([6, 4, 0, 1, 2, 3, 4, 5, 6], [6]), ([7, 8, 0, 1, 2, 3, 4, 5, 6, 7, 8], [7])])
def hier_Field.B1 : List Nat := [0, 0, 2, 0, 15, 31, 63, 63, 127, 511]
theorem hier_Field.tab1 : rtab .any (opsOf Tryd.f18 1) = hier_Field.T1 := by kernel_rfl
theorem hier_Field.bits1 : waitsOk hier_Field.T1.2 hier_Field.B1 = true := by kernel_rfl
def hier_Field.T9 : Bool × List (List Nat × List Nat) := (true, [([], []), ([0], [0]), ([], []), ([1, 2], [1, 2]), ([3], [3]), ([4], [4]), ([], []), ([6], [6]), ([5, 0, 1, 2, 3, 4, 5], [5]), ([7, 8, 0, 1, 2, 3, 4, 5, 6, 7, 8], [7]), ([9, 0, 1, 2, 3, 4, 5, 6, 7, 8, 9], [])])
def hier_Field.B9 : List Nat := [0, 1, 0, 7, 15, 31, 0, 64, 63, 511, 1023]
theorem hier_Field.tab9 : rtab .any (opsOf Tryd.f18 9) = hier_Field.T9 := by kernel_rfl
theorem hier_Field.bits9 : waitsOk hier_Field.T9.2 hier_Field.B9 = true := by kernel_rfl
set_option maxHeartbeats 8000000 in
set_option maxRecDepth 100000 in
theorem hier_Field.calls (k : Nat) (A0_0 : Option Addr) (c0_0 : Nat) (l0_0 : List (S32)) (a1 : ByteArray) (a2 : ByteArray) (r1 : ByteArray) (r2 : ByteArray) (r3 : Bool) (w : World) (hr0_0 : Kd.C k32 w A0_0 l0_0.length l0_0) (hc0_0 : l0_0.length ≤ c0_0) (h : hier_Field.f k l0_0 a1 a2 = some (r1, r2, r3)) :
  Calls Tryd.prog 18 #[.agg #[.slice A0_0 l0_0.length c0_0], .string a1, .string a2] w fun e w' => e = .returned (.tuple #[.string r1, .string r2, .bool r3]) ∧ Below w.heap.size w w' := by
 have hu24 := Tryd.underlying24
 have hu67 := Tryd.underlying67
 have HR0_0 := Aside0.mk hr0_0
 have HC0_0 := Aside0.mk hc0_0
 clear hr0_0 hc0_0
 have HB := Aside0.mk (Below.refl w.heap.size w)
 have H : ((hier_index.f k l0_0).bind fun t521 => ((hier_chain.f k l0_0 t521 a1).bind fun bt522 => (hier_Field.l0 k a2 bt522.1 (bt522.1.length : Int) 0 l0_0))) = some (r1, r2, r3) := h
 clear h
 replace H := Option.bind_eq_some_iff.mp H
 obtain ⟨t521, A40, H⟩ := H
 replace H : ((hier_chain.f k l0_0 t521 a1).bind fun bt522 => (hier_Field.l0 k a2 bt522.1 (bt522.1.length : Int) 0 l0_0)) = some (r1, r2, r3) := H
 have A4 := Aside0.mk A40
 clear A40
 replace H := Option.bind_eq_some_iff.mp H
 obtain ⟨⟨t522, t525⟩, A50, H⟩ := H
 replace H : (hier_Field.l0 k a2 t522 (t522.length : Int) 0 l0_0) = some (r1, r2, r3) := H
 have A5 := Aside0.mk A50
 clear A50
 have H' := Aside0.mk H
 clear H
 go_enter Tryd.func18, Tryd.ntmps18
 try go_wp2_with (first | ((with_reducible refine gate_dst (N := 3) rfl ?_); refine box_event ?hg (N := 3) ?hd (cs := #[.slice A0_0 l0_0.length c0_0]) (t := 24) ?hr ?_; (case hd => rfl); (case hg => rfl); (case hr => first | (go_simp; done) | (go_simp; rfl)); intro gb520 hg w6 hbox hb; have n0_ := Aside0.mk (below_step (by repeat with_reducible first | exact HB.out | apply below_alloc | apply pw_below_drewN | apply below_drew1) hb); have n1_ := Aside0.mk (hbox); have n2_ := Aside0.mk ((by rw [hg]; exact (below_size (by repeat with_reducible first | exact HB.out | apply below_alloc | apply pw_below_drewN | apply below_drew1)) : w.heap.size ≤ gb520)); have n3_ := Aside0.mk ((by rw [hg]; exact (below_size (by repeat with_reducible first | exact HB.out | apply below_alloc | apply pw_below_drewN | apply below_drew1)) : w.heap.size ≤ gb520)); clear HB; have HB := n0_; have BK520 := n1_; have GW520 := n2_; have GE520 := n3_; clear n0_ n1_ n2_ n3_; clear hb hbox hg))
 have n0_ := Aside0.mk (blk_drew BK520.out)
 have n1_ := Aside0.mk (below_drew1 HB.out)
 clear BK520
 clear HB
 have BK520 := n0_
 have HB := n1_
 clear n0_ n1_
 refine start_ (n := 10) (S := fun w' => w'.cell? ⟨gb520, 0, none⟩ = some (.slice A0_0 l0_0.length c0_0)) (ds := []) #[false, false, false, false, false, false, false, false, false, false] (by kernel_rfl) rfl rfl ((blk_cell BK520.out 0).trans rfl) (fun hHeld => ?_); refine with_tabW hier_Field.tab1 hier_Field.bits1 (fun HT_ HW_ => ?_)
 generalize w6.drew = w7 at BK520 HB hHeld ⊢
 refine pure_ (i := 3) (N := some 19) (v := ?_) (a' := ?_) #[false, false, false, true, false, false, false, false, false, false] rfl rfl (any_of HT_.out (by kernel_rfl)) (fun _ _ _ h => h) (Or.inl ⟨by rfl, ?_⟩) ?_ ?_
 rotate_left
 ·intro w'
  go_simp
  with_reducible rfl
 rotate_left
 ·simp only [Act.put, List.setIfInBounds_toArray, List.set_cons_zero, List.set_cons_succ, i64_w]
  rfl
 refine take_ (i := 0) (N := some 16) (v := ?_) (a' := ?_) #[true, false, false, true, false, false, false, false, false, false] rfl rfl (take_ofW HT_.out HW_.out (by kernel_rfl)) (fun _ _ _ h => h) (Or.inl ⟨by rfl, ?_⟩) hHeld ?_ ?_
 rotate_left
 ·intro w' s0
  go_simp
  with_reducible rfl
 rotate_left
 ·simp only [Act.put, List.setIfInBounds_toArray, List.set_cons_zero, List.set_cons_succ, i64_w]
  rfl
 refine take_ (i := 1) (N := some 17) (v := ?_) (a' := ?_) #[true, true, false, true, false, false, false, false, false, false] rfl rfl (take_ofW HT_.out HW_.out (by kernel_rfl)) (fun _ _ _ h => h) (Or.inl ⟨by rfl, ?_⟩) hHeld ?_ ?_
 rotate_left
 ·intro w' s0
  go_simp
  with_reducible rfl
 rotate_left
 ·simp only [Act.put, List.setIfInBounds_toArray, List.set_cons_zero, List.set_cons_succ, i64_w]
  rfl
 refine one_ (i := 2) (N := some 18) #[true, true, true, true, false, false, false, false, false, false] rfl rfl (one_of HT_.out (by kernel_rfl)) (by decide) (fun K hK => ?_)
 refine goes_ Tryd.func20 (by kernel_rfl) rfl #[.agg #[.slice A0_0 l0_0.length c0_0]] (by rfl) rfl rfl (by (try simp only [List.map_toArray, List.map_cons, List.map_nil]); first | done | rfl) ?_
 with_reducible refine (hier_index.calls k _ _ l0_0 t521 _ ?side1 ?side2 A4.out).mono ?_
 (case side1 => repeat (first | exact (Kd.C_below HR0_0.out HB.out) | (with_reducible refine Kd.C_alloc ?_ _) | (with_reducible refine Kd.C_drewN ?_ _) | (with_reducible refine Kd.C_drew ?_)))
 (case side2 => exact HC0_0.out)
 rintro e w8 ⟨bm, rfl, hM_, hb⟩
 refine ⟨_, rfl, ?_⟩
 have HMP := Aside0.mk hM_
 clear hM_
 have n0_ := Aside0.mk (blk_below (g := gb520) (o := .cells #[.slice A0_0 l0_0.length c0_0] 24 (0, 0)) (by (with_reducible repeat first | apply bn | apply bd | apply ba); exact BK520.out) hb)
 have n1_ := Aside0.mk (below_step (by repeat with_reducible first | exact HB.out | apply below_alloc | apply pw_below_drewN | apply below_drew1 | refine below_set ?_ GE520.out) hb)
 clear BK520
 clear HB
 have BK520 := n0_
 have HB := n1_
 clear n0_ n1_
 (try clear hb)
 (try clear hb2)
 (try clear hk)
 (try clear hi)
 refine hK.out _ _ ((blk_cell BK520.out 0).trans rfl) (fun hHeld => ?_)
 clear hK K
 refine norm_ (a' := ?_) ?_ ?_
 rotate_left
 ·show Act.put _ (some 18) _ = _
  simp only [Act.put, List.setIfInBounds_toArray, List.set_cons_zero, List.set_cons_succ, i64_w]
  rfl
 refine one_ (i := 4) (N := some 20) #[true, true, true, true, true, false, false, false, false, false] rfl rfl (one_of HT_.out (by kernel_rfl)) (by decide) (fun K hK => ?_)
 refine goes_ Tryd.func23 (by kernel_rfl) rfl #[.agg #[.slice A0_0 l0_0.length c0_0], .map (some bm), .string a1] (by rfl) rfl rfl (by (try simp only [List.map_toArray, List.map_cons, List.map_nil]); first | done | rfl) ?_
 with_reducible refine (hier_chain.calls k _ _ l0_0 t521 a1 t522 t525 _ ?side1 ?side2 ?sideM A5.out).mono ?_
 (case sideM => exact (by repeat (first | (with_reducible first | exact HMP.out | apply MapSI.Is.set | apply MapSI.Is.alloc | apply MapSI.Is.drewN | apply MapSI.Is.drew) | exact HMP.out)))
 (case side1 => repeat (first | exact (Kd.C_below HR0_0.out HB.out) | (with_reducible refine Kd.C_alloc ?_ _) | (with_reducible refine Kd.C_drewN ?_ _) | (with_reducible refine Kd.C_drew ?_)))
 (case side2 => exact HC0_0.out)
 rintro e w9 ⟨v523, rfl, ho0, hb⟩
 refine ⟨_, rfl, ?_⟩
 have n0_ := Aside0.mk (Kd.R_lower ho0 (below_size (by repeat with_reducible first | exact HB.out | apply below_alloc | apply pw_below_drewN | apply below_drew1 | refine below_set ?_ GE520.out)))
 have n1_ := Aside0.mk (blk_below (g := gb520) (o := .cells #[.slice A0_0 l0_0.length c0_0] 24 (0, 0)) (by (with_reducible repeat first | apply bn | apply bd | apply ba); exact BK520.out) hb)
 have n2_ := Aside0.mk (below_step (by repeat with_reducible first | exact HB.out | apply below_alloc | apply pw_below_drewN | apply below_drew1 | refine below_set ?_ GE520.out) hb)
 clear BK520
 clear HB
 have HO524 := n0_
 have BK520 := n1_
 have HB := n2_
 clear n0_ n1_ n2_
 (try clear hb)
 (try clear hb2)
 (try clear hk)
 (try clear hi)
 (try clear ho0)
 refine hK.out _ _ ((blk_cell BK520.out 0).trans rfl) (fun hHeld => ?_)
 clear hK K
 refine norm_ (a' := ?_) ?_ ?_
 rotate_left
 ·show Act.put _ (some 20) _ = _
  simp only [Act.put, List.setIfInBounds_toArray, List.set_cons_zero, List.set_cons_succ, i64_w]
  rfl
 refine pure_ (i := 5) (N := some 15) (v := ?_) (a' := ?_) #[true, true, true, true, true, true, false, false, false, false] rfl rfl (any_of HT_.out (by kernel_rfl)) (fun _ _ _ h => h) (Or.inl ⟨by rfl, ?_⟩) ?_ ?_
 rotate_left
 ·intro w'
  go_simp
  with_reducible rfl
 rotate_left
 ·simp only [Act.put, List.setIfInBounds_toArray, List.set_cons_zero, List.set_cons_succ, i64_w]
  rfl
 refine pure_ (i := 6) (N := some 21) (v := ?_) (a' := ?_) #[true, true, true, true, true, true, true, false, false, false] rfl rfl (any_of HT_.out (by kernel_rfl)) (fun _ _ _ h => h) (Or.inl ⟨by rfl, ?_⟩) ?_ ?_
 rotate_left
 ·intro w'
  go_simp
  with_reducible rfl
 rotate_left
 ·simp only [Act.put, List.setIfInBounds_toArray, List.set_cons_zero, List.set_cons_succ, i64_w]
  rfl
 refine pure_ (i := 7) (N := some 22) (v := ?_) (a' := ?_) #[true, true, true, true, true, true, true, true, false, false] rfl rfl (any_of HT_.out (by kernel_rfl)) (fun _ _ _ h => h) (Or.inl ⟨by rfl, ?_⟩) ?_ ?_
 rotate_left
 ·intro w'
  go_simp
  with_reducible rfl
 rotate_left
 ·simp only [Act.put, List.setIfInBounds_toArray, List.set_cons_zero, List.set_cons_succ, i64_w]
  rfl
 refine pure_ (i := 8) (N := some 9) (v := ?_) (a' := ?_) #[true, true, true, true, true, true, true, true, true, false] rfl rfl (any_of HT_.out (by kernel_rfl)) (fun _ _ _ h => h) (Or.inl ⟨by rfl, ?_⟩) ?_ ?_
 rotate_left
 ·intro w'
  go_simp
  with_reducible rfl
 rotate_left
 ·simp only [Act.put, List.setIfInBounds_toArray, List.set_cons_zero, List.set_cons_succ, i64_w]
  rfl
 refine pure_ (i := 9) (N := some 10) (v := ?_) (a' := ?_) #[true, true, true, true, true, true, true, true, true, true] rfl rfl (any_of HT_.out (by kernel_rfl)) (fun _ _ _ h => h) (Or.inl ⟨by rfl, ?_⟩) ?_ ?_
 rotate_left
 ·intro w'
  go_simp
  with_reducible rfl
 rotate_left
 ·simp only [Act.put, List.setIfInBounds_toArray, List.set_cons_zero, List.set_cons_succ, i64_w]
  rfl
 refine done_ (done_of HT_.out (by kernel_rfl)) ?_
 obtain ⟨Ao10, co10, eo10⟩ := Kd.R_slice HO524.out
 subst eo10
 try go_wp2
 go_loopg [25] k (fun kq v25 w' => ∃ (x25_1 : Int), v25 = .int .i64 x25_1 ∧ Aside0 (hier_Field.l0 kq a2 t522 (t522.length : Int) x25_1 l0_0 = some (r1, r2, r3)) ∧ Aside0 (kq ≤ k) ∧ Aside0 (Kd.R (Kd.int .i64) 3 w' w.heap.size (fun _ => True) (.slice Ao10 t522.length co10) t522) ∧ Aside0 (w'.heap[gb520]? = some (.cells #[(.slice A0_0 l0_0.length c0_0)] 24 (0, 0))) ∧ Aside0 (Below w.heap.size w w'))
 case atStart => exact ⟨(0), (by first | rfl | (simp; done) | (simp [*]; done)), H', ⟨Nat.le_refl _⟩, ⟨by (with_reducible repeat first | apply Kd.R_alloc | apply Kd.R_drewN | apply Kd.R_drew); exact HO524.out⟩, ⟨by (with_reducible repeat first | apply bn | apply bd | apply ba); exact BK520.out⟩, ⟨by repeat with_reducible first | exact HB.out | apply below_alloc | apply pw_below_drewN | apply below_drew1 | refine below_set ?_ GE520.out⟩⟩
 case round =>
  clear H'
  try clear c1
  try clear c2
  try clear p2
  obtain ⟨x25_1, rfl, HA, HK1, HO_23, BK520, HB⟩ := hrel
  cases gk with
  | zero => exact absurd HA.out (by simp [hier_Field.l0])
  | succ k1 =>
   have H := HA.out
   clear HA
   simp only [hier_Field.l0] at H
   by_cases c11 : x25_1 < (t522.length : Int)
   ·rw [if_pos c11] at H
    have c11b0 : decide (x25_1 < (t522.length : Int)) = true := decide_eq_true c11
    clear c11
    by_cases c12 : 0 ≤ x25_1
    ·rw [if_pos c12] at H
     have c12b0 : decide (0 ≤ x25_1) = true := decide_eq_true c12
     clear c12
     by_cases c13 : x25_1 < (t522.length : Int)
     ·rw [if_pos c13] at H
      have c13b0 : decide (x25_1 < (t522.length : Int)) = true := decide_eq_true c13
      clear c13
      by_cases c14 : 0 ≤ (rd t522 x25_1)
      ·rw [if_pos c14] at H
       have c14b0 : decide (0 ≤ (rd t522 x25_1)) = true := decide_eq_true c14
       clear c14
       by_cases c15 : (rd t522 x25_1) < (l0_0.length : Int)
       ·rw [if_pos c15] at H
        have c15b0 : decide ((rd t522 x25_1) < (l0_0.length : Int)) = true := decide_eq_true c15
        clear c15
        have H' := Aside0.mk H
        clear H
        have p526 : 0 ≤ (x25_1 : Int) := of_decide_eq_true (by first | (with_reducible assumption) | assumption)
        have q526 : x25_1 < (t522.length : Int) := of_decide_eq_true (by first | (with_reducible assumption) | assumption)
        obtain ⟨ad526, e526, hx526_0⟩ := Kd.at_int (Kd.R_reads' HO_23.out).2.2 x25_1 p526 q526
        cases e526
        replace p526 := eq_true p526
        replace q526 := eq_true q526
        have hcz16_0 : wr.cell? ⟨gb520, 0, none⟩ = some (.slice A0_0 l0_0.length c0_0) := (blk_cell BK520.out 0).trans rfl
        have hfz16_0 := blk_frozen BK520.out 0
        have p527 : 0 ≤ ((rd t522 x25_1) : Int) := of_decide_eq_true (by first | (with_reducible assumption) | assumption)
        have q527 : (rd t522 x25_1) < (l0_0.length : Int) := of_decide_eq_true (by first | (with_reducible assumption) | assumption)
        obtain ⟨ad527, A527_2, c527_2, A527_3, c527_3, e527, hx527_0, hx527_1, hx527_2, hx527_3, hl527_2, hi527_2, hl527_3, hi527_3⟩ := at_T32 HR0_0.out (rd t522 x25_1) p527 q527
        cases e527
        replace hx527_0 := (HB.out.cell (World.block_lt_of_cell? w _ hx527_0)).trans hx527_0
        replace hx527_1 := (HB.out.cell (World.block_lt_of_cell? w _ hx527_1)).trans hx527_1
        replace hx527_2 := (HB.out.cell (World.block_lt_of_cell? w _ hx527_2)).trans hx527_2
        replace hx527_3 := (HB.out.cell (World.block_lt_of_cell? w _ hx527_3)).trans hx527_3
        have HR527_2 := Aside0.mk hi527_2
        have HC527_2 := Aside0.mk hl527_2
        clear hi527_2 hl527_2
        have HR527_3 := Aside0.mk hi527_3
        have HC527_3 := Aside0.mk hl527_3
        clear hi527_3 hl527_3
        replace p527 := eq_true p527
        replace q527 := eq_true q527
        go_wp2
        go_loopg [36] k1 (fun kq v36 w' => ∃ (x36_2 : Int), v36 = .int .i64 x36_2 ∧ Aside0 (hier_Field.l1 kq a2 (rd t522 x25_1) t522 (t522.length : Int) x25_1 ((rd_T32 l0_0 (rd t522 x25_1)).f2) (((rd_T32 l0_0 (rd t522 x25_1)).f2).length : Int) x36_2 l0_0 = some (r1, r2, r3)) ∧ Aside0 (kq ≤ k1) ∧ Aside0 (Kd.R (Kd.int .i64) 3 w' w.heap.size (fun _ => True) (.slice (some ad526) t522.length co10) t522) ∧ Aside0 (w'.heap[gb520]? = some (.cells #[(.slice (some ad527) l0_0.length c0_0)] 24 (0, 0))) ∧ Aside0 (Below w.heap.size w w'))
        case atStart => exact ⟨(0), (by first | rfl | (simp; done) | (simp [*]; done)), H', ⟨Nat.le_refl _⟩, ⟨by (with_reducible repeat first | apply Kd.R_alloc | apply Kd.R_drewN | apply Kd.R_drew); exact HO_23.out⟩, ⟨by (with_reducible repeat first | apply bn | apply bd | apply ba); exact BK520.out⟩, ⟨by repeat with_reducible first | exact HB.out | apply below_alloc | apply pw_below_drewN | apply below_drew1 | refine below_set ?_ GE520.out⟩⟩
        case round =>
         clear H'
         try clear c1
         try clear c2
         try clear p2
         try clear c5
         try clear p5
         try clear q5
         try clear hx5
         try clear c11
         try clear c11b0
         try clear c12
         try clear c12b0
         try clear c13
         try clear c13b0
         try clear c14
         try clear c14b0
         try clear c15
         try clear c15b0
         try clear hcz16_0
         try clear hfz16_0
         try clear hx526_0
         try clear hx527_0
         try clear hx527_1
         try clear hx527_2
         try clear hx527_3
         try clear p2
         try clear p526
         try clear p527
         try clear q526
         try clear q527
         obtain ⟨x36_2, rfl, HA, HK2, HO_23, BK520, HB⟩ := hrel
         cases gk with
         | zero => exact absurd HA.out (by simp [hier_Field.l1])
         | succ k2 =>
          have H := HA.out
          clear HA
          simp only [hier_Field.l1] at H
          by_cases c17 : x36_2 < (((rd_T32 l0_0 (rd t522 x25_1)).f2).length : Int)
          ·rw [if_pos c17] at H
           have c17b0 : decide (x36_2 < (((rd_T32 l0_0 (rd t522 x25_1)).f2).length : Int)) = true := decide_eq_true c17
           clear c17
           by_cases c18 : 0 ≤ x36_2
           ·rw [if_pos c18] at H
            have c18b0 : decide (0 ≤ x36_2) = true := decide_eq_true c18
            clear c18
            by_cases c19 : x36_2 < (((rd_T32 l0_0 (rd t522 x25_1)).f2).length : Int)
            ·rw [if_pos c19] at H
             have c19b0 : decide (x36_2 < (((rd_T32 l0_0 (rd t522 x25_1)).f2).length : Int)) = true := decide_eq_true c19
             clear c19
             by_cases c20 : ((rd_T67 ((rd_T32 l0_0 (rd t522 x25_1)).f2) x36_2).f0).toList = a2.toList
             ·rw [if_pos c20] at H
              have c20b0 : (((rd_T67 ((rd_T32 l0_0 (rd t522 x25_1)).f2) x36_2).f0).toList == a2.toList) = true := beq_iff_eq.mpr c20
              have c20b1 : (((rd_T67 ((rd_T32 l0_0 (rd t522 x25_1)).f2) x36_2).f0).toList != a2.toList) = false := bne_eq_false_iff_eq.mpr c20
              clear c20
              by_cases c21 : 0 ≤ (rd t522 x25_1)
              ·rw [if_pos c21] at H
               have c21b0 : decide (0 ≤ (rd t522 x25_1)) = true := decide_eq_true c21
               clear c21
               by_cases c22 : (rd t522 x25_1) < (l0_0.length : Int)
               ·rw [if_pos c22] at H
                have c22b0 : decide ((rd t522 x25_1) < (l0_0.length : Int)) = true := decide_eq_true c22
                clear c22
                simp only [Option.some.injEq, Prod.mk.injEq] at H
                obtain ⟨rfl, rfl, rfl⟩ := H
                have p528 : 0 ≤ (x36_2 : Int) := of_decide_eq_true (by first | (with_reducible assumption) | assumption)
                have q528 : x36_2 < (((rd_T32 l0_0 (rd t522 x25_1)).f2).length : Int) := of_decide_eq_true (by first | (with_reducible assumption) | assumption)
                obtain ⟨ad528, e528, hx528_0, hx528_1⟩ := at_T67 HR527_2.out x36_2 p528 q528
                cases e528
                replace hx528_0 := (HB.out.cell (World.block_lt_of_cell? w _ hx528_0)).trans hx528_0
                replace hx528_1 := (HB.out.cell (World.block_lt_of_cell? w _ hx528_1)).trans hx528_1
                replace p528 := eq_true p528
                replace q528 := eq_true q528
                try go_wp2_with (first | ((with_reducible refine gate_dst (N := 14) rfl ?_); refine box_event ?hg (N := 14) ?hd (cs := #[.string (⟨#[]⟩ : ByteArray), .string (⟨#[]⟩ : ByteArray)]) (t := 67) ?hr ?_; (case hd => rfl); (case hg => rfl); (case hr => first | (go_simp; done) | (go_simp; rfl)); intro gb529 hg w23 hbox hb; have n0_ := Aside0.mk (Kd.R_below (by (with_reducible repeat first | apply Kd.R_alloc | apply Kd.R_drewN | apply Kd.R_drew); exact HO_23.out) hb); have n1_ := Aside0.mk (blk_below (g := gb520) (o := .cells #[.slice (some ad527) l0_0.length c0_0] 24 (0, 0)) (by (with_reducible repeat first | apply bn | apply bd | apply ba); exact BK520.out) hb); have n2_ := Aside0.mk (below_step (by repeat with_reducible first | exact HB.out | apply below_alloc | apply pw_below_drewN | apply below_drew1 | refine below_set ?_ GE520.out) hb); have n3_ := Aside0.mk (hbox); have n4_ := Aside0.mk ((by rw [hg]; exact (below_size (by repeat with_reducible first | exact HB.out | apply below_alloc | apply pw_below_drewN | apply below_drew1 | refine below_set ?_ GE520.out)) : w.heap.size ≤ gb529)); have n5_ := Aside0.mk ((by rw [hg]; exact (below_size (by repeat with_reducible first | exact HB.out | apply below_alloc | apply pw_below_drewN | apply below_drew1 | refine below_set ?_ GE520.out)) : w.heap.size ≤ gb529)); have n6_ := Aside0.mk ((by rw [hg]; exact Nat.ne_of_lt (blk_lt (g := gb520) (o := .cells #[.slice (some ad527) l0_0.length c0_0] 24 (0, 0)) (by (with_reducible repeat first | apply bn | apply bd | apply ba); exact BK520.out)) : gb520 ≠ gb529)); have n7_ := Aside0.mk ((by rw [hg]; exact Nat.ne_of_gt (blk_lt (g := gb520) (o := .cells #[.slice (some ad527) l0_0.length c0_0] 24 (0, 0)) (by (with_reducible repeat first | apply bn | apply bd | apply ba); exact BK520.out)) : gb529 ≠ gb520)); clear HO_23; clear BK520; clear HB; have HO_23 := n0_; have BK520 := n1_; have HB := n2_; have BK529 := n3_; have GW529 := n4_; have GE529 := n5_; have NB520_529 := n6_; have NB529_520 := n7_; clear n0_ n1_ n2_ n3_ n4_ n5_ n6_ n7_; clear hb hbox hg; have hnb24 := NB529_520.out; have hnc24 := NB520_529.out; have hcz25_0 : w23.cell? ⟨gb529, 0, none⟩ = some (.string (⟨#[]⟩ : ByteArray)) := (blk_cell BK529.out 0).trans rfl; have hcz25_1 : w23.cell? ⟨gb529, 1, none⟩ = some (.string (⟨#[]⟩ : ByteArray)) := (blk_cell BK529.out 1).trans rfl; have hfz25_0 := blk_frozen BK529.out 0; have hfz25_1 := blk_frozen BK529.out 1))
                have n0_ : Aside0 (Kd.R (Kd.int .i64) 3 ((w23.setCell ⟨gb529, 0, none⟩ (.string ((rd_T67 ((rd_T32 l0_0 (rd t522 x25_1)).f2) x36_2).f0))).setCell ⟨gb529, 1, none⟩ (.string ((rd_T67 ((rd_T32 l0_0 (rd t522 x25_1)).f2) x36_2).f1))) w.heap.size (fun _ => True) (.slice (some ad526) t522.length co10) t522) := ⟨by (with_reducible repeat first | apply Kd.R_alloc | apply Kd.R_drewN | apply Kd.R_drew); exact Kd.R_mono (Kd.R_far (p := ⟨gb529, 1, none⟩) (Kd.R_far (p := ⟨gb529, 0, none⟩) (Kd.R_types HO_23.out BK529.out (by decide)) (fun _ hk => hk.2) (.string ((rd_T67 ((rd_T32 l0_0 (rd t522 x25_1)).f2) x36_2).f0))) (fun _ hk => hk.2) (.string ((rd_T67 ((rd_T32 l0_0 (rd t522 x25_1)).f2) x36_2).f1))) (fun _ hk => trivial)⟩
                have n1_ : Aside0 (((w23.setCell ⟨gb529, 0, none⟩ (.string ((rd_T67 ((rd_T32 l0_0 (rd t522 x25_1)).f2) x36_2).f0))).setCell ⟨gb529, 1, none⟩ (.string ((rd_T67 ((rd_T32 l0_0 (rd t522 x25_1)).f2) x36_2).f1))).heap[gb520]? = some (.cells #[.slice (some ad527) l0_0.length c0_0] 24 (0, 0))) := ⟨by (with_reducible repeat first | apply bn | apply bd | apply ba); refine blk_far ?_ NB520_529.out _; refine blk_far ?_ NB520_529.out _; (with_reducible repeat first | apply bn | apply bd | apply ba); exact BK520.out⟩
                have n2_ : Aside0 (((w23.setCell ⟨gb529, 0, none⟩ (.string ((rd_T67 ((rd_T32 l0_0 (rd t522 x25_1)).f2) x36_2).f0))).setCell ⟨gb529, 1, none⟩ (.string ((rd_T67 ((rd_T32 l0_0 (rd t522 x25_1)).f2) x36_2).f1))).heap[gb529]? = some (.cells #[.string ((rd_T67 ((rd_T32 l0_0 (rd t522 x25_1)).f2) x36_2).f0), .string ((rd_T67 ((rd_T32 l0_0 (rd t522 x25_1)).f2) x36_2).f1)] 67 (0, 0))) := ⟨by (with_reducible repeat first | apply bn | apply bd | apply ba); refine blk_put (cs := #[.string ((rd_T67 ((rd_T32 l0_0 (rd t522 x25_1)).f2) x36_2).f0), .string (⟨#[]⟩ : ByteArray)]) ?_ 1 _ rfl; refine blk_put (cs := #[.string (⟨#[]⟩ : ByteArray), .string (⟨#[]⟩ : ByteArray)]) ?_ 0 _ rfl; (with_reducible repeat first | apply bn | apply bd | apply ba); exact BK529.out⟩
                have n3_ : Aside0 (Below w.heap.size w ((w23.setCell ⟨gb529, 0, none⟩ (.string ((rd_T67 ((rd_T32 l0_0 (rd t522 x25_1)).f2) x36_2).f0))).setCell ⟨gb529, 1, none⟩ (.string ((rd_T67 ((rd_T32 l0_0 (rd t522 x25_1)).f2) x36_2).f1)))) := ⟨by repeat with_reducible first | exact HB.out | apply below_alloc | apply pw_below_drewN | apply below_drew1 | refine below_set ?_ GE520.out | refine below_set ?_ GE529.out⟩
                (try clear HO_23)
                (try clear BK520)
                (try clear BK529)
                (try clear HB)
                generalize ((w23.setCell ⟨gb529, 0, none⟩ (.string ((rd_T67 ((rd_T32 l0_0 (rd t522 x25_1)).f2) x36_2).f0))).setCell ⟨gb529, 1, none⟩ (.string ((rd_T67 ((rd_T32 l0_0 (rd t522 x25_1)).f2) x36_2).f1))) = w26 at n0_ n1_ n2_ n3_ ⊢
                have HO_23 := n0_
                have BK520 := n1_
                have BK529 := n2_
                have HB := n3_
                clear n0_ n1_ n2_ n3_
                have n0_ := Aside0.mk (Kd.R_drew HO_23.out)
                have n1_ := Aside0.mk (blk_drew BK520.out)
                have n2_ := Aside0.mk (blk_drew BK529.out)
                have n3_ := Aside0.mk (below_drew1 HB.out)
                clear HO_23
                clear BK520
                clear BK529
                clear HB
                have HO_23 := n0_
                have BK520 := n1_
                have BK529 := n2_
                have HB := n3_
                clear n0_ n1_ n2_ n3_
                have p530 : 0 ≤ ((rd t522 x25_1) : Int) := of_decide_eq_true (by first | (with_reducible assumption) | assumption)
                have q530 : (rd t522 x25_1) < (l0_0.length : Int) := of_decide_eq_true (by first | (with_reducible assumption) | assumption)
                obtain ⟨ad530, A530_2, c530_2, A530_3, c530_3, e530, hx530_0, hx530_1, hx530_2, hx530_3, hl530_2, hi530_2, hl530_3, hi530_3⟩ := at_T32 HR0_0.out (rd t522 x25_1) p530 q530
                have hw530_3 := hx530_3
                have hw530_2 := hx530_2
                have hw530_1 := hx530_1
                have hw530_0 := hx530_0
                obtain rfl : ad527 = ad530 := (by injection e530)
                replace hx530_0 := (HB.out.cell (World.block_lt_of_cell? w _ hx530_0)).trans hx530_0
                replace hx530_1 := (HB.out.cell (World.block_lt_of_cell? w _ hx530_1)).trans hx530_1
                replace hx530_2 := (HB.out.cell (World.block_lt_of_cell? w _ hx530_2)).trans hx530_2
                replace hx530_3 := (HB.out.cell (World.block_lt_of_cell? w _ hx530_3)).trans hx530_3
                have HR530_2 := Aside0.mk hi530_2
                have HC530_2 := Aside0.mk hl530_2
                clear hi530_2 hl530_2
                have HR530_3 := Aside0.mk hi530_3
                have HC530_3 := Aside0.mk hl530_3
                clear hi530_3 hl530_3
                replace p530 := eq_true p530
                replace q530 := eq_true q530
                refine start_ (n := 11) (S := fun w' => w'.cell? ⟨gb520, 0, none⟩ = some (.slice (some ad527) l0_0.length c0_0) ∧ w'.cell? ⟨gb529, 0, none⟩ = some (.string ((rd_T67 ((rd_T32 l0_0 (rd t522 x25_1)).f2) x36_2).f0)) ∧ w'.cell? ⟨gb529, 1, none⟩ = some (.string ((rd_T67 ((rd_T32 l0_0 (rd t522 x25_1)).f2) x36_2).f1)) ∧ w'.cell? (ad527.add (((rd t522 x25_1)).toNat * 4)) = some (.string ((rd_T32 l0_0 (rd t522 x25_1)).f0)) ∧ w'.cell? ⟨(ad527.add (((rd t522 x25_1)).toNat * 4)).block, (ad527.add (((rd t522 x25_1)).toNat * 4)).off + 1, none⟩ = some (.string ((rd_T32 l0_0 (rd t522 x25_1)).f1)) ∧ w'.cell? ⟨(ad527.add (((rd t522 x25_1)).toNat * 4)).block, (ad527.add (((rd t522 x25_1)).toNat * 4)).off + 2, none⟩ = some (.slice A530_2 ((rd_T32 l0_0 (rd t522 x25_1)).f2).length c530_2) ∧ w'.cell? ⟨(ad527.add (((rd t522 x25_1)).toNat * 4)).block, (ad527.add (((rd t522 x25_1)).toNat * 4)).off + 3, none⟩ = some (.slice A530_3 ((rd_T32 l0_0 (rd t522 x25_1)).f3).length c530_3)) (ds := []) #[false, false, false, false, false, false, false, false, false, false, false] (by kernel_rfl) rfl rfl ⟨(blk_cell BK520.out 0).trans rfl, (blk_cell BK529.out 0).trans rfl, (blk_cell BK529.out 1).trans rfl, ((HB.out.cell (World.block_lt_of_cell? w _ hw530_0)).trans hw530_0), ((HB.out.cell (World.block_lt_of_cell? w _ hw530_1)).trans hw530_1), ((HB.out.cell (World.block_lt_of_cell? w _ hw530_2)).trans hw530_2), ((HB.out.cell (World.block_lt_of_cell? w _ hw530_3)).trans hw530_3)⟩ (fun hHeld => ?_); refine with_tabW hier_Field.tab9 hier_Field.bits9 (fun HT_ HW_ => ?_)
                generalize w26.drew = w27 at HO_23 BK520 BK529 HB HR530_2 HR530_3 hx530_0 hx530_1 hx530_2 hx530_3 hHeld ⊢
                refine pure_ (i := 0) (N := some 44) (v := ?_) (a' := ?_) #[true, false, false, false, false, false, false, false, false, false, false] rfl rfl (any_of HT_.out (by kernel_rfl)) (fun _ _ _ h => h) (Or.inl ⟨by rfl, ?_⟩) ?_ ?_
                rotate_left
                ·intro w'
                 go_simp
                 with_reducible rfl
                rotate_left
                ·simp only [Act.put, List.setIfInBounds_toArray, List.set_cons_zero, List.set_cons_succ, i64_w]
                 rfl
                refine pure_ (i := 2) (N := some 46) (v := ?_) (a' := ?_) #[true, false, true, false, false, false, false, false, false, false, false] rfl rfl (any_of HT_.out (by kernel_rfl)) (fun _ _ _ h => h) (Or.inl ⟨by rfl, ?_⟩) ?_ ?_
                rotate_left
                ·intro w'
                 go_simp
                 with_reducible rfl
                rotate_left
                ·simp only [Act.put, List.setIfInBounds_toArray, List.set_cons_zero, List.set_cons_succ, i64_w]
                 rfl
                refine pure_ (i := 6) (N := some 50) (v := ?_) (a' := ?_) #[true, false, true, false, false, false, true, false, false, false, false] rfl rfl (any_of HT_.out (by kernel_rfl)) (fun _ _ _ h => h) (Or.inl ⟨by rfl, ?_⟩) ?_ ?_
                rotate_left
                ·intro w'
                 go_simp
                 with_reducible rfl
                rotate_left
                ·simp only [Act.put, List.setIfInBounds_toArray, List.set_cons_zero, List.set_cons_succ, i64_w]
                 rfl
                refine take_ (i := 1) (N := some 45) (v := ?_) (a' := ?_) #[true, true, true, false, false, false, true, false, false, false, false] rfl rfl (take_ofW HT_.out HW_.out (by kernel_rfl)) (fun _ _ _ h => h) (Or.inl ⟨by rfl, ?_⟩) hHeld ?_ ?_
                rotate_left
                ·rintro w' ⟨s0, s1, s2, s3, s4, s5, s6⟩
                 go_simp
                 with_reducible rfl
                rotate_left
                ·simp only [Act.put, List.setIfInBounds_toArray, List.set_cons_zero, List.set_cons_succ, i64_w]
                 rfl
                refine pure_ (i := 3) (N := some 47) (v := ?_) (a' := ?_) #[true, true, true, true, false, false, true, false, false, false, false] rfl rfl (any_of HT_.out (by kernel_rfl)) (fun _ _ _ h => h) (Or.inl ⟨by rfl, ?_⟩) ?_ ?_
                rotate_left
                ·intro w'
                 go_simp
                 with_reducible rfl
                rotate_left
                ·simp only [Act.put, List.setIfInBounds_toArray, List.set_cons_zero, List.set_cons_succ, i64_w]
                 rfl
                refine pure_ (i := 4) (N := some 48) (v := ?_) (a' := ?_) #[true, true, true, true, true, false, true, false, false, false, false] rfl rfl (any_of HT_.out (by kernel_rfl)) (fun _ _ _ h => h) (Or.inl ⟨by rfl, ?_⟩) ?_ ?_
                rotate_left
                ·intro w'
                 go_simp
                 with_reducible rfl
                rotate_left
                ·simp only [Act.put, List.setIfInBounds_toArray, List.set_cons_zero, List.set_cons_succ, i64_w]
                 rfl
                refine take_ (i := 5) (N := some 49) (v := ?_) (a' := ?_) #[true, true, true, true, true, true, true, false, false, false, false] rfl rfl (take_ofW HT_.out HW_.out (by kernel_rfl)) (fun _ _ _ h => h) (Or.inl ⟨by rfl, ?_⟩) hHeld ?_ ?_
                rotate_left
                ·rintro w' ⟨s0, s1, s2, s3, s4, s5, s6⟩
                 go_simp
                 with_reducible rfl
                rotate_left
                ·simp only [Act.put, List.setIfInBounds_toArray, List.set_cons_zero, List.set_cons_succ, i64_w]
                 rfl
                refine pure_ (i := 8) (N := some 6) (v := ?_) (a' := ?_) #[true, true, true, true, true, true, true, false, true, false, false] rfl rfl (any_of HT_.out (by kernel_rfl)) (fun _ _ _ h => h) (Or.inl ⟨by rfl, ?_⟩) ?_ ?_
                rotate_left
                ·intro w'
                 go_simp
                 with_reducible rfl
                rotate_left
                ·simp only [Act.put, List.setIfInBounds_toArray, List.set_cons_zero, List.set_cons_succ, i64_w]
                 rfl
                refine take_ (i := 7) (N := some 51) (v := ?_) (a' := ?_) #[true, true, true, true, true, true, true, true, true, false, false] rfl rfl (take_ofW HT_.out HW_.out (by kernel_rfl)) (fun _ _ _ h => h) (Or.inl ⟨by rfl, ?_⟩) hHeld ?_ ?_
                rotate_left
                ·rintro w' ⟨s0, s1, s2, s3, s4, s5, s6⟩
                 go_simp
                 with_reducible rfl
                rotate_left
                ·simp only [Act.put, List.setIfInBounds_toArray, List.set_cons_zero, List.set_cons_succ, i64_w]
                 rfl
                refine pure_ (i := 9) (N := some 7) (v := ?_) (a' := ?_) #[true, true, true, true, true, true, true, true, true, true, false] rfl rfl (any_of HT_.out (by kernel_rfl)) (fun _ _ _ h => h) (Or.inl ⟨by rfl, ?_⟩) ?_ ?_
                rotate_left
                ·intro w'
                 go_simp
                 with_reducible rfl
                rotate_left
                ·simp only [Act.put, List.setIfInBounds_toArray, List.set_cons_zero, List.set_cons_succ, i64_w]
                 rfl
                refine pure_ (i := 10) (N := some 8) (v := ?_) (a' := ?_) #[true, true, true, true, true, true, true, true, true, true, true] rfl rfl (any_of HT_.out (by kernel_rfl)) (fun _ _ _ h => h) (Or.inl ⟨by rfl, ?_⟩) ?_ ?_
                rotate_left
                ·intro w'
                 go_simp
                 with_reducible rfl
                rotate_left
                ·simp only [Act.put, List.setIfInBounds_toArray, List.set_cons_zero, List.set_cons_succ, i64_w]
                 rfl
                refine done_ (done_of HT_.out (by kernel_rfl)) ?_
                try go_wp2
                go_ret3
                exact ⟨by first | rfl | (simp [errW_none, errW_some] <;> rfl) | (simp [*, errW_none, errW_some] <;> rfl), by repeat with_reducible first | exact HB.out | apply below_alloc | apply pw_below_drewN | apply below_drew1 | refine below_set ?_ GE520.out | refine below_set ?_ GE529.out⟩
               ·rw [if_neg c22] at H
                exact absurd H (by simp)
              ·rw [if_neg c21] at H
               exact absurd H (by simp)
             ·rw [if_neg c20] at H
              have c20b0 : (((rd_T67 ((rd_T32 l0_0 (rd t522 x25_1)).f2) x36_2).f0).toList == a2.toList) = false := beq_eq_false_iff_ne.mpr c20
              have c20b1 : (((rd_T67 ((rd_T32 l0_0 (rd t522 x25_1)).f2) x36_2).f0).toList != a2.toList) = true := bne_iff_ne.mpr c20
              have H' := Aside0.mk H
              clear H
              have p528 : 0 ≤ (x36_2 : Int) := of_decide_eq_true (by first | (with_reducible assumption) | assumption)
              have q528 : x36_2 < (((rd_T32 l0_0 (rd t522 x25_1)).f2).length : Int) := of_decide_eq_true (by first | (with_reducible assumption) | assumption)
              obtain ⟨ad528, e528, hx528_0, hx528_1⟩ := at_T67 HR527_2.out x36_2 p528 q528
              cases e528
              replace hx528_0 := (HB.out.cell (World.block_lt_of_cell? w _ hx528_0)).trans hx528_0
              replace hx528_1 := (HB.out.cell (World.block_lt_of_cell? w _ hx528_1)).trans hx528_1
              replace p528 := eq_true p528
              replace q528 := eq_true q528
              go_wp2_with (first | ((with_reducible refine gate_dst (N := 14) rfl ?_); refine box_event ?hg (N := 14) ?hd (cs := #[.string (⟨#[]⟩ : ByteArray), .string (⟨#[]⟩ : ByteArray)]) (t := 67) ?hr ?_; (case hd => rfl); (case hg => rfl); (case hr => first | (go_simp; done) | (go_simp; rfl)); intro gb529 hg w28 hbox hb; have n0_ := Aside0.mk (Kd.R_below (by (with_reducible repeat first | apply Kd.R_alloc | apply Kd.R_drewN | apply Kd.R_drew); exact HO_23.out) hb); have n1_ := Aside0.mk (blk_below (g := gb520) (o := .cells #[.slice (some ad527) l0_0.length c0_0] 24 (0, 0)) (by (with_reducible repeat first | apply bn | apply bd | apply ba); exact BK520.out) hb); have n2_ := Aside0.mk (below_step (by repeat with_reducible first | exact HB.out | apply below_alloc | apply pw_below_drewN | apply below_drew1 | refine below_set ?_ GE520.out) hb); have n3_ := Aside0.mk (hbox); have n4_ := Aside0.mk ((by rw [hg]; exact (below_size (by repeat with_reducible first | exact HB.out | apply below_alloc | apply pw_below_drewN | apply below_drew1 | refine below_set ?_ GE520.out)) : w.heap.size ≤ gb529)); have n5_ := Aside0.mk ((by rw [hg]; exact (below_size (by repeat with_reducible first | exact HB.out | apply below_alloc | apply pw_below_drewN | apply below_drew1 | refine below_set ?_ GE520.out)) : w.heap.size ≤ gb529)); have n6_ := Aside0.mk ((by rw [hg]; exact Nat.ne_of_lt (blk_lt (g := gb520) (o := .cells #[.slice (some ad527) l0_0.length c0_0] 24 (0, 0)) (by (with_reducible repeat first | apply bn | apply bd | apply ba); exact BK520.out)) : gb520 ≠ gb529)); have n7_ := Aside0.mk ((by rw [hg]; exact Nat.ne_of_gt (blk_lt (g := gb520) (o := .cells #[.slice (some ad527) l0_0.length c0_0] 24 (0, 0)) (by (with_reducible repeat first | apply bn | apply bd | apply ba); exact BK520.out)) : gb529 ≠ gb520)); clear HO_23; clear BK520; clear HB; have HO_23 := n0_; have BK520 := n1_; have HB := n2_; have BK529 := n3_; have GW529 := n4_; have GE529 := n5_; have NB520_529 := n6_; have NB529_520 := n7_; clear n0_ n1_ n2_ n3_ n4_ n5_ n6_ n7_; clear hb hbox hg; have hnb29 := NB529_520.out; have hnc29 := NB520_529.out; have hcz30_0 : w28.cell? ⟨gb529, 0, none⟩ = some (.string (⟨#[]⟩ : ByteArray)) := (blk_cell BK529.out 0).trans rfl; have hcz30_1 : w28.cell? ⟨gb529, 1, none⟩ = some (.string (⟨#[]⟩ : ByteArray)) := (blk_cell BK529.out 1).trans rfl; have hfz30_0 := blk_frozen BK529.out 0; have hfz30_1 := blk_frozen BK529.out 1))
              go_roundg k2
              case measure => have := HK1.out; have := HK2.out; omega
              case rel => exact ⟨(wrap64 (x36_2 + 1)), (by first | rfl | (simp; done) | (simp [*]; done)), H', ⟨by have := HK1.out; have := HK2.out; omega⟩, ⟨by (with_reducible repeat first | apply Kd.R_alloc | apply Kd.R_drewN | apply Kd.R_drew); exact Kd.R_mono (Kd.R_far (p := ⟨gb529, 1, none⟩) (Kd.R_far (p := ⟨gb529, 0, none⟩) (Kd.R_types HO_23.out BK529.out (by decide)) (fun _ hk => hk.2) (.string ((rd_T67 ((rd_T32 l0_0 (rd t522 x25_1)).f2) x36_2).f0))) (fun _ hk => hk.2) (.string ((rd_T67 ((rd_T32 l0_0 (rd t522 x25_1)).f2) x36_2).f1))) (fun _ hk => trivial)⟩, ⟨by (with_reducible repeat first | apply bn | apply bd | apply ba); refine blk_far ?_ NB520_529.out _; refine blk_far ?_ NB520_529.out _; (with_reducible repeat first | apply bn | apply bd | apply ba); exact BK520.out⟩, ⟨by repeat with_reducible first | exact HB.out | apply below_alloc | apply pw_below_drewN | apply below_drew1 | refine below_set ?_ GE520.out | refine below_set ?_ GE529.out⟩⟩
            ·rw [if_neg c19] at H
             exact absurd H (by simp)
           ·rw [if_neg c18] at H
            exact absurd H (by simp)
          ·rw [if_neg c17] at H
           have c17b0 : decide (x36_2 < (((rd_T32 l0_0 (rd t522 x25_1)).f2).length : Int)) = false := decide_eq_false c17
           clear c17
           have H' := Aside0.mk H
           clear H
           go_wp2
           go_roundg k2
           case measure => have := HK1.out; have := HK2.out; omega
           case rel => exact ⟨(wrap64 (x25_1 + 1)), (by first | rfl | (simp; done) | (simp [*]; done)), H', ⟨by have := HK1.out; have := HK2.out; omega⟩, ⟨by (with_reducible repeat first | apply Kd.R_alloc | apply Kd.R_drewN | apply Kd.R_drew); exact HO_23.out⟩, ⟨by (with_reducible repeat first | apply bn | apply bd | apply ba); exact BK520.out⟩, ⟨by repeat with_reducible first | exact HB.out | apply below_alloc | apply pw_below_drewN | apply below_drew1 | refine below_set ?_ GE520.out⟩⟩
       ·rw [if_neg c15] at H
        exact absurd H (by simp)
      ·rw [if_neg c14] at H
       exact absurd H (by simp)
     ·rw [if_neg c13] at H
      exact absurd H (by simp)
    ·rw [if_neg c12] at H
     exact absurd H (by simp)
   ·rw [if_neg c11] at H
    have c11b0 : decide (x25_1 < (t522.length : Int)) = false := decide_eq_false c11
    clear c11
    simp only [Option.some.injEq, Prod.mk.injEq] at H
    obtain ⟨rfl, rfl, rfl⟩ := H
    go_wp2
    go_ret3
    exact ⟨by first | rfl | (simp [errW_none, errW_some] <;> rfl) | (simp [*, errW_none, errW_some] <;> rfl), by repeat with_reducible first | exact HB.out | apply below_alloc | apply pw_below_drewN | apply below_drew1 | refine below_set ?_ GE520.out⟩

/-! ### dataflowref10_SameSig: function 31 -/
mutual
def dataflowref10_SameSig.j0 : Nat → Bool → ByteArray → Bool → List ByteArray → ByteArray → ByteArray → Bool → List ByteArray → ByteArray → Option (Bool)
 | 0, _, _, _, _, _, _, _, _, _ => none
 | k + 1, x19, x532000, x532001, x532002, x532003, x533000, x533001, x533002, x533003 => if x19 = true then (some false) else (dataflowref10_SameSig.l0 k 0 x532000 x532001 x532002 x532003 x533000 x533001 x533002 x533003)
def dataflowref10_SameSig.l0 : Nat → Int → ByteArray → Bool → List ByteArray → ByteArray → ByteArray → Bool → List ByteArray → ByteArray → Option (Bool)
 | 0, _, _, _, _, _, _, _, _, _ => none
 | k + 1, x5, x532000, x532001, x532002, x532003, x533000, x533001, x533002, x533003 => if x5 < (x532002.length : Int) then (if 0 ≤ x5 then (if x5 < (x533002.length : Int) then (if (rdOf ByteArray.empty x532002 x5).toList = (rdOf ByteArray.empty x533002 x5).toList then (dataflowref10_SameSig.l0 k (wrap64 (x5 + 1)) x532000 x532001 x532002 x532003 x533000 x533001 x533002 x533003) else (some false)) else (none)) else (none)) else (some true)
end
def dataflowref10_SameSig.f (k : Nat) (a0_0 : ByteArray) (a0_1 : Bool) (l0_2 : List ByteArray) (a0_3 : ByteArray) (a1_0 : ByteArray) (a1_1 : Bool) (l1_2 : List ByteArray) (a1_3 : ByteArray) : Option (Bool) := if (l0_2.length : Int) = (l1_2.length : Int) then (dataflowref10_SameSig.j0 k (a0_3.toList != a1_3.toList) a0_0 a0_1 l0_2 a0_3 a1_0 a1_1 l1_2 a1_3) else (dataflowref10_SameSig.j0 k true a0_0 a0_1 l0_2 a0_3 a1_0 a1_1 l1_2 a1_3)
theorem dataflowref10_SameSig.mono_l : ∀ k, (∀ y0 y1 y2 y3 y4 y5 y6 y7 y8, LeO (dataflowref10_SameSig.j0 k y0 y1 y2 y3 y4 y5 y6 y7 y8) (dataflowref10_SameSig.j0 (k + 1) y0 y1 y2 y3 y4 y5 y6 y7 y8)) ∧ (∀ y0 y1 y2 y3 y4 y5 y6 y7 y8, LeO (dataflowref10_SameSig.l0 k y0 y1 y2 y3 y4 y5 y6 y7 y8) (dataflowref10_SameSig.l0 (k + 1) y0 y1 y2 y3 y4 y5 y6 y7 y8))
 | 0 => ⟨fun _ _ _ _ _ _ _ _ _ r h => by simp [dataflowref10_SameSig.j0] at h, fun _ _ _ _ _ _ _ _ _ r h => by simp [dataflowref10_SameSig.l0] at h⟩
 | k + 1 => by
  obtain ⟨ih0, ih1⟩ := dataflowref10_SameSig.mono_l k
  refine ⟨?_, ?_⟩
  ·intro y0 y1 y2 y3 y4 y5 y6 y7 y8
   unfold dataflowref10_SameSig.j0
   repeat' first
   | (with_reducible exact ih0 _ _ _ _ _ _ _ _ _)
   | (with_reducible exact ih1 _ _ _ _ _ _ _ _ _)
   | (with_reducible exact LeO.refl _)
   | (with_reducible exact LeO.none _)
   | (with_reducible refine LeO.ite ?_ ?_)
   | (with_reducible refine LeO.bind ?_ (fun _ => ?_))
   | exact ih0 _ _ _ _ _ _ _ _ _
   | exact ih1 _ _ _ _ _ _ _ _ _
   | exact LeO.none _
   | refine LeO.ite ?_ ?_
   | refine LeO.bind ?_ (fun _ => ?_)
  ·intro y0 y1 y2 y3 y4 y5 y6 y7 y8
   unfold dataflowref10_SameSig.l0
   repeat' first
   | (with_reducible exact ih0 _ _ _ _ _ _ _ _ _)
   | (with_reducible exact ih1 _ _ _ _ _ _ _ _ _)
   | (with_reducible exact LeO.refl _)
   | (with_reducible exact LeO.none _)
   | (with_reducible refine LeO.ite ?_ ?_)
   | (with_reducible refine LeO.bind ?_ (fun _ => ?_))
   | exact ih0 _ _ _ _ _ _ _ _ _
   | exact ih1 _ _ _ _ _ _ _ _ _
   | exact LeO.none _
   | refine LeO.ite ?_ ?_
   | refine LeO.bind ?_ (fun _ => ?_)
theorem dataflowref10_SameSig.mono : ∀ a0 a1 a2 a3 a4 a5 a6 a7 k, LeO (dataflowref10_SameSig.f k a0 a1 a2 a3 a4 a5 a6 a7) (dataflowref10_SameSig.f (k + 1) a0 a1 a2 a3 a4 a5 a6 a7) := by
 intro a0 a1 a2 a3 a4 a5 a6 a7 k
 obtain ⟨ih0, ih1⟩ := dataflowref10_SameSig.mono_l k
 unfold dataflowref10_SameSig.f
 repeat' first
   | (with_reducible exact ih0 _ _ _ _ _ _ _ _ _)
   | (with_reducible exact ih1 _ _ _ _ _ _ _ _ _)
   | (with_reducible exact LeO.refl _)
   | (with_reducible exact LeO.none _)
   | (with_reducible refine LeO.ite ?_ ?_)
   | (with_reducible refine LeO.bind ?_ (fun _ => ?_))
   | exact ih0 _ _ _ _ _ _ _ _ _
   | exact ih1 _ _ _ _ _ _ _ _ _
   | exact LeO.none _
   | refine LeO.ite ?_ ?_
   | refine LeO.bind ?_ (fun _ => ?_)
set_option maxHeartbeats 8000000 in
set_option maxRecDepth 100000 in
theorem dataflowref10_SameSig.calls (k : Nat) (a0_0 : ByteArray) (a0_1 : Bool) (A0_2 : Option Addr) (c0_2 : Nat) (l0_2 : List ByteArray) (a0_3 : ByteArray) (a1_0 : ByteArray) (a1_1 : Bool) (A1_2 : Option Addr) (c1_2 : Nat) (l1_2 : List ByteArray) (a1_3 : ByteArray) (r : Bool) (w : World) (hr0_2 : Kd.C Kd.string w A0_2 l0_2.length l0_2) (hc0_2 : l0_2.length ≤ c0_2) (hr1_2 : Kd.C Kd.string w A1_2 l1_2.length l1_2) (hc1_2 : l1_2.length ≤ c1_2) (h : dataflowref10_SameSig.f k a0_0 a0_1 l0_2 a0_3 a1_0 a1_1 l1_2 a1_3 = some r) :
  Calls Tryd.prog 31 #[.agg #[.string a0_0, .bool a0_1, .slice A0_2 l0_2.length c0_2, .string a0_3], .agg #[.string a1_0, .bool a1_1, .slice A1_2 l1_2.length c1_2, .string a1_3]] w fun e w' => e = .returned (.bool r) ∧ Below w.heap.size w w' := by
 have hu37 := Tryd.underlying37
 have HR0_2 := Aside0.mk hr0_2
 have HC0_2 := Aside0.mk hc0_2
 clear hr0_2 hc0_2
 have HR1_2 := Aside0.mk hr1_2
 have HC1_2 := Aside0.mk hc1_2
 clear hr1_2 hc1_2
 have HB := Aside0.mk (Below.refl w.heap.size w)
 have H : (if (l0_2.length : Int) = (l1_2.length : Int) then (dataflowref10_SameSig.j0 k (a0_3.toList != a1_3.toList) a0_0 a0_1 l0_2 a0_3 a1_0 a1_1 l1_2 a1_3) else (dataflowref10_SameSig.j0 k true a0_0 a0_1 l0_2 a0_3 a1_0 a1_1 l1_2 a1_3)) = some r := h
 clear h
 have HC3 := Aside0.mk H
 clear H
 go_enter Tryd.func31, Tryd.ntmps31
 go_upto_region 1 with (first | ((with_reducible refine gate_dst (N := 2) rfl ?_); refine box_event ?hg (N := 2) ?hd (cs := #[.string a0_0, .bool a0_1, .slice A0_2 l0_2.length c0_2, .string a0_3]) (t := 37) ?hr ?_; (case hd => rfl); (case hg => rfl); (case hr => first | (go_simp; done) | (go_simp; rfl)); intro gb531 hg w4 hbox hb; have n0_ := Aside0.mk (below_step (by repeat with_reducible first | exact HB.out | apply below_alloc | apply pw_below_drewN | apply below_drew1) hb); have n1_ := Aside0.mk (hbox); have n2_ := Aside0.mk ((by rw [hg]; exact (below_size (by repeat with_reducible first | exact HB.out | apply below_alloc | apply pw_below_drewN | apply below_drew1)) : w.heap.size ≤ gb531)); have n3_ := Aside0.mk ((by rw [hg]; exact (below_size (by repeat with_reducible first | exact HB.out | apply below_alloc | apply pw_below_drewN | apply below_drew1)) : w.heap.size ≤ gb531)); clear HB; have HB := n0_; have BK531 := n1_; have GW531 := n2_; have GE531 := n3_; clear n0_ n1_ n2_ n3_; clear hb hbox hg) | ((with_reducible refine gate_dst (N := 3) rfl ?_); refine box_event ?hg (N := 3) ?hd (cs := #[.string a1_0, .bool a1_1, .slice A1_2 l1_2.length c1_2, .string a1_3]) (t := 37) ?hr ?_; (case hd => rfl); (case hg => rfl); (case hr => first | (go_simp; done) | (go_simp; rfl)); intro gb532 hg w5 hbox hb; have n0_ := Aside0.mk (blk_below (g := gb531) (o := .cells #[.string a0_0, .bool a0_1, .slice A0_2 l0_2.length c0_2, .string a0_3] 37 (0, 0)) (by (with_reducible repeat first | apply bn | apply bd | apply ba); exact BK531.out) hb); have n1_ := Aside0.mk (below_step (by repeat with_reducible first | exact HB.out | apply below_alloc | apply pw_below_drewN | apply below_drew1 | refine below_set ?_ GE531.out) hb); have n2_ := Aside0.mk (hbox); have n3_ := Aside0.mk ((by rw [hg]; exact (below_size (by repeat with_reducible first | exact HB.out | apply below_alloc | apply pw_below_drewN | apply below_drew1 | refine below_set ?_ GE531.out)) : w.heap.size ≤ gb532)); have n4_ := Aside0.mk ((by rw [hg]; exact (below_size (by repeat with_reducible first | exact HB.out | apply below_alloc | apply pw_below_drewN | apply below_drew1 | refine below_set ?_ GE531.out)) : w.heap.size ≤ gb532)); have n5_ := Aside0.mk ((by rw [hg]; exact Nat.ne_of_lt (blk_lt (g := gb531) (o := .cells #[.string a0_0, .bool a0_1, .slice A0_2 l0_2.length c0_2, .string a0_3] 37 (0, 0)) (by (with_reducible repeat first | apply bn | apply bd | apply ba); exact BK531.out)) : gb531 ≠ gb532)); have n6_ := Aside0.mk ((by rw [hg]; exact Nat.ne_of_gt (blk_lt (g := gb531) (o := .cells #[.string a0_0, .bool a0_1, .slice A0_2 l0_2.length c0_2, .string a0_3] 37 (0, 0)) (by (with_reducible repeat first | apply bn | apply bd | apply ba); exact BK531.out)) : gb532 ≠ gb531)); clear BK531; clear HB; have BK531 := n0_; have HB := n1_; have BK532 := n2_; have GW532 := n3_; have GE532 := n4_; have NB531_532 := n5_; have NB532_531 := n6_; clear n0_ n1_ n2_ n3_ n4_ n5_ n6_; clear hb hbox hg))
 repeat (go_quiet (first | ((with_reducible refine gate_dst (N := 2) rfl ?_); refine box_event ?hg (N := 2) ?hd (cs := #[.string a0_0, .bool a0_1, .slice A0_2 l0_2.length c0_2, .string a0_3]) (t := 37) ?hr ?_; (case hd => rfl); (case hg => rfl); (case hr => first | (go_simp; done) | (go_simp; rfl)); intro gb531 hg w4 hbox hb; have n0_ := Aside0.mk (below_step (by repeat with_reducible first | exact HB.out | apply below_alloc | apply pw_below_drewN | apply below_drew1) hb); have n1_ := Aside0.mk (hbox); have n2_ := Aside0.mk ((by rw [hg]; exact (below_size (by repeat with_reducible first | exact HB.out | apply below_alloc | apply pw_below_drewN | apply below_drew1)) : w.heap.size ≤ gb531)); have n3_ := Aside0.mk ((by rw [hg]; exact (below_size (by repeat with_reducible first | exact HB.out | apply below_alloc | apply pw_below_drewN | apply below_drew1)) : w.heap.size ≤ gb531)); clear HB; have HB := n0_; have BK531 := n1_; have GW531 := n2_; have GE531 := n3_; clear n0_ n1_ n2_ n3_; clear hb hbox hg) | ((with_reducible refine gate_dst (N := 3) rfl ?_); refine box_event ?hg (N := 3) ?hd (cs := #[.string a1_0, .bool a1_1, .slice A1_2 l1_2.length c1_2, .string a1_3]) (t := 37) ?hr ?_; (case hd => rfl); (case hg => rfl); (case hr => first | (go_simp; done) | (go_simp; rfl)); intro gb532 hg w5 hbox hb; have n0_ := Aside0.mk (blk_below (g := gb531) (o := .cells #[.string a0_0, .bool a0_1, .slice A0_2 l0_2.length c0_2, .string a0_3] 37 (0, 0)) (by (with_reducible repeat first | apply bn | apply bd | apply ba); exact BK531.out) hb); have n1_ := Aside0.mk (below_step (by repeat with_reducible first | exact HB.out | apply below_alloc | apply pw_below_drewN | apply below_drew1 | refine below_set ?_ GE531.out) hb); have n2_ := Aside0.mk (hbox); have n3_ := Aside0.mk ((by rw [hg]; exact (below_size (by repeat with_reducible first | exact HB.out | apply below_alloc | apply pw_below_drewN | apply below_drew1 | refine below_set ?_ GE531.out)) : w.heap.size ≤ gb532)); have n4_ := Aside0.mk ((by rw [hg]; exact (below_size (by repeat with_reducible first | exact HB.out | apply below_alloc | apply pw_below_drewN | apply below_drew1 | refine below_set ?_ GE531.out)) : w.heap.size ≤ gb532)); have n5_ := Aside0.mk ((by rw [hg]; exact Nat.ne_of_lt (blk_lt (g := gb531) (o := .cells #[.string a0_0, .bool a0_1, .slice A0_2 l0_2.length c0_2, .string a0_3] 37 (0, 0)) (by (with_reducible repeat first | apply bn | apply bd | apply ba); exact BK531.out)) : gb531 ≠ gb532)); have n6_ := Aside0.mk ((by rw [hg]; exact Nat.ne_of_gt (blk_lt (g := gb531) (o := .cells #[.string a0_0, .bool a0_1, .slice A0_2 l0_2.length c0_2, .string a0_3] 37 (0, 0)) (by (with_reducible repeat first | apply bn | apply bd | apply ba); exact BK531.out)) : gb532 ≠ gb531)); clear BK531; clear HB; have BK531 := n0_; have HB := n1_; have BK532 := n2_; have GW532 := n3_; have GE532 := n4_; have NB531_532 := n5_; have NB532_531 := n6_; clear n0_ n1_ n2_ n3_ n4_ n5_ n6_; clear hb hbox hg)); go_upto_region 1 with (first | ((with_reducible refine gate_dst (N := 2) rfl ?_); refine box_event ?hg (N := 2) ?hd (cs := #[.string a0_0, .bool a0_1, .slice A0_2 l0_2.length c0_2, .string a0_3]) (t := 37) ?hr ?_; (case hd => rfl); (case hg => rfl); (case hr => first | (go_simp; done) | (go_simp; rfl)); intro gb531 hg w4 hbox hb; have n0_ := Aside0.mk (below_step (by repeat with_reducible first | exact HB.out | apply below_alloc | apply pw_below_drewN | apply below_drew1) hb); have n1_ := Aside0.mk (hbox); have n2_ := Aside0.mk ((by rw [hg]; exact (below_size (by repeat with_reducible first | exact HB.out | apply below_alloc | apply pw_below_drewN | apply below_drew1)) : w.heap.size ≤ gb531)); have n3_ := Aside0.mk ((by rw [hg]; exact (below_size (by repeat with_reducible first | exact HB.out | apply below_alloc | apply pw_below_drewN | apply below_drew1)) : w.heap.size ≤ gb531)); clear HB; have HB := n0_; have BK531 := n1_; have GW531 := n2_; have GE531 := n3_; clear n0_ n1_ n2_ n3_; clear hb hbox hg) | ((with_reducible refine gate_dst (N := 3) rfl ?_); refine box_event ?hg (N := 3) ?hd (cs := #[.string a1_0, .bool a1_1, .slice A1_2 l1_2.length c1_2, .string a1_3]) (t := 37) ?hr ?_; (case hd => rfl); (case hg => rfl); (case hr => first | (go_simp; done) | (go_simp; rfl)); intro gb532 hg w5 hbox hb; have n0_ := Aside0.mk (blk_below (g := gb531) (o := .cells #[.string a0_0, .bool a0_1, .slice A0_2 l0_2.length c0_2, .string a0_3] 37 (0, 0)) (by (with_reducible repeat first | apply bn | apply bd | apply ba); exact BK531.out) hb); have n1_ := Aside0.mk (below_step (by repeat with_reducible first | exact HB.out | apply below_alloc | apply pw_below_drewN | apply below_drew1 | refine below_set ?_ GE531.out) hb); have n2_ := Aside0.mk (hbox); have n3_ := Aside0.mk ((by rw [hg]; exact (below_size (by repeat with_reducible first | exact HB.out | apply below_alloc | apply pw_below_drewN | apply below_drew1 | refine below_set ?_ GE531.out)) : w.heap.size ≤ gb532)); have n4_ := Aside0.mk ((by rw [hg]; exact (below_size (by repeat with_reducible first | exact HB.out | apply below_alloc | apply pw_below_drewN | apply below_drew1 | refine below_set ?_ GE531.out)) : w.heap.size ≤ gb532)); have n5_ := Aside0.mk ((by rw [hg]; exact Nat.ne_of_lt (blk_lt (g := gb531) (o := .cells #[.string a0_0, .bool a0_1, .slice A0_2 l0_2.length c0_2, .string a0_3] 37 (0, 0)) (by (with_reducible repeat first | apply bn | apply bd | apply ba); exact BK531.out)) : gb531 ≠ gb532)); have n6_ := Aside0.mk ((by rw [hg]; exact Nat.ne_of_gt (blk_lt (g := gb531) (o := .cells #[.string a0_0, .bool a0_1, .slice A0_2 l0_2.length c0_2, .string a0_3] 37 (0, 0)) (by (with_reducible repeat first | apply bn | apply bd | apply ba); exact BK531.out)) : gb532 ≠ gb531)); clear BK531; clear HB; have BK531 := n0_; have HB := n1_; have BK532 := n2_; have GW532 := n3_; have GE532 := n4_; have NB531_532 := n5_; have NB532_531 := n6_; clear n0_ n1_ n2_ n3_ n4_ n5_ n6_; clear hb hbox hg)))
 (try simp only [Act.put, List.setIfInBounds_toArray, List.set_cons_zero, List.set_cons_succ])
 go_cut [19] (fun v19 wc => ∃ (kq : Nat) (x19_2 : Bool), v19 = .bool x19_2 ∧ Aside0 (dataflowref10_SameSig.j0 kq x19_2 a0_0 a0_1 l0_2 a0_3 a1_0 a1_1 l1_2 a1_3 = some r) ∧ Aside0 (kq ≤ k) ∧ Aside0 (wc.heap[gb531]? = some (.cells #[.string a0_0, .bool a0_1, (.slice A0_2 l0_2.length c0_2), .string a0_3] 37 (0, 0))) ∧ Aside0 (wc.heap[gb532]? = some (.cells #[.string a1_0, .bool a1_1, (.slice A1_2 l1_2.length c1_2), .string a1_3] 37 (0, 0))) ∧ Aside0 (Below w.heap.size w wc))
 case first =>
  have H := HC3.out
  clear HC3
  by_cases c6 : (l0_2.length : Int) = (l1_2.length : Int)
  ·rw [if_pos c6] at H
   have c6b0 : ((l0_2.length : Int) == (l1_2.length : Int)) = true := beq_iff_eq.mpr c6
   have c6b1 : ((l0_2.length : Int) != (l1_2.length : Int)) = false := bne_eq_false_iff_eq.mpr c6
   have c6b2 : (l0_2.length == l1_2.length) = true := by first | simpa using c6 | (simp at c6 ⊢; omega)
   clear c6
   (first | rw [c6b0] | (simp only [i64_w, i32_w]; rw [c6b0]) | skip)
   have H' := Aside0.mk H
   clear H
   have hnb7 := NB531_532.out
   have hnc7 := NB532_531.out
   have hcz8_0 : w5.cell? ⟨gb531, 0, none⟩ = some (.string a0_0) := (blk_cell BK531.out 0).trans rfl
   have hcz8_1 : w5.cell? ⟨gb531, 1, none⟩ = some (.bool a0_1) := (blk_cell BK531.out 1).trans rfl
   have hcz8_2 : w5.cell? ⟨gb531, 2, none⟩ = some (.slice A0_2 l0_2.length c0_2) := (blk_cell BK531.out 2).trans rfl
   have hcz8_3 : w5.cell? ⟨gb531, 3, none⟩ = some (.string a0_3) := (blk_cell BK531.out 3).trans rfl
   have hfz8_0 := blk_frozen BK531.out 0
   have hfz8_1 := blk_frozen BK531.out 1
   have hfz8_2 := blk_frozen BK531.out 2
   have hfz8_3 := blk_frozen BK531.out 3
   have hcz9_0 : w5.cell? ⟨gb532, 0, none⟩ = some (.string a1_0) := (blk_cell BK532.out 0).trans rfl
   have hcz9_1 : w5.cell? ⟨gb532, 1, none⟩ = some (.bool a1_1) := (blk_cell BK532.out 1).trans rfl
   have hcz9_2 : w5.cell? ⟨gb532, 2, none⟩ = some (.slice A1_2 l1_2.length c1_2) := (blk_cell BK532.out 2).trans rfl
   have hcz9_3 : w5.cell? ⟨gb532, 3, none⟩ = some (.string a1_3) := (blk_cell BK532.out 3).trans rfl
   have hfz9_0 := blk_frozen BK532.out 0
   have hfz9_1 := blk_frozen BK532.out 1
   have hfz9_2 := blk_frozen BK532.out 2
   have hfz9_3 := blk_frozen BK532.out 3
   go_wp2
   repeat (go_quiet (fail); try go_wp2)
   go_meet
   case rel => exact ⟨_, ((a0_3.toList != a1_3.toList)), (by first | rfl | (simp; done) | (simp [*]; done)), H', ⟨by first | omega | exact Nat.le_refl _⟩, ⟨by (with_reducible repeat first | apply bn | apply bd | apply ba); exact BK531.out⟩, ⟨by (with_reducible repeat first | apply bn | apply bd | apply ba); exact BK532.out⟩, ⟨by repeat with_reducible first | exact HB.out | apply below_alloc | apply pw_below_drewN | apply below_drew1 | refine below_set ?_ GE531.out | refine below_set ?_ GE532.out⟩⟩
  ·rw [if_neg c6] at H
   have c6b0 : ((l0_2.length : Int) == (l1_2.length : Int)) = false := beq_eq_false_iff_ne.mpr c6
   have c6b1 : ((l0_2.length : Int) != (l1_2.length : Int)) = true := bne_iff_ne.mpr c6
   have c6b2 : (l0_2.length == l1_2.length) = false := by first | simpa using c6 | (simp at c6 ⊢; omega)
   (first | rw [c6b0] | (simp only [i64_w, i32_w]; rw [c6b0]) | skip)
   have H' := Aside0.mk H
   clear H
   have hnb10 := NB531_532.out
   have hnc10 := NB532_531.out
   have hcz11_0 : w5.cell? ⟨gb531, 0, none⟩ = some (.string a0_0) := (blk_cell BK531.out 0).trans rfl
   have hcz11_1 : w5.cell? ⟨gb531, 1, none⟩ = some (.bool a0_1) := (blk_cell BK531.out 1).trans rfl
   have hcz11_2 : w5.cell? ⟨gb531, 2, none⟩ = some (.slice A0_2 l0_2.length c0_2) := (blk_cell BK531.out 2).trans rfl
   have hcz11_3 : w5.cell? ⟨gb531, 3, none⟩ = some (.string a0_3) := (blk_cell BK531.out 3).trans rfl
   have hfz11_0 := blk_frozen BK531.out 0
   have hfz11_1 := blk_frozen BK531.out 1
   have hfz11_2 := blk_frozen BK531.out 2
   have hfz11_3 := blk_frozen BK531.out 3
   have hcz12_0 : w5.cell? ⟨gb532, 0, none⟩ = some (.string a1_0) := (blk_cell BK532.out 0).trans rfl
   have hcz12_1 : w5.cell? ⟨gb532, 1, none⟩ = some (.bool a1_1) := (blk_cell BK532.out 1).trans rfl
   have hcz12_2 : w5.cell? ⟨gb532, 2, none⟩ = some (.slice A1_2 l1_2.length c1_2) := (blk_cell BK532.out 2).trans rfl
   have hcz12_3 : w5.cell? ⟨gb532, 3, none⟩ = some (.string a1_3) := (blk_cell BK532.out 3).trans rfl
   have hfz12_0 := blk_frozen BK532.out 0
   have hfz12_1 := blk_frozen BK532.out 1
   have hfz12_2 := blk_frozen BK532.out 2
   have hfz12_3 := blk_frozen BK532.out 3
   go_wp2
   repeat (go_quiet (fail); try go_wp2)
   go_meet
   case rel => exact ⟨_, (true), (by first | rfl | (simp; done) | (simp [*]; done)), H', ⟨by first | omega | exact Nat.le_refl _⟩, ⟨by (with_reducible repeat first | apply bn | apply bd | apply ba); exact BK531.out⟩, ⟨by (with_reducible repeat first | apply bn | apply bd | apply ba); exact BK532.out⟩, ⟨by repeat with_reducible first | exact HB.out | apply below_alloc | apply pw_below_drewN | apply below_drew1 | refine below_set ?_ GE531.out | refine below_set ?_ GE532.out⟩⟩
 case rest =>
  clear HC3
  try clear c1
  try clear p2
  try clear c3
  try clear c6
  try clear c6b0
  try clear c6b1
  try clear c6b2
  try clear c7
  try clear c10
  try clear hcz11_0
  try clear hcz11_1
  try clear hcz11_2
  try clear hcz11_3
  try clear hcz12_0
  try clear hcz12_1
  try clear hcz12_2
  try clear hcz12_3
  try clear hcz8_0
  try clear hcz8_1
  try clear hcz8_2
  try clear hcz8_3
  try clear hcz9_0
  try clear hcz9_1
  try clear hcz9_2
  try clear hcz9_3
  try clear hfz11_0
  try clear hfz11_1
  try clear hfz11_2
  try clear hfz11_3
  try clear hfz12_0
  try clear hfz12_1
  try clear hfz12_2
  try clear hfz12_3
  try clear hfz8_0
  try clear hfz8_1
  try clear hfz8_2
  try clear hfz8_3
  try clear hfz9_0
  try clear hfz9_1
  try clear hfz9_2
  try clear hfz9_3
  obtain ⟨kq, x19_2, rfl, HA, HJ2, BK531, BK532, HB⟩ := hcut
  cases kq with
  | zero => exact absurd HA.out (by simp [dataflowref10_SameSig.j0])
  | succ kj2 =>
   have H := HA.out
   clear HA
   simp only [dataflowref10_SameSig.j0] at H
   by_cases c13 : x19_2 = true
   ·subst c13
    have H1 : (some false) = some r := by rw [if_pos rfl] at H; exact H
    clear H
    have H := H1
    clear H1
    obtain rfl := Option.some.inj H
    go_wp2
    repeat (go_quiet (fail); try go_wp2)
    go_ret
    exact ⟨by first | rfl | (simp [errW_none, errW_some] <;> rfl) | (simp [*, errW_none, errW_some] <;> rfl), by repeat with_reducible first | exact HB.out | apply below_alloc | apply pw_below_drewN | apply below_drew1 | refine below_set ?_ GE531.out | refine below_set ?_ GE532.out⟩
   ·replace c13 := Bool.eq_false_iff.mpr c13
    subst c13
    have H1 : (dataflowref10_SameSig.l0 kj2 0 a0_0 a0_1 l0_2 a0_3 a1_0 a1_1 l1_2 a1_3) = some r := by rw [if_neg (show ¬ (false = true) by decide)] at H; exact H
    clear H
    have H := H1
    clear H1
    have H' := Aside0.mk H
    clear H
    go_wp2
    repeat (go_quiet (fail); try go_wp2)
    go_loopg [5] kj2 (fun kq v5 w' => ∃ (x5_2 : Int), v5 = .int .i64 x5_2 ∧ Aside0 (dataflowref10_SameSig.l0 kq x5_2 a0_0 a0_1 l0_2 a0_3 a1_0 a1_1 l1_2 a1_3 = some r) ∧ Aside0 (kq ≤ kj2) ∧ Aside0 (w'.heap[gb531]? = some (.cells #[.string a0_0, .bool a0_1, (.slice A0_2 l0_2.length c0_2), .string a0_3] 37 (0, 0))) ∧ Aside0 (w'.heap[gb532]? = some (.cells #[.string a1_0, .bool a1_1, (.slice A1_2 l1_2.length c1_2), .string a1_3] 37 (0, 0))) ∧ Aside0 (Below w.heap.size w w'))
    case atStart => exact ⟨(0), (by first | rfl | (simp; done) | (simp [*]; done)), H', ⟨Nat.le_refl _⟩, ⟨by (with_reducible repeat first | apply bn | apply bd | apply ba); exact BK531.out⟩, ⟨by (with_reducible repeat first | apply bn | apply bd | apply ba); exact BK532.out⟩, ⟨by repeat with_reducible first | exact HB.out | apply below_alloc | apply pw_below_drewN | apply below_drew1 | refine below_set ?_ GE531.out | refine below_set ?_ GE532.out⟩⟩
    case round =>
     clear H'
     try clear c1
     try clear p2
     try clear c3
     try clear c6
     try clear c6b0
     try clear c6b1
     try clear c6b2
     try clear c7
     try clear c10
     try clear c13
     try clear hcz11_0
     try clear hcz11_1
     try clear hcz11_2
     try clear hcz11_3
     try clear hcz12_0
     try clear hcz12_1
     try clear hcz12_2
     try clear hcz12_3
     try clear hcz8_0
     try clear hcz8_1
     try clear hcz8_2
     try clear hcz8_3
     try clear hcz9_0
     try clear hcz9_1
     try clear hcz9_2
     try clear hcz9_3
     try clear hfz11_0
     try clear hfz11_1
     try clear hfz11_2
     try clear hfz11_3
     try clear hfz12_0
     try clear hfz12_1
     try clear hfz12_2
     try clear hfz12_3
     try clear hfz8_0
     try clear hfz8_1
     try clear hfz8_2
     try clear hfz8_3
     try clear hfz9_0
     try clear hfz9_1
     try clear hfz9_2
     try clear hfz9_3
     try clear p2
     obtain ⟨x5_2, rfl, HA, HK2, BK531, BK532, HB⟩ := hrel
     cases gk with
     | zero => exact absurd HA.out (by simp [dataflowref10_SameSig.l0])
     | succ k2 =>
      have H := HA.out
      clear HA
      simp only [dataflowref10_SameSig.l0] at H
      by_cases c14 : x5_2 < (l0_2.length : Int)
      ·rw [if_pos c14] at H
       have c14b0 : decide (x5_2 < (l0_2.length : Int)) = true := decide_eq_true c14
       clear c14
       by_cases c15 : 0 ≤ x5_2
       ·rw [if_pos c15] at H
        have c15b0 : decide (0 ≤ x5_2) = true := decide_eq_true c15
        clear c15
        by_cases c16 : x5_2 < (l1_2.length : Int)
        ·rw [if_pos c16] at H
         have c16b0 : decide (x5_2 < (l1_2.length : Int)) = true := decide_eq_true c16
         clear c16
         by_cases c17 : (rdOf ByteArray.empty l0_2 x5_2).toList = (rdOf ByteArray.empty l1_2 x5_2).toList
         ·rw [if_pos c17] at H
          have c17b0 : ((rdOf ByteArray.empty l0_2 x5_2).toList == (rdOf ByteArray.empty l1_2 x5_2).toList) = true := beq_iff_eq.mpr c17
          have c17b1 : ((rdOf ByteArray.empty l0_2 x5_2).toList != (rdOf ByteArray.empty l1_2 x5_2).toList) = false := bne_eq_false_iff_eq.mpr c17
          clear c17
          have H' := Aside0.mk H
          clear H
          have hnb18 := NB531_532.out
          have hnc18 := NB532_531.out
          have hcz19_0 : wr.cell? ⟨gb531, 0, none⟩ = some (.string a0_0) := (blk_cell BK531.out 0).trans rfl
          have hcz19_1 : wr.cell? ⟨gb531, 1, none⟩ = some (.bool a0_1) := (blk_cell BK531.out 1).trans rfl
          have hcz19_2 : wr.cell? ⟨gb531, 2, none⟩ = some (.slice A0_2 l0_2.length c0_2) := (blk_cell BK531.out 2).trans rfl
          have hcz19_3 : wr.cell? ⟨gb531, 3, none⟩ = some (.string a0_3) := (blk_cell BK531.out 3).trans rfl
          have hfz19_0 := blk_frozen BK531.out 0
          have hfz19_1 := blk_frozen BK531.out 1
          have hfz19_2 := blk_frozen BK531.out 2
          have hfz19_3 := blk_frozen BK531.out 3
          have p533 : 0 ≤ (x5_2 : Int) := of_decide_eq_true (by first | (with_reducible assumption) | assumption)
          have q533 : x5_2 < (l0_2.length : Int) := of_decide_eq_true (by first | (with_reducible assumption) | assumption)
          obtain ⟨ad533, e533, hx533_0⟩ := Kd.at_string HR0_2.out x5_2 p533 q533
          cases e533
          replace hx533_0 := (HB.out.cell (World.block_lt_of_cell? w _ hx533_0)).trans hx533_0
          replace p533 := eq_true p533
          replace q533 := eq_true q533
          have hcz20_0 : wr.cell? ⟨gb532, 0, none⟩ = some (.string a1_0) := (blk_cell BK532.out 0).trans rfl
          have hcz20_1 : wr.cell? ⟨gb532, 1, none⟩ = some (.bool a1_1) := (blk_cell BK532.out 1).trans rfl
          have hcz20_2 : wr.cell? ⟨gb532, 2, none⟩ = some (.slice A1_2 l1_2.length c1_2) := (blk_cell BK532.out 2).trans rfl
          have hcz20_3 : wr.cell? ⟨gb532, 3, none⟩ = some (.string a1_3) := (blk_cell BK532.out 3).trans rfl
          have hfz20_0 := blk_frozen BK532.out 0
          have hfz20_1 := blk_frozen BK532.out 1
          have hfz20_2 := blk_frozen BK532.out 2
          have hfz20_3 := blk_frozen BK532.out 3
          have p534 : 0 ≤ (x5_2 : Int) := of_decide_eq_true (by first | (with_reducible assumption) | assumption)
          have q534 : x5_2 < (l1_2.length : Int) := of_decide_eq_true (by first | (with_reducible assumption) | assumption)
          obtain ⟨ad534, e534, hx534_0⟩ := Kd.at_string HR1_2.out x5_2 p534 q534
          cases e534
          replace hx534_0 := (HB.out.cell (World.block_lt_of_cell? w _ hx534_0)).trans hx534_0
          replace p534 := eq_true p534
          replace q534 := eq_true q534
          go_wp2
          repeat (go_quiet (fail); try go_wp2)
          go_roundg k2
          case measure => have := HJ2.out; have := HK2.out; omega
          case rel => exact ⟨(wrap64 (x5_2 + 1)), (by first | rfl | (simp; done) | (simp [*]; done)), H', ⟨by have := HJ2.out; have := HK2.out; omega⟩, ⟨by (with_reducible repeat first | apply bn | apply bd | apply ba); exact BK531.out⟩, ⟨by (with_reducible repeat first | apply bn | apply bd | apply ba); exact BK532.out⟩, ⟨by repeat with_reducible first | exact HB.out | apply below_alloc | apply pw_below_drewN | apply below_drew1 | refine below_set ?_ GE531.out | refine below_set ?_ GE532.out⟩⟩
         ·rw [if_neg c17] at H
          have c17b0 : ((rdOf ByteArray.empty l0_2 x5_2).toList == (rdOf ByteArray.empty l1_2 x5_2).toList) = false := beq_eq_false_iff_ne.mpr c17
          have c17b1 : ((rdOf ByteArray.empty l0_2 x5_2).toList != (rdOf ByteArray.empty l1_2 x5_2).toList) = true := bne_iff_ne.mpr c17
          obtain rfl := Option.some.inj H
          have hnb21 := NB531_532.out
          have hnc21 := NB532_531.out
          have hcz22_0 : wr.cell? ⟨gb531, 0, none⟩ = some (.string a0_0) := (blk_cell BK531.out 0).trans rfl
          have hcz22_1 : wr.cell? ⟨gb531, 1, none⟩ = some (.bool a0_1) := (blk_cell BK531.out 1).trans rfl
          have hcz22_2 : wr.cell? ⟨gb531, 2, none⟩ = some (.slice A0_2 l0_2.length c0_2) := (blk_cell BK531.out 2).trans rfl
          have hcz22_3 : wr.cell? ⟨gb531, 3, none⟩ = some (.string a0_3) := (blk_cell BK531.out 3).trans rfl
          have hfz22_0 := blk_frozen BK531.out 0
          have hfz22_1 := blk_frozen BK531.out 1
          have hfz22_2 := blk_frozen BK531.out 2
          have hfz22_3 := blk_frozen BK531.out 3
          have p533 : 0 ≤ (x5_2 : Int) := of_decide_eq_true (by first | (with_reducible assumption) | assumption)
          have q533 : x5_2 < (l0_2.length : Int) := of_decide_eq_true (by first | (with_reducible assumption) | assumption)
          obtain ⟨ad533, e533, hx533_0⟩ := Kd.at_string HR0_2.out x5_2 p533 q533
          cases e533
          replace hx533_0 := (HB.out.cell (World.block_lt_of_cell? w _ hx533_0)).trans hx533_0
          replace p533 := eq_true p533
          replace q533 := eq_true q533
          have hcz23_0 : wr.cell? ⟨gb532, 0, none⟩ = some (.string a1_0) := (blk_cell BK532.out 0).trans rfl
          have hcz23_1 : wr.cell? ⟨gb532, 1, none⟩ = some (.bool a1_1) := (blk_cell BK532.out 1).trans rfl
          have hcz23_2 : wr.cell? ⟨gb532, 2, none⟩ = some (.slice A1_2 l1_2.length c1_2) := (blk_cell BK532.out 2).trans rfl
          have hcz23_3 : wr.cell? ⟨gb532, 3, none⟩ = some (.string a1_3) := (blk_cell BK532.out 3).trans rfl
          have hfz23_0 := blk_frozen BK532.out 0
          have hfz23_1 := blk_frozen BK532.out 1
          have hfz23_2 := blk_frozen BK532.out 2
          have hfz23_3 := blk_frozen BK532.out 3
          have p534 : 0 ≤ (x5_2 : Int) := of_decide_eq_true (by first | (with_reducible assumption) | assumption)
          have q534 : x5_2 < (l1_2.length : Int) := of_decide_eq_true (by first | (with_reducible assumption) | assumption)
          obtain ⟨ad534, e534, hx534_0⟩ := Kd.at_string HR1_2.out x5_2 p534 q534
          cases e534
          replace hx534_0 := (HB.out.cell (World.block_lt_of_cell? w _ hx534_0)).trans hx534_0
          replace p534 := eq_true p534
          replace q534 := eq_true q534
          go_wp2
          repeat (go_quiet (fail); try go_wp2)
          go_ret
          exact ⟨by first | rfl | (simp [errW_none, errW_some] <;> rfl) | (simp [*, errW_none, errW_some] <;> rfl), by repeat with_reducible first | exact HB.out | apply below_alloc | apply pw_below_drewN | apply below_drew1 | refine below_set ?_ GE531.out | refine below_set ?_ GE532.out⟩
        ·rw [if_neg c16] at H
         exact absurd H (by simp)
       ·rw [if_neg c15] at H
        exact absurd H (by simp)
      ·rw [if_neg c14] at H
       have c14b0 : decide (x5_2 < (l0_2.length : Int)) = false := decide_eq_false c14
       clear c14
       obtain rfl := Option.some.inj H
       have hnb24 := NB531_532.out
       have hnc24 := NB532_531.out
       have hcz25_0 : wr.cell? ⟨gb531, 0, none⟩ = some (.string a0_0) := (blk_cell BK531.out 0).trans rfl
       have hcz25_1 : wr.cell? ⟨gb531, 1, none⟩ = some (.bool a0_1) := (blk_cell BK531.out 1).trans rfl
       have hcz25_2 : wr.cell? ⟨gb531, 2, none⟩ = some (.slice A0_2 l0_2.length c0_2) := (blk_cell BK531.out 2).trans rfl
       have hcz25_3 : wr.cell? ⟨gb531, 3, none⟩ = some (.string a0_3) := (blk_cell BK531.out 3).trans rfl
       have hfz25_0 := blk_frozen BK531.out 0
       have hfz25_1 := blk_frozen BK531.out 1
       have hfz25_2 := blk_frozen BK531.out 2
       have hfz25_3 := blk_frozen BK531.out 3
       go_wp2
       repeat (go_quiet (fail); try go_wp2)
       go_ret
       exact ⟨by first | rfl | (simp [errW_none, errW_some] <;> rfl) | (simp [*, errW_none, errW_some] <;> rfl), by repeat with_reducible first | exact HB.out | apply below_alloc | apply pw_below_drewN | apply below_drew1 | refine below_set ?_ GE531.out | refine below_set ?_ GE532.out⟩

/-! ### dataflowlaw10_sig: function 19 -/
def dataflowlaw10_sig.f (k : Nat) (a0_0 : ByteArray) (a0_1 : Bool) (l0_2 : List ByteArray) (a0_3 : ByteArray) (a1_0 : ByteArray) (a1_1 : Bool) (l1_2 : List ByteArray) (a1_3 : ByteArray) : Option (Bool) := if a0_0.toList = a1_0.toList then (if (a0_1 == a1_1) = true then ((dataflowref10_SameSig.f k a0_0 a0_1 l0_2 a0_3 a1_0 a1_1 l1_2 a1_3).bind fun t537 => (some t537)) else (some false)) else (some false)
theorem dataflowlaw10_sig.mono : ∀ a0 a1 a2 a3 a4 a5 a6 a7 k, LeO (dataflowlaw10_sig.f k a0 a1 a2 a3 a4 a5 a6 a7) (dataflowlaw10_sig.f (k + 1) a0 a1 a2 a3 a4 a5 a6 a7) := by
 intro a0 a1 a2 a3 a4 a5 a6 a7 k
 unfold dataflowlaw10_sig.f
 repeat' first
   | (with_reducible exact dataflowref10_SameSig.mono _ _ _ _ _ _ _ _ _)
   | (with_reducible exact LeO.refl _)
   | (with_reducible exact LeO.none _)
   | (with_reducible refine LeO.ite ?_ ?_)
   | (with_reducible refine LeO.bind ?_ (fun _ => ?_))
   | exact dataflowref10_SameSig.mono _ _ _ _ _ _ _ _ _
   | exact LeO.none _
   | refine LeO.ite ?_ ?_
   | refine LeO.bind ?_ (fun _ => ?_)
set_option maxHeartbeats 8000000 in
set_option maxRecDepth 100000 in
theorem dataflowlaw10_sig.calls (k : Nat) (a0_0 : ByteArray) (a0_1 : Bool) (A0_2 : Option Addr) (c0_2 : Nat) (l0_2 : List ByteArray) (a0_3 : ByteArray) (a1_0 : ByteArray) (a1_1 : Bool) (A1_2 : Option Addr) (c1_2 : Nat) (l1_2 : List ByteArray) (a1_3 : ByteArray) (r : Bool) (w : World) (hr0_2 : Kd.C Kd.string w A0_2 l0_2.length l0_2) (hc0_2 : l0_2.length ≤ c0_2) (hr1_2 : Kd.C Kd.string w A1_2 l1_2.length l1_2) (hc1_2 : l1_2.length ≤ c1_2) (h : dataflowlaw10_sig.f k a0_0 a0_1 l0_2 a0_3 a1_0 a1_1 l1_2 a1_3 = some r) :
  Calls Tryd.prog 19 #[.agg #[.string a0_0, .bool a0_1, .slice A0_2 l0_2.length c0_2, .string a0_3], .agg #[.string a1_0, .bool a1_1, .slice A1_2 l1_2.length c1_2, .string a1_3]] w fun e w' => e = .returned (.bool r) ∧ Below w.heap.size w w' := by
 have hu37 := Tryd.underlying37
 have HR0_2 := Aside0.mk hr0_2
 have HC0_2 := Aside0.mk hc0_2
 clear hr0_2 hc0_2
 have HR1_2 := Aside0.mk hr1_2
 have HC1_2 := Aside0.mk hc1_2
 clear hr1_2 hc1_2
 have HB := Aside0.mk (Below.refl w.heap.size w)
 have H : (if a0_0.toList = a1_0.toList then (if (a0_1 == a1_1) = true then ((dataflowref10_SameSig.f k a0_0 a0_1 l0_2 a0_3 a1_0 a1_1 l1_2 a1_3).bind fun t537 => (some t537)) else (some false)) else (some false)) = some r := h
 clear h
 by_cases c3 : a0_0.toList = a1_0.toList
 ·rw [if_pos c3] at H
  have c3b0 : (a0_0.toList == a1_0.toList) = true := beq_iff_eq.mpr c3
  have c3b1 : (a0_0.toList != a1_0.toList) = false := bne_eq_false_iff_eq.mpr c3
  clear c3
  by_cases c4 : (a0_1 == a1_1) = true
  ·rw [if_pos c4] at H
   have c4b0 : (a0_1 == a1_1) = true := c4
   (try (have c4b1 : decide (a0_1 = a1_1) = true := by simpa using c4))
   (try (have c4b2 : (a0_1 == a1_1) = true := by simpa using c4))
   clear c4
   replace H := Option.bind_eq_some_iff.mp H
   obtain ⟨t537, A50, H⟩ := H
   replace H : (some t537) = some r := H
   have A5 := Aside0.mk A50
   clear A50
   obtain rfl := Option.some.inj H
   go_enter Tryd.func19, Tryd.ntmps19
   go_wp2_with (first | ((with_reducible refine gate_dst (N := 2) rfl ?_); refine box_event ?hg (N := 2) ?hd (cs := #[.string a0_0, .bool a0_1, .slice A0_2 l0_2.length c0_2, .string a0_3]) (t := 37) ?hr ?_; (case hd => rfl); (case hg => rfl); (case hr => first | (go_simp; done) | (go_simp; rfl)); intro gb535 hg w6 hbox hb; have n0_ := Aside0.mk (below_step (by repeat with_reducible first | exact HB.out | apply below_alloc | apply pw_below_drewN | apply below_drew1) hb); have n1_ := Aside0.mk (hbox); have n2_ := Aside0.mk ((by rw [hg]; exact (below_size (by repeat with_reducible first | exact HB.out | apply below_alloc | apply pw_below_drewN | apply below_drew1)) : w.heap.size ≤ gb535)); have n3_ := Aside0.mk ((by rw [hg]; exact (below_size (by repeat with_reducible first | exact HB.out | apply below_alloc | apply pw_below_drewN | apply below_drew1)) : w.heap.size ≤ gb535)); clear HB; have HB := n0_; have BK535 := n1_; have GW535 := n2_; have GE535 := n3_; clear n0_ n1_ n2_ n3_; clear hb hbox hg) | ((with_reducible refine gate_dst (N := 3) rfl ?_); refine box_event ?hg (N := 3) ?hd (cs := #[.string a1_0, .bool a1_1, .slice A1_2 l1_2.length c1_2, .string a1_3]) (t := 37) ?hr ?_; (case hd => rfl); (case hg => rfl); (case hr => first | (go_simp; done) | (go_simp; rfl)); intro gb536 hg w7 hbox hb; have n0_ := Aside0.mk (blk_below (g := gb535) (o := .cells #[.string a0_0, .bool a0_1, .slice A0_2 l0_2.length c0_2, .string a0_3] 37 (0, 0)) (by (with_reducible repeat first | apply bn | apply bd | apply ba); exact BK535.out) hb); have n1_ := Aside0.mk (below_step (by repeat with_reducible first | exact HB.out | apply below_alloc | apply pw_below_drewN | apply below_drew1 | refine below_set ?_ GE535.out) hb); have n2_ := Aside0.mk (hbox); have n3_ := Aside0.mk ((by rw [hg]; exact (below_size (by repeat with_reducible first | exact HB.out | apply below_alloc | apply pw_below_drewN | apply below_drew1 | refine below_set ?_ GE535.out)) : w.heap.size ≤ gb536)); have n4_ := Aside0.mk ((by rw [hg]; exact (below_size (by repeat with_reducible first | exact HB.out | apply below_alloc | apply pw_below_drewN | apply below_drew1 | refine below_set ?_ GE535.out)) : w.heap.size ≤ gb536)); have n5_ := Aside0.mk ((by rw [hg]; exact Nat.ne_of_lt (blk_lt (g := gb535) (o := .cells #[.string a0_0, .bool a0_1, .slice A0_2 l0_2.length c0_2, .string a0_3] 37 (0, 0)) (by (with_reducible repeat first | apply bn | apply bd | apply ba); exact BK535.out)) : gb535 ≠ gb536)); have n6_ := Aside0.mk ((by rw [hg]; exact Nat.ne_of_gt (blk_lt (g := gb535) (o := .cells #[.string a0_0, .bool a0_1, .slice A0_2 l0_2.length c0_2, .string a0_3] 37 (0, 0)) (by (with_reducible repeat first | apply bn | apply bd | apply ba); exact BK535.out)) : gb536 ≠ gb535)); clear BK535; clear HB; have BK535 := n0_; have HB := n1_; have BK536 := n2_; have GW536 := n3_; have GE536 := n4_; have NB535_536 := n5_; have NB536_535 := n6_; clear n0_ n1_ n2_ n3_ n4_ n5_ n6_; clear hb hbox hg; have hnb8 := NB535_536.out; have hnc8 := NB536_535.out; have hcz9_0 : w7.cell? ⟨gb535, 0, none⟩ = some (.string a0_0) := (blk_cell BK535.out 0).trans rfl; have hcz9_1 : w7.cell? ⟨gb535, 1, none⟩ = some (.bool a0_1) := (blk_cell BK535.out 1).trans rfl; have hcz9_2 : w7.cell? ⟨gb535, 2, none⟩ = some (.slice A0_2 l0_2.length c0_2) := (blk_cell BK535.out 2).trans rfl; have hcz9_3 : w7.cell? ⟨gb535, 3, none⟩ = some (.string a0_3) := (blk_cell BK535.out 3).trans rfl; have hfz9_0 := blk_frozen BK535.out 0; have hfz9_1 := blk_frozen BK535.out 1; have hfz9_2 := blk_frozen BK535.out 2; have hfz9_3 := blk_frozen BK535.out 3; have hcz10_0 : w7.cell? ⟨gb536, 0, none⟩ = some (.string a1_0) := (blk_cell BK536.out 0).trans rfl; have hcz10_1 : w7.cell? ⟨gb536, 1, none⟩ = some (.bool a1_1) := (blk_cell BK536.out 1).trans rfl; have hcz10_2 : w7.cell? ⟨gb536, 2, none⟩ = some (.slice A1_2 l1_2.length c1_2) := (blk_cell BK536.out 2).trans rfl; have hcz10_3 : w7.cell? ⟨gb536, 3, none⟩ = some (.string a1_3) := (blk_cell BK536.out 3).trans rfl; have hfz10_0 := blk_frozen BK536.out 0; have hfz10_1 := blk_frozen BK536.out 1; have hfz10_2 := blk_frozen BK536.out 2; have hfz10_3 := blk_frozen BK536.out 3) | (go_at_call 31; (with_reducible refine (dataflowref10_SameSig.calls k a0_0 a0_1 _ _ l0_2 a0_3 a1_0 a1_1 _ _ l1_2 a1_3 t537 _ ?side1 ?side2 ?side3 ?side4 A5.out).mono ?_); (case side1 => repeat (first | exact (Kd.C_below HR0_2.out HB.out) | (with_reducible refine Kd.C_alloc ?_ _) | (with_reducible refine Kd.C_drewN ?_ _) | (with_reducible refine Kd.C_drew ?_))); (case side2 => exact HC0_2.out); (case side3 => repeat (first | exact (Kd.C_below HR1_2.out HB.out) | (with_reducible refine Kd.C_alloc ?_ _) | (with_reducible refine Kd.C_drewN ?_ _) | (with_reducible refine Kd.C_drew ?_))); (case side4 => exact HC1_2.out); rintro e w11 ⟨rfl, hb⟩; have n0_ := Aside0.mk (blk_below (g := gb535) (o := .cells #[.string a0_0, .bool a0_1, .slice A0_2 l0_2.length c0_2, .string a0_3] 37 (0, 0)) (by (with_reducible repeat first | apply bn | apply bd | apply ba); exact BK535.out) hb); have n1_ := Aside0.mk (blk_below (g := gb536) (o := .cells #[.string a1_0, .bool a1_1, .slice A1_2 l1_2.length c1_2, .string a1_3] 37 (0, 0)) (by (with_reducible repeat first | apply bn | apply bd | apply ba); exact BK536.out) hb); have n2_ := Aside0.mk (below_step (by repeat with_reducible first | exact HB.out | apply below_alloc | apply pw_below_drewN | apply below_drew1 | refine below_set ?_ GE535.out | refine below_set ?_ GE536.out) hb); clear BK535; clear BK536; clear HB; have BK535 := n0_; have BK536 := n1_; have HB := n2_; clear n0_ n1_ n2_; (try clear hb); (try clear hb2); (try clear hk); (try clear hi)))
   go_ret
   exact ⟨by first | rfl | (simp [errW_none, errW_some] <;> rfl) | (simp [*, errW_none, errW_some] <;> rfl), by repeat with_reducible first | exact HB.out | apply below_alloc | apply pw_below_drewN | apply below_drew1 | refine below_set ?_ GE535.out | refine below_set ?_ GE536.out⟩
  ·rw [if_neg c4] at H
   have c4b0 : (a0_1 == a1_1) = false := by simpa using c4
   (try (have c4b1 : decide (a0_1 = a1_1) = false := by simpa using c4))
   (try (have c4b2 : (a0_1 == a1_1) = false := by simpa using c4))
   (try (have c4b3 : ¬ (a0_1 = a1_1) := by simpa using c4))
   clear c4
   obtain rfl := Option.some.inj H
   go_enter Tryd.func19, Tryd.ntmps19
   go_wp2_with (first | ((with_reducible refine gate_dst (N := 2) rfl ?_); refine box_event ?hg (N := 2) ?hd (cs := #[.string a0_0, .bool a0_1, .slice A0_2 l0_2.length c0_2, .string a0_3]) (t := 37) ?hr ?_; (case hd => rfl); (case hg => rfl); (case hr => first | (go_simp; done) | (go_simp; rfl)); intro gb535 hg w12 hbox hb; have n0_ := Aside0.mk (below_step (by repeat with_reducible first | exact HB.out | apply below_alloc | apply pw_below_drewN | apply below_drew1) hb); have n1_ := Aside0.mk (hbox); have n2_ := Aside0.mk ((by rw [hg]; exact (below_size (by repeat with_reducible first | exact HB.out | apply below_alloc | apply pw_below_drewN | apply below_drew1)) : w.heap.size ≤ gb535)); have n3_ := Aside0.mk ((by rw [hg]; exact (below_size (by repeat with_reducible first | exact HB.out | apply below_alloc | apply pw_below_drewN | apply below_drew1)) : w.heap.size ≤ gb535)); clear HB; have HB := n0_; have BK535 := n1_; have GW535 := n2_; have GE535 := n3_; clear n0_ n1_ n2_ n3_; clear hb hbox hg) | ((with_reducible refine gate_dst (N := 3) rfl ?_); refine box_event ?hg (N := 3) ?hd (cs := #[.string a1_0, .bool a1_1, .slice A1_2 l1_2.length c1_2, .string a1_3]) (t := 37) ?hr ?_; (case hd => rfl); (case hg => rfl); (case hr => first | (go_simp; done) | (go_simp; rfl)); intro gb536 hg w13 hbox hb; have n0_ := Aside0.mk (blk_below (g := gb535) (o := .cells #[.string a0_0, .bool a0_1, .slice A0_2 l0_2.length c0_2, .string a0_3] 37 (0, 0)) (by (with_reducible repeat first | apply bn | apply bd | apply ba); exact BK535.out) hb); have n1_ := Aside0.mk (below_step (by repeat with_reducible first | exact HB.out | apply below_alloc | apply pw_below_drewN | apply below_drew1 | refine below_set ?_ GE535.out) hb); have n2_ := Aside0.mk (hbox); have n3_ := Aside0.mk ((by rw [hg]; exact (below_size (by repeat with_reducible first | exact HB.out | apply below_alloc | apply pw_below_drewN | apply below_drew1 | refine below_set ?_ GE535.out)) : w.heap.size ≤ gb536)); have n4_ := Aside0.mk ((by rw [hg]; exact (below_size (by repeat with_reducible first | exact HB.out | apply below_alloc | apply pw_below_drewN | apply below_drew1 | refine below_set ?_ GE535.out)) : w.heap.size ≤ gb536)); have n5_ := Aside0.mk ((by rw [hg]; exact Nat.ne_of_lt (blk_lt (g := gb535) (o := .cells #[.string a0_0, .bool a0_1, .slice A0_2 l0_2.length c0_2, .string a0_3] 37 (0, 0)) (by (with_reducible repeat first | apply bn | apply bd | apply ba); exact BK535.out)) : gb535 ≠ gb536)); have n6_ := Aside0.mk ((by rw [hg]; exact Nat.ne_of_gt (blk_lt (g := gb535) (o := .cells #[.string a0_0, .bool a0_1, .slice A0_2 l0_2.length c0_2, .string a0_3] 37 (0, 0)) (by (with_reducible repeat first | apply bn | apply bd | apply ba); exact BK535.out)) : gb536 ≠ gb535)); clear BK535; clear HB; have BK535 := n0_; have HB := n1_; have BK536 := n2_; have GW536 := n3_; have GE536 := n4_; have NB535_536 := n5_; have NB536_535 := n6_; clear n0_ n1_ n2_ n3_ n4_ n5_ n6_; clear hb hbox hg; have hnb14 := NB535_536.out; have hnc14 := NB536_535.out; have hcz15_0 : w13.cell? ⟨gb535, 0, none⟩ = some (.string a0_0) := (blk_cell BK535.out 0).trans rfl; have hcz15_1 : w13.cell? ⟨gb535, 1, none⟩ = some (.bool a0_1) := (blk_cell BK535.out 1).trans rfl; have hcz15_2 : w13.cell? ⟨gb535, 2, none⟩ = some (.slice A0_2 l0_2.length c0_2) := (blk_cell BK535.out 2).trans rfl; have hcz15_3 : w13.cell? ⟨gb535, 3, none⟩ = some (.string a0_3) := (blk_cell BK535.out 3).trans rfl; have hfz15_0 := blk_frozen BK535.out 0; have hfz15_1 := blk_frozen BK535.out 1; have hfz15_2 := blk_frozen BK535.out 2; have hfz15_3 := blk_frozen BK535.out 3; have hcz16_0 : w13.cell? ⟨gb536, 0, none⟩ = some (.string a1_0) := (blk_cell BK536.out 0).trans rfl; have hcz16_1 : w13.cell? ⟨gb536, 1, none⟩ = some (.bool a1_1) := (blk_cell BK536.out 1).trans rfl; have hcz16_2 : w13.cell? ⟨gb536, 2, none⟩ = some (.slice A1_2 l1_2.length c1_2) := (blk_cell BK536.out 2).trans rfl; have hcz16_3 : w13.cell? ⟨gb536, 3, none⟩ = some (.string a1_3) := (blk_cell BK536.out 3).trans rfl; have hfz16_0 := blk_frozen BK536.out 0; have hfz16_1 := blk_frozen BK536.out 1; have hfz16_2 := blk_frozen BK536.out 2; have hfz16_3 := blk_frozen BK536.out 3))
   go_ret
   exact ⟨by first | rfl | (simp [errW_none, errW_some] <;> rfl) | (simp [*, errW_none, errW_some] <;> rfl), by repeat with_reducible first | exact HB.out | apply below_alloc | apply pw_below_drewN | apply below_drew1 | refine below_set ?_ GE535.out | refine below_set ?_ GE536.out⟩
 ·rw [if_neg c3] at H
  have c3b0 : (a0_0.toList == a1_0.toList) = false := beq_eq_false_iff_ne.mpr c3
  have c3b1 : (a0_0.toList != a1_0.toList) = true := bne_iff_ne.mpr c3
  obtain rfl := Option.some.inj H
  go_enter Tryd.func19, Tryd.ntmps19
  go_wp2_with (first | ((with_reducible refine gate_dst (N := 2) rfl ?_); refine box_event ?hg (N := 2) ?hd (cs := #[.string a0_0, .bool a0_1, .slice A0_2 l0_2.length c0_2, .string a0_3]) (t := 37) ?hr ?_; (case hd => rfl); (case hg => rfl); (case hr => first | (go_simp; done) | (go_simp; rfl)); intro gb535 hg w17 hbox hb; have n0_ := Aside0.mk (below_step (by repeat with_reducible first | exact HB.out | apply below_alloc | apply pw_below_drewN | apply below_drew1) hb); have n1_ := Aside0.mk (hbox); have n2_ := Aside0.mk ((by rw [hg]; exact (below_size (by repeat with_reducible first | exact HB.out | apply below_alloc | apply pw_below_drewN | apply below_drew1)) : w.heap.size ≤ gb535)); have n3_ := Aside0.mk ((by rw [hg]; exact (below_size (by repeat with_reducible first | exact HB.out | apply below_alloc | apply pw_below_drewN | apply below_drew1)) : w.heap.size ≤ gb535)); clear HB; have HB := n0_; have BK535 := n1_; have GW535 := n2_; have GE535 := n3_; clear n0_ n1_ n2_ n3_; clear hb hbox hg) | ((with_reducible refine gate_dst (N := 3) rfl ?_); refine box_event ?hg (N := 3) ?hd (cs := #[.string a1_0, .bool a1_1, .slice A1_2 l1_2.length c1_2, .string a1_3]) (t := 37) ?hr ?_; (case hd => rfl); (case hg => rfl); (case hr => first | (go_simp; done) | (go_simp; rfl)); intro gb536 hg w18 hbox hb; have n0_ := Aside0.mk (blk_below (g := gb535) (o := .cells #[.string a0_0, .bool a0_1, .slice A0_2 l0_2.length c0_2, .string a0_3] 37 (0, 0)) (by (with_reducible repeat first | apply bn | apply bd | apply ba); exact BK535.out) hb); have n1_ := Aside0.mk (below_step (by repeat with_reducible first | exact HB.out | apply below_alloc | apply pw_below_drewN | apply below_drew1 | refine below_set ?_ GE535.out) hb); have n2_ := Aside0.mk (hbox); have n3_ := Aside0.mk ((by rw [hg]; exact (below_size (by repeat with_reducible first | exact HB.out | apply below_alloc | apply pw_below_drewN | apply below_drew1 | refine below_set ?_ GE535.out)) : w.heap.size ≤ gb536)); have n4_ := Aside0.mk ((by rw [hg]; exact (below_size (by repeat with_reducible first | exact HB.out | apply below_alloc | apply pw_below_drewN | apply below_drew1 | refine below_set ?_ GE535.out)) : w.heap.size ≤ gb536)); have n5_ := Aside0.mk ((by rw [hg]; exact Nat.ne_of_lt (blk_lt (g := gb535) (o := .cells #[.string a0_0, .bool a0_1, .slice A0_2 l0_2.length c0_2, .string a0_3] 37 (0, 0)) (by (with_reducible repeat first | apply bn | apply bd | apply ba); exact BK535.out)) : gb535 ≠ gb536)); have n6_ := Aside0.mk ((by rw [hg]; exact Nat.ne_of_gt (blk_lt (g := gb535) (o := .cells #[.string a0_0, .bool a0_1, .slice A0_2 l0_2.length c0_2, .string a0_3] 37 (0, 0)) (by (with_reducible repeat first | apply bn | apply bd | apply ba); exact BK535.out)) : gb536 ≠ gb535)); clear BK535; clear HB; have BK535 := n0_; have HB := n1_; have BK536 := n2_; have GW536 := n3_; have GE536 := n4_; have NB535_536 := n5_; have NB536_535 := n6_; clear n0_ n1_ n2_ n3_ n4_ n5_ n6_; clear hb hbox hg; have hnb19 := NB535_536.out; have hnc19 := NB536_535.out; have hcz20_0 : w18.cell? ⟨gb535, 0, none⟩ = some (.string a0_0) := (blk_cell BK535.out 0).trans rfl; have hcz20_1 : w18.cell? ⟨gb535, 1, none⟩ = some (.bool a0_1) := (blk_cell BK535.out 1).trans rfl; have hcz20_2 : w18.cell? ⟨gb535, 2, none⟩ = some (.slice A0_2 l0_2.length c0_2) := (blk_cell BK535.out 2).trans rfl; have hcz20_3 : w18.cell? ⟨gb535, 3, none⟩ = some (.string a0_3) := (blk_cell BK535.out 3).trans rfl; have hfz20_0 := blk_frozen BK535.out 0; have hfz20_1 := blk_frozen BK535.out 1; have hfz20_2 := blk_frozen BK535.out 2; have hfz20_3 := blk_frozen BK535.out 3; have hcz21_0 : w18.cell? ⟨gb536, 0, none⟩ = some (.string a1_0) := (blk_cell BK536.out 0).trans rfl; have hcz21_1 : w18.cell? ⟨gb536, 1, none⟩ = some (.bool a1_1) := (blk_cell BK536.out 1).trans rfl; have hcz21_2 : w18.cell? ⟨gb536, 2, none⟩ = some (.slice A1_2 l1_2.length c1_2) := (blk_cell BK536.out 2).trans rfl; have hcz21_3 : w18.cell? ⟨gb536, 3, none⟩ = some (.string a1_3) := (blk_cell BK536.out 3).trans rfl; have hfz21_0 := blk_frozen BK536.out 0; have hfz21_1 := blk_frozen BK536.out 1; have hfz21_2 := blk_frozen BK536.out 2; have hfz21_3 := blk_frozen BK536.out 3))
  go_ret
  exact ⟨by first | rfl | (simp [errW_none, errW_some] <;> rfl) | (simp [*, errW_none, errW_some] <;> rfl), by repeat with_reducible first | exact HB.out | apply below_alloc | apply pw_below_drewN | apply below_drew1 | refine below_set ?_ GE535.out | refine below_set ?_ GE536.out⟩

end Go.Proofs.YtkbclcecmcdlfaaDoor.PD
