/- Printed by a program of this session out of the translation: plain functions with the answers of the Go functions, and the proofs that they have them. -/
import Derived.Test.YtkbclcecmcdlfaaH2
namespace Go.Proofs.Ytkbclcecmcdlfaa.PH
open Go.RowKit Go.Proofs.YtkbclcecmcdlfaaW.PrintWords Go.Proofs.YtkbclcecmcdlfaaW.PrintLast Go.Proofs.YtkbclcecmcdlfaaW.PrintMore
attribute [local go_sem] max2_int min2_int max_two min_two max_three min_three max_four min_four   -- for this text's walks alone
set_option linter.unusedVariables false
set_option linter.unusedSimpArgs false

/-! ### hier_Lookup: function 11 -/
mutual
def hier_Lookup.l0 : Nat → ByteArray → List Int → Int → Int → List (S35) → Option (ByteArray × ByteArray × Bool × List ByteArray × ByteArray × Bool)
 | 0, _, _, _, _, _ => none
 | k + 1, x2, x23, x24, x25, x217000 => if x25 < x24 then (if 0 ≤ x25 then (if x25 < (x23.length : Int) then (if 0 ≤ (rd x23 x25) then (if (rd x23 x25) < (x217000.length : Int) then (hier_Lookup.l1 k x2 (rd x23 x25) x23 x24 x25 ((rd_T35 x217000 (rd x23 x25)).f3) (((rd_T35 x217000 (rd x23 x25)).f3).length : Int) 0 x217000) else (none)) else (none)) else (none)) else (none)) else (some ((⟨#[]⟩ : ByteArray), (⟨#[]⟩ : ByteArray), false, ([] : List ByteArray), (⟨#[]⟩ : ByteArray), false))
def hier_Lookup.l1 : Nat → ByteArray → Int → List Int → Int → Int → List (S40) → Int → Int → List (S35) → Option (ByteArray × ByteArray × Bool × List ByteArray × ByteArray × Bool)
 | 0, _, _, _, _, _, _, _, _, _ => none
 | k + 1, x2, x12, x23, x24, x25, x34, x35, x36, x217000 => if x36 < x35 then (if 0 ≤ x36 then (if x36 < (x34.length : Int) then (if ((rd_T40 x34 x36).f0).toList = x2.toList then (if 0 ≤ x12 then (if x12 < (x217000.length : Int) then ((hier_copySig.f ((rd_T40 x34 x36).f0) ((rd_T40 x34 x36).f1) ((rd_T40 x34 x36).f2) ((rd_T40 x34 x36).f3)).bind fun bt228 => (some ((rd_T35 x217000 x12).f0, bt228.1, bt228.2.1, bt228.2.2.1, bt228.2.2.2, true))) else (none)) else (none)) else (hier_Lookup.l1 k x2 x12 x23 x24 x25 x34 x35 (wrap64 (x36 + 1)) x217000)) else (none)) else (none)) else (hier_Lookup.l0 k x2 x23 x24 (wrap64 (x25 + 1)) x217000)
end
def hier_Lookup.f (k : Nat) (l0_0 : List (S35)) (a1 : ByteArray) (a2 : ByteArray) : Option (ByteArray × ByteArray × Bool × List ByteArray × ByteArray × Bool) := (hier_index.f k l0_0).bind fun t218 => ((hier_chain.f k l0_0 t218 a1).bind fun bt219 => (hier_Lookup.l0 k a2 bt219.1 (bt219.1.length : Int) 0 l0_0))
theorem hier_Lookup.mono_l : ∀ k, (∀ y0 y1 y2 y3 y4, LeO (hier_Lookup.l0 k y0 y1 y2 y3 y4) (hier_Lookup.l0 (k + 1) y0 y1 y2 y3 y4)) ∧ (∀ y0 y1 y2 y3 y4 y5 y6 y7 y8, LeO (hier_Lookup.l1 k y0 y1 y2 y3 y4 y5 y6 y7 y8) (hier_Lookup.l1 (k + 1) y0 y1 y2 y3 y4 y5 y6 y7 y8))
 | 0 => ⟨fun _ _ _ _ _ r h => by simp [hier_Lookup.l0] at h, fun _ _ _ _ _ _ _ _ _ r h => by simp [hier_Lookup.l1] at h⟩
 | k + 1 => by
  obtain ⟨ih0, ih1⟩ := hier_Lookup.mono_l k
  refine ⟨?_, ?_⟩
  ·intro y0 y1 y2 y3 y4
   unfold hier_Lookup.l0
   repeat' first
   | (with_reducible exact ih0 _ _ _ _ _)
   | (with_reducible exact ih1 _ _ _ _ _ _ _ _ _)
   | (with_reducible exact hier_chain.mono _ _ _ _)
   | (with_reducible exact hier_index.mono _ _)
   | (with_reducible exact LeO.refl _)
   | (with_reducible exact LeO.none _)
   | (with_reducible refine LeO.ite ?_ ?_)
   | (with_reducible refine LeO.bind ?_ (fun _ => ?_))
   | exact ih0 _ _ _ _ _
   | exact ih1 _ _ _ _ _ _ _ _ _
   | exact hier_chain.mono _ _ _ _
   | exact hier_index.mono _ _
   | exact LeO.none _
   | refine LeO.ite ?_ ?_
   | refine LeO.bind ?_ (fun _ => ?_)
  ·intro y0 y1 y2 y3 y4 y5 y6 y7 y8
   unfold hier_Lookup.l1
   repeat' first
   | (with_reducible exact ih0 _ _ _ _ _)
   | (with_reducible exact ih1 _ _ _ _ _ _ _ _ _)
   | (with_reducible exact hier_chain.mono _ _ _ _)
   | (with_reducible exact hier_index.mono _ _)
   | (with_reducible exact LeO.refl _)
   | (with_reducible exact LeO.none _)
   | (with_reducible refine LeO.ite ?_ ?_)
   | (with_reducible refine LeO.bind ?_ (fun _ => ?_))
   | exact ih0 _ _ _ _ _
   | exact ih1 _ _ _ _ _ _ _ _ _
   | exact hier_chain.mono _ _ _ _
   | exact hier_index.mono _ _
   | exact LeO.none _
   | refine LeO.ite ?_ ?_
   | refine LeO.bind ?_ (fun _ => ?_)
theorem hier_Lookup.mono : ∀ a0 a1 a2 k, LeO (hier_Lookup.f k a0 a1 a2) (hier_Lookup.f (k + 1) a0 a1 a2) := by
 intro a0 a1 a2 k
 obtain ⟨ih0, ih1⟩ := hier_Lookup.mono_l k
 unfold hier_Lookup.f
 repeat' first
   | (with_reducible exact ih0 _ _ _ _ _)
   | (with_reducible exact ih1 _ _ _ _ _ _ _ _ _)
   | (with_reducible exact hier_chain.mono _ _ _ _)
   | (with_reducible exact hier_index.mono _ _)
   | (with_reducible exact LeO.refl _)
   | (with_reducible exact LeO.none _)
   | (with_reducible refine LeO.ite ?_ ?_)
   | (with_reducible refine LeO.bind ?_ (fun _ => ?_))
   | exact ih0 _ _ _ _ _
   | exact ih1 _ _ _ _ _ _ _ _ _
   | exact hier_chain.mono _ _ _ _
   | exact hier_index.mono _ _
   | exact LeO.none _
   | refine LeO.ite ?_ ?_
   | refine LeO.bind ?_ (fun _ => ?_)
def hier_Lookup.T1 : Bool × List (List Nat × List Nat) := (true, [([], []), ([], []), ([1], [1]), ([], []), ([0, 2, 3, 2], [0, 2, 3]), ([4], [4]), ([5], [5]), ([5], [5]), ([6, 4, 0, 1, 2, 3, 4, 5, 6], [6]), ([7, 8, 0, 1, 2, 3, 4, 5, 6, 7, 8], [7])])
def hier_Lookup.B1 : List Nat := [0, 0, 2, 0, 15, 31, 63, 63, 127, 511]
theorem hier_Lookup.tab1 : rtab .any (opsOf Try.f11 1) = hier_Lookup.T1 := by kernel_rfl
theorem hier_Lookup.bits1 : waitsOk hier_Lookup.T1.2 hier_Lookup.B1 = true := by kernel_rfl
def hier_Lookup.T9 : Bool × List (List Nat × List Nat) := (true, [([], []), ([0], [0]), ([], []), ([1, 2], [1, 2]), ([3], [3]), ([4], [4]), ([], []), ([6], [6]), ([5, 7, 0, 1, 2, 3, 4, 5], [5]), ([7, 8, 0, 1, 2, 3, 4, 5, 6, 7, 8], [7]), ([9, 0, 1, 2, 3, 4, 5, 6, 7, 8, 9], [])])
def hier_Lookup.B9 : List Nat := [0, 1, 0, 7, 15, 31, 0, 64, 255, 511, 1023]
theorem hier_Lookup.tab9 : rtab .any (opsOf Try.f11 9) = hier_Lookup.T9 := by kernel_rfl
theorem hier_Lookup.bits9 : waitsOk hier_Lookup.T9.2 hier_Lookup.B9 = true := by kernel_rfl
set_option maxHeartbeats 8000000 in
set_option maxRecDepth 100000 in
theorem hier_Lookup.calls (k : Nat) (A0_0 : Option Addr) (c0_0 : Nat) (l0_0 : List (S35)) (a1 : ByteArray) (a2 : ByteArray) (r1 : ByteArray) (r2 : ByteArray) (r3 : Bool) (r4 : List ByteArray) (r5 : ByteArray) (r6 : Bool) (w : World) (hr0_0 : Kd.C k35 w A0_0 l0_0.length l0_0) (hc0_0 : l0_0.length ≤ c0_0) (h : hier_Lookup.f k l0_0 a1 a2 = some (r1, r2, r3, r4, r5, r6)) :
  Calls Try.prog 11 #[.agg #[.slice A0_0 l0_0.length c0_0], .string a1, .string a2] w fun e w' => ∃ v3_ : Value, e = .returned (.tuple #[.string r1, .agg #[.string r2, .bool r3, v3_, .string r5], .bool r6]) ∧ Kd.R Kd.string 9 w' w.heap.size (fun _ => True) v3_ r4 ∧ Below w.heap.size w w' := by
 have hu28 := Try.underlying28
 have hu40 := Try.underlying40
 have HR0_0 := Aside0.mk hr0_0
 have HC0_0 := Aside0.mk hc0_0
 clear hr0_0 hc0_0
 have HB := Aside0.mk (Below.refl w.heap.size w)
 have H : ((hier_index.f k l0_0).bind fun t218 => ((hier_chain.f k l0_0 t218 a1).bind fun bt219 => (hier_Lookup.l0 k a2 bt219.1 (bt219.1.length : Int) 0 l0_0))) = some (r1, r2, r3, r4, r5, r6) := h
 clear h
 replace H := Option.bind_eq_some_iff.mp H
 obtain ⟨t218, A40, H⟩ := H
 replace H : ((hier_chain.f k l0_0 t218 a1).bind fun bt219 => (hier_Lookup.l0 k a2 bt219.1 (bt219.1.length : Int) 0 l0_0)) = some (r1, r2, r3, r4, r5, r6) := H
 have A4 := Aside0.mk A40
 clear A40
 replace H := Option.bind_eq_some_iff.mp H
 obtain ⟨⟨t219, t222⟩, A50, H⟩ := H
 replace H : (hier_Lookup.l0 k a2 t219 (t219.length : Int) 0 l0_0) = some (r1, r2, r3, r4, r5, r6) := H
 have A5 := Aside0.mk A50
 clear A50
 have H' := Aside0.mk H
 clear H
 go_enter Try.func11, Try.ntmps11
 try go_wp2_with (first | ((with_reducible refine gate_dst (N := 3) rfl ?_); refine box_event ?hg (N := 3) ?hd (cs := #[.slice A0_0 l0_0.length c0_0]) (t := 28) ?hr ?_; (case hd => rfl); (case hg => rfl); (case hr => first | (go_simp; done) | (go_simp; rfl)); intro gb216 hg w6 hbox hb; have n0_ := Aside0.mk (below_step (by repeat with_reducible first | exact HB.out | apply below_alloc | apply pw_below_drewN | apply below_drew1) hb); have n1_ := Aside0.mk (hbox); have n2_ := Aside0.mk ((by rw [hg]; exact (below_size (by repeat with_reducible first | exact HB.out | apply below_alloc | apply pw_below_drewN | apply below_drew1)) : w.heap.size ≤ gb216)); have n3_ := Aside0.mk ((by rw [hg]; exact (below_size (by repeat with_reducible first | exact HB.out | apply below_alloc | apply pw_below_drewN | apply below_drew1)) : w.heap.size ≤ gb216)); clear HB; have HB := n0_; have BK216 := n1_; have GW216 := n2_; have GE216 := n3_; clear n0_ n1_ n2_ n3_; clear hb hbox hg) | ((with_reducible refine gate_dst (N := 7) rfl ?_); refine box_event ?hg (N := 7) ?hd (cs := #[.string (⟨#[]⟩ : ByteArray), .bool false, .slice none 0 0, .string (⟨#[]⟩ : ByteArray)]) (t := 40) ?hr ?_; (case hd => rfl); (case hg => rfl); (case hr => first | (go_simp; done) | (go_simp; rfl)); intro gb217 hg w7 hbox hb; have n0_ := Aside0.mk (blk_below (g := gb216) (o := .cells #[.slice A0_0 l0_0.length c0_0] 28 (0, 0)) (by (with_reducible repeat first | apply bn | apply bd | apply ba); exact BK216.out) hb); have n1_ := Aside0.mk (below_step (by repeat with_reducible first | exact HB.out | apply below_alloc | apply pw_below_drewN | apply below_drew1 | refine below_set ?_ GE216.out) hb); have n2_ := Aside0.mk (hbox); have n3_ := Aside0.mk ((by rw [hg]; exact (below_size (by repeat with_reducible first | exact HB.out | apply below_alloc | apply pw_below_drewN | apply below_drew1 | refine below_set ?_ GE216.out)) : w.heap.size ≤ gb217)); have n4_ := Aside0.mk ((by rw [hg]; exact (below_size (by repeat with_reducible first | exact HB.out | apply below_alloc | apply pw_below_drewN | apply below_drew1 | refine below_set ?_ GE216.out)) : w.heap.size ≤ gb217)); have n5_ := Aside0.mk ((by rw [hg]; exact Nat.ne_of_lt (blk_lt (g := gb216) (o := .cells #[.slice A0_0 l0_0.length c0_0] 28 (0, 0)) (by (with_reducible repeat first | apply bn | apply bd | apply ba); exact BK216.out)) : gb216 ≠ gb217)); have n6_ := Aside0.mk ((by rw [hg]; exact Nat.ne_of_gt (blk_lt (g := gb216) (o := .cells #[.slice A0_0 l0_0.length c0_0] 28 (0, 0)) (by (with_reducible repeat first | apply bn | apply bd | apply ba); exact BK216.out)) : gb217 ≠ gb216)); clear BK216; clear HB; have BK216 := n0_; have HB := n1_; have BK217 := n2_; have GW217 := n3_; have GE217 := n4_; have NB216_217 := n5_; have NB217_216 := n6_; clear n0_ n1_ n2_ n3_ n4_ n5_ n6_; clear hb hbox hg))
 have n0_ := Aside0.mk (blk_drew BK216.out)
 have n1_ := Aside0.mk (blk_drew BK217.out)
 have n2_ := Aside0.mk (below_drew1 HB.out)
 clear BK216
 clear BK217
 clear HB
 have BK216 := n0_
 have BK217 := n1_
 have HB := n2_
 clear n0_ n1_ n2_
 refine start_ (n := 10) (S := fun w' => w'.cell? ⟨gb216, 0, none⟩ = some (.slice A0_0 l0_0.length c0_0)) (ds := []) #[false, false, false, false, false, false, false, false, false, false] (by kernel_rfl) rfl rfl ((blk_cell BK216.out 0).trans rfl) (fun hHeld => ?_); refine with_tabW hier_Lookup.tab1 hier_Lookup.bits1 (fun HT_ HW_ => ?_)
 generalize w7.drew = w8 at BK216 BK217 HB hHeld ⊢
 refine pure_ (i := 3) (N := some 19) (v := ?_) (a' := ?_) #[false, false, false, true, false, false, false, false, false, false] rfl rfl (any_of HT_.out (by kernel_rfl)) (fun _ _ _ h => h) (Or.inl ⟨by rfl, ?_⟩) ?_ ?_
 rotate_left
 ·intro w'
  go_simp
  with_reducible rfl
 rotate_left
 ·simp only [Act.put, List.setIfInBounds_toArray, List.set_cons_zero, List.set_cons_succ, i64_w]
  rfl
 refine take_ (i := 0) (N := some 16) (v := ?_) (a' := ?_) #[true, false, false, true, false, false, false, false, false, false] rfl rfl (take_ofW HT_.out HW_.out (by kernel_rfl)) (fun _ _ _ h => h) (Or.inl ⟨by rfl, ?_⟩) hHeld ?_ ?_
 rotate_left
 ·intro w' s0
  go_simp
  with_reducible rfl
 rotate_left
 ·simp only [Act.put, List.setIfInBounds_toArray, List.set_cons_zero, List.set_cons_succ, i64_w]
  rfl
 refine take_ (i := 1) (N := some 17) (v := ?_) (a' := ?_) #[true, true, false, true, false, false, false, false, false, false] rfl rfl (take_ofW HT_.out HW_.out (by kernel_rfl)) (fun _ _ _ h => h) (Or.inl ⟨by rfl, ?_⟩) hHeld ?_ ?_
 rotate_left
 ·intro w' s0
  go_simp
  with_reducible rfl
 rotate_left
 ·simp only [Act.put, List.setIfInBounds_toArray, List.set_cons_zero, List.set_cons_succ, i64_w]
  rfl
 refine one_ (i := 2) (N := some 18) #[true, true, true, true, false, false, false, false, false, false] rfl rfl (one_of HT_.out (by kernel_rfl)) (by decide) (fun K hK => ?_)
 refine goes_ Try.func17 (by kernel_rfl) rfl #[.agg #[.slice A0_0 l0_0.length c0_0]] (by rfl) rfl rfl (by (try simp only [List.map_toArray, List.map_cons, List.map_nil]); first | done | rfl) ?_
 with_reducible refine (hier_index.calls k _ _ l0_0 t218 _ ?side1 ?side2 A4.out).mono ?_
 (case side1 => repeat (first | exact (Kd.C_below HR0_0.out HB.out) | (with_reducible refine Kd.C_alloc ?_ _) | (with_reducible refine Kd.C_drewN ?_ _) | (with_reducible refine Kd.C_drew ?_)))
 (case side2 => exact HC0_0.out)
 rintro e w9 ⟨bm, rfl, hM_, hb⟩
 refine ⟨_, rfl, ?_⟩
 have HMP := Aside0.mk hM_
 clear hM_
 have n0_ := Aside0.mk (blk_below (g := gb216) (o := .cells #[.slice A0_0 l0_0.length c0_0] 28 (0, 0)) (by (with_reducible repeat first | apply bn | apply bd | apply ba); exact BK216.out) hb)
 have n1_ := Aside0.mk (blk_below (g := gb217) (o := .cells #[.string (⟨#[]⟩ : ByteArray), .bool false, .slice none 0 0, .string (⟨#[]⟩ : ByteArray)] 40 (0, 0)) (by (with_reducible repeat first | apply bn | apply bd | apply ba); exact BK217.out) hb)
 have n2_ := Aside0.mk (below_step (by repeat with_reducible first | exact HB.out | apply below_alloc | apply pw_below_drewN | apply below_drew1 | refine below_set ?_ GE216.out | refine below_set ?_ GE217.out) hb)
 clear BK216
 clear BK217
 clear HB
 have BK216 := n0_
 have BK217 := n1_
 have HB := n2_
 clear n0_ n1_ n2_
 (try clear hb)
 (try clear hb2)
 (try clear hk)
 (try clear hi)
 refine hK.out _ _ ((blk_cell BK216.out 0).trans rfl) (fun hHeld => ?_)
 clear hK K
 refine norm_ (a' := ?_) ?_ ?_
 rotate_left
 ·show Act.put _ (some 18) _ = _
  simp only [Act.put, List.setIfInBounds_toArray, List.set_cons_zero, List.set_cons_succ, i64_w]
  rfl
 refine one_ (i := 4) (N := some 20) #[true, true, true, true, true, false, false, false, false, false] rfl rfl (one_of HT_.out (by kernel_rfl)) (by decide) (fun K hK => ?_)
 refine goes_ Try.func16 (by kernel_rfl) rfl #[.agg #[.slice A0_0 l0_0.length c0_0], .map (some bm), .string a1] (by rfl) rfl rfl (by (try simp only [List.map_toArray, List.map_cons, List.map_nil]); first | done | rfl) ?_
 with_reducible refine (hier_chain.calls k _ _ l0_0 t218 a1 t219 t222 _ ?side1 ?side2 ?sideM A5.out).mono ?_
 (case sideM => exact (by repeat (first | (with_reducible first | exact HMP.out | apply MapSI.Is.set | apply MapSI.Is.alloc | apply MapSI.Is.drewN | apply MapSI.Is.drew) | exact HMP.out)))
 (case side1 => repeat (first | exact (Kd.C_below HR0_0.out HB.out) | (with_reducible refine Kd.C_alloc ?_ _) | (with_reducible refine Kd.C_drewN ?_ _) | (with_reducible refine Kd.C_drew ?_)))
 (case side2 => exact HC0_0.out)
 rintro e w10 ⟨v220, rfl, ho0, hb⟩
 refine ⟨_, rfl, ?_⟩
 have n0_ := Aside0.mk (Kd.R_lower ho0 (below_size (by repeat with_reducible first | exact HB.out | apply below_alloc | apply pw_below_drewN | apply below_drew1 | refine below_set ?_ GE216.out | refine below_set ?_ GE217.out)))
 have n1_ := Aside0.mk (blk_below (g := gb216) (o := .cells #[.slice A0_0 l0_0.length c0_0] 28 (0, 0)) (by (with_reducible repeat first | apply bn | apply bd | apply ba); exact BK216.out) hb)
 have n2_ := Aside0.mk (blk_below (g := gb217) (o := .cells #[.string (⟨#[]⟩ : ByteArray), .bool false, .slice none 0 0, .string (⟨#[]⟩ : ByteArray)] 40 (0, 0)) (by (with_reducible repeat first | apply bn | apply bd | apply ba); exact BK217.out) hb)
 have n3_ := Aside0.mk (below_step (by repeat with_reducible first | exact HB.out | apply below_alloc | apply pw_below_drewN | apply below_drew1 | refine below_set ?_ GE216.out | refine below_set ?_ GE217.out) hb)
 clear BK216
 clear BK217
 clear HB
 have HO221 := n0_
 have BK216 := n1_
 have BK217 := n2_
 have HB := n3_
 clear n0_ n1_ n2_ n3_
 (try clear hb)
 (try clear hb2)
 (try clear hk)
 (try clear hi)
 (try clear ho0)
 refine hK.out _ _ ((blk_cell BK216.out 0).trans rfl) (fun hHeld => ?_)
 clear hK K
 refine norm_ (a' := ?_) ?_ ?_
 rotate_left
 ·show Act.put _ (some 20) _ = _
  simp only [Act.put, List.setIfInBounds_toArray, List.set_cons_zero, List.set_cons_succ, i64_w]
  rfl
 refine pure_ (i := 5) (N := some 15) (v := ?_) (a' := ?_) #[true, true, true, true, true, true, false, false, false, false] rfl rfl (any_of HT_.out (by kernel_rfl)) (fun _ _ _ h => h) (Or.inl ⟨by rfl, ?_⟩) ?_ ?_
 rotate_left
 ·intro w'
  go_simp
  with_reducible rfl
 rotate_left
 ·simp only [Act.put, List.setIfInBounds_toArray, List.set_cons_zero, List.set_cons_succ, i64_w]
  rfl
 refine pure_ (i := 6) (N := some 21) (v := ?_) (a' := ?_) #[true, true, true, true, true, true, true, false, false, false] rfl rfl (any_of HT_.out (by kernel_rfl)) (fun _ _ _ h => h) (Or.inl ⟨by rfl, ?_⟩) ?_ ?_
 rotate_left
 ·intro w'
  go_simp
  with_reducible rfl
 rotate_left
 ·simp only [Act.put, List.setIfInBounds_toArray, List.set_cons_zero, List.set_cons_succ, i64_w]
  rfl
 refine pure_ (i := 7) (N := some 22) (v := ?_) (a' := ?_) #[true, true, true, true, true, true, true, true, false, false] rfl rfl (any_of HT_.out (by kernel_rfl)) (fun _ _ _ h => h) (Or.inl ⟨by rfl, ?_⟩) ?_ ?_
 rotate_left
 ·intro w'
  go_simp
  with_reducible rfl
 rotate_left
 ·simp only [Act.put, List.setIfInBounds_toArray, List.set_cons_zero, List.set_cons_succ, i64_w]
  rfl
 refine pure_ (i := 8) (N := some 9) (v := ?_) (a' := ?_) #[true, true, true, true, true, true, true, true, true, false] rfl rfl (any_of HT_.out (by kernel_rfl)) (fun _ _ _ h => h) (Or.inl ⟨by rfl, ?_⟩) ?_ ?_
 rotate_left
 ·intro w'
  go_simp
  with_reducible rfl
 rotate_left
 ·simp only [Act.put, List.setIfInBounds_toArray, List.set_cons_zero, List.set_cons_succ, i64_w]
  rfl
 refine pure_ (i := 9) (N := some 10) (v := ?_) (a' := ?_) #[true, true, true, true, true, true, true, true, true, true] rfl rfl (any_of HT_.out (by kernel_rfl)) (fun _ _ _ h => h) (Or.inl ⟨by rfl, ?_⟩) ?_ ?_
 rotate_left
 ·intro w'
  go_simp
  with_reducible rfl
 rotate_left
 ·simp only [Act.put, List.setIfInBounds_toArray, List.set_cons_zero, List.set_cons_succ, i64_w]
  rfl
 refine done_ (done_of HT_.out (by kernel_rfl)) ?_
 obtain ⟨Ao11, co11, eo11⟩ := Kd.R_slice HO221.out
 subst eo11
 try go_wp2
 go_loopg [25] k (fun kq v25 w' => ∃ (x25_1 : Int) (x218000_1 : ByteArray) (x218001_1 : Bool) (x218003_1 : ByteArray), v25 = .int .i64 x25_1 ∧ Aside0 (hier_Lookup.l0 kq a2 t219 (t219.length : Int) x25_1 l0_0 = some (r1, r2, r3, r4, r5, r6)) ∧ Aside0 (kq ≤ k) ∧ Aside0 (Kd.R (Kd.int .i64) 3 w' w.heap.size (fun _ => True) (.slice Ao11 t219.length co11) t219) ∧ Aside0 (w'.heap[gb216]? = some (.cells #[(.slice A0_0 l0_0.length c0_0)] 28 (0, 0))) ∧ Aside0 (w'.heap[gb217]? = some (.cells #[.string x218000_1, .bool x218001_1, (.slice none 0 0), .string x218003_1] 40 (0, 0))) ∧ Aside0 (Below w.heap.size w w'))
 case atStart => exact ⟨(0), ((⟨#[]⟩ : ByteArray)), (false), ((⟨#[]⟩ : ByteArray)), (by first | rfl | (simp; done) | (simp [*]; done)), H', ⟨Nat.le_refl _⟩, ⟨by (with_reducible repeat first | apply Kd.R_alloc | apply Kd.R_drewN | apply Kd.R_drew); exact HO221.out⟩, ⟨by (with_reducible repeat first | apply bn | apply bd | apply ba); exact BK216.out⟩, ⟨by (with_reducible repeat first | apply bn | apply bd | apply ba); exact BK217.out⟩, ⟨by repeat with_reducible first | exact HB.out | apply below_alloc | apply pw_below_drewN | apply below_drew1 | refine below_set ?_ GE216.out | refine below_set ?_ GE217.out⟩⟩
 case round =>
  clear H'
  try clear c1
  try clear p2
  try clear c11
  obtain ⟨x25_1, x218000_1, x218001_1, x218003_1, rfl, HA, HK1, HO_23, BK216, BK217, HB⟩ := hrel
  cases gk with
  | zero => exact absurd HA.out (by simp [hier_Lookup.l0])
  | succ k1 =>
   have H := HA.out
   clear HA
   simp only [hier_Lookup.l0] at H
   by_cases c12 : x25_1 < (t219.length : Int)
   ·rw [if_pos c12] at H
    have c12b0 : decide (x25_1 < (t219.length : Int)) = true := decide_eq_true c12
    clear c12
    by_cases c13 : 0 ≤ x25_1
    ·rw [if_pos c13] at H
     have c13b0 : decide (0 ≤ x25_1) = true := decide_eq_true c13
     clear c13
     by_cases c14 : x25_1 < (t219.length : Int)
     ·rw [if_pos c14] at H
      have c14b0 : decide (x25_1 < (t219.length : Int)) = true := decide_eq_true c14
      clear c14
      by_cases c15 : 0 ≤ (rd t219 x25_1)
      ·rw [if_pos c15] at H
       have c15b0 : decide (0 ≤ (rd t219 x25_1)) = true := decide_eq_true c15
       clear c15
       by_cases c16 : (rd t219 x25_1) < (l0_0.length : Int)
       ·rw [if_pos c16] at H
        have c16b0 : decide ((rd t219 x25_1) < (l0_0.length : Int)) = true := decide_eq_true c16
        clear c16
        have H' := Aside0.mk H
        clear H
        have p223 : 0 ≤ (x25_1 : Int) := of_decide_eq_true (by first | (with_reducible assumption) | assumption)
        have q223 : x25_1 < (t219.length : Int) := of_decide_eq_true (by first | (with_reducible assumption) | assumption)
        obtain ⟨ad223, e223, hx223_0⟩ := Kd.at_int (Kd.R_reads' HO_23.out).2.2 x25_1 p223 q223
        cases e223
        replace p223 := eq_true p223
        replace q223 := eq_true q223
        have hnb17 := NB216_217.out
        have hnc17 := NB217_216.out
        have hcz18_0 : wr.cell? ⟨gb216, 0, none⟩ = some (.slice A0_0 l0_0.length c0_0) := (blk_cell BK216.out 0).trans rfl
        have hfz18_0 := blk_frozen BK216.out 0
        have p224 : 0 ≤ ((rd t219 x25_1) : Int) := of_decide_eq_true (by first | (with_reducible assumption) | assumption)
        have q224 : (rd t219 x25_1) < (l0_0.length : Int) := of_decide_eq_true (by first | (with_reducible assumption) | assumption)
        obtain ⟨ad224, A224_2, c224_2, A224_3, c224_3, e224, hx224_0, hx224_1, hx224_2, hx224_3, hl224_2, hi224_2, hl224_3, hi224_3⟩ := at_T35 HR0_0.out (rd t219 x25_1) p224 q224
        cases e224
        replace hx224_0 := (HB.out.cell (World.block_lt_of_cell? w _ hx224_0)).trans hx224_0
        replace hx224_1 := (HB.out.cell (World.block_lt_of_cell? w _ hx224_1)).trans hx224_1
        replace hx224_2 := (HB.out.cell (World.block_lt_of_cell? w _ hx224_2)).trans hx224_2
        replace hx224_3 := (HB.out.cell (World.block_lt_of_cell? w _ hx224_3)).trans hx224_3
        have HR224_2 := Aside0.mk hi224_2
        have HC224_2 := Aside0.mk hl224_2
        clear hi224_2 hl224_2
        have HR224_3 := Aside0.mk hi224_3
        have HC224_3 := Aside0.mk hl224_3
        clear hi224_3 hl224_3
        replace p224 := eq_true p224
        replace q224 := eq_true q224
        go_wp2
        go_loopg [36] k1 (fun kq v36 w' => ∃ (x36_2 : Int) (x218000_2 : ByteArray) (x218001_2 : Bool) (x218003_2 : ByteArray), v36 = .int .i64 x36_2 ∧ Aside0 (hier_Lookup.l1 kq a2 (rd t219 x25_1) t219 (t219.length : Int) x25_1 ((rd_T35 l0_0 (rd t219 x25_1)).f3) (((rd_T35 l0_0 (rd t219 x25_1)).f3).length : Int) x36_2 l0_0 = some (r1, r2, r3, r4, r5, r6)) ∧ Aside0 (kq ≤ k1) ∧ Aside0 (Kd.R (Kd.int .i64) 3 w' w.heap.size (fun _ => True) (.slice (some ad223) t219.length co11) t219) ∧ Aside0 (w'.heap[gb216]? = some (.cells #[(.slice (some ad224) l0_0.length c0_0)] 28 (0, 0))) ∧ Aside0 (w'.heap[gb217]? = some (.cells #[.string x218000_2, .bool x218001_2, (.slice none 0 0), .string x218003_2] 40 (0, 0))) ∧ Aside0 (Below w.heap.size w w'))
        case atStart => exact ⟨(0), (x218000_1), (x218001_1), (x218003_1), (by first | rfl | (simp; done) | (simp [*]; done)), H', ⟨Nat.le_refl _⟩, ⟨by (with_reducible repeat first | apply Kd.R_alloc | apply Kd.R_drewN | apply Kd.R_drew); exact HO_23.out⟩, ⟨by (with_reducible repeat first | apply bn | apply bd | apply ba); exact BK216.out⟩, ⟨by (with_reducible repeat first | apply bn | apply bd | apply ba); exact BK217.out⟩, ⟨by repeat with_reducible first | exact HB.out | apply below_alloc | apply pw_below_drewN | apply below_drew1 | refine below_set ?_ GE216.out | refine below_set ?_ GE217.out⟩⟩
        case round =>
         clear H'
         try clear c1
         try clear c2
         try clear p2
         try clear q2
         try clear hx2
         try clear c11
         try clear c12
         try clear c12b0
         try clear c13
         try clear c13b0
         try clear c14
         try clear c14b0
         try clear c15
         try clear c15b0
         try clear c16
         try clear c16b0
         try clear c17
         try clear hcz18_0
         try clear hfz18_0
         try clear hx223_0
         try clear hx224_0
         try clear hx224_1
         try clear hx224_2
         try clear hx224_3
         try clear p2
         try clear p223
         try clear p224
         try clear q223
         try clear q224
         obtain ⟨x36_2, x218000_2, x218001_2, x218003_2, rfl, HA, HK2, HO_23, BK216, BK217, HB⟩ := hrel
         cases gk with
         | zero => exact absurd HA.out (by simp [hier_Lookup.l1])
         | succ k2 =>
          have H := HA.out
          clear HA
          simp only [hier_Lookup.l1] at H
          by_cases c19 : x36_2 < (((rd_T35 l0_0 (rd t219 x25_1)).f3).length : Int)
          ·rw [if_pos c19] at H
           have c19b0 : decide (x36_2 < (((rd_T35 l0_0 (rd t219 x25_1)).f3).length : Int)) = true := decide_eq_true c19
           clear c19
           by_cases c20 : 0 ≤ x36_2
           ·rw [if_pos c20] at H
            have c20b0 : decide (0 ≤ x36_2) = true := decide_eq_true c20
            clear c20
            by_cases c21 : x36_2 < (((rd_T35 l0_0 (rd t219 x25_1)).f3).length : Int)
            ·rw [if_pos c21] at H
             have c21b0 : decide (x36_2 < (((rd_T35 l0_0 (rd t219 x25_1)).f3).length : Int)) = true := decide_eq_true c21
             clear c21
             by_cases c22 : ((rd_T40 ((rd_T35 l0_0 (rd t219 x25_1)).f3) x36_2).f0).toList = a2.toList
             ·rw [if_pos c22] at H
              have c22b0 : (((rd_T40 ((rd_T35 l0_0 (rd t219 x25_1)).f3) x36_2).f0).toList == a2.toList) = true := beq_iff_eq.mpr c22
              have c22b1 : (((rd_T40 ((rd_T35 l0_0 (rd t219 x25_1)).f3) x36_2).f0).toList != a2.toList) = false := bne_eq_false_iff_eq.mpr c22
              clear c22
              by_cases c23 : 0 ≤ (rd t219 x25_1)
              ·rw [if_pos c23] at H
               have c23b0 : decide (0 ≤ (rd t219 x25_1)) = true := decide_eq_true c23
               clear c23
               by_cases c24 : (rd t219 x25_1) < (l0_0.length : Int)
               ·rw [if_pos c24] at H
                have c24b0 : decide ((rd t219 x25_1) < (l0_0.length : Int)) = true := decide_eq_true c24
                clear c24
                replace H := Option.bind_eq_some_iff.mp H
                obtain ⟨⟨t228, t229, t230, t233⟩, A250, H⟩ := H
                replace H : (some ((rd_T35 l0_0 (rd t219 x25_1)).f0, t228, t229, t230, t233, true)) = some (r1, r2, r3, r4, r5, r6) := H
                have A25 := Aside0.mk A250
                clear A250
                simp only [Option.some.injEq, Prod.mk.injEq] at H
                obtain ⟨rfl, rfl, rfl, rfl, rfl, rfl⟩ := H
                have p225 : 0 ≤ (x36_2 : Int) := of_decide_eq_true (by first | (with_reducible assumption) | assumption)
                have q225 : x36_2 < (((rd_T35 l0_0 (rd t219 x25_1)).f3).length : Int) := of_decide_eq_true (by first | (with_reducible assumption) | assumption)
                obtain ⟨ad225, A225_2, c225_2, e225, hx225_0, hx225_1, hx225_2, hx225_3, hl225_2, hi225_2⟩ := at_T40 HR224_3.out x36_2 p225 q225
                cases e225
                replace hx225_0 := (HB.out.cell (World.block_lt_of_cell? w _ hx225_0)).trans hx225_0
                replace hx225_1 := (HB.out.cell (World.block_lt_of_cell? w _ hx225_1)).trans hx225_1
                replace hx225_2 := (HB.out.cell (World.block_lt_of_cell? w _ hx225_2)).trans hx225_2
                replace hx225_3 := (HB.out.cell (World.block_lt_of_cell? w _ hx225_3)).trans hx225_3
                have HR225_2 := Aside0.mk hi225_2
                have HC225_2 := Aside0.mk hl225_2
                clear hi225_2 hl225_2
                replace p225 := eq_true p225
                replace q225 := eq_true q225
                try go_wp2_with (first | ((with_reducible refine gate_dst (N := 14) rfl ?_); refine box_event ?hg (N := 14) ?hd (cs := #[.string (⟨#[]⟩ : ByteArray), .bool false, .slice none 0 0, .string (⟨#[]⟩ : ByteArray)]) (t := 40) ?hr ?_; (case hd => rfl); (case hg => rfl); (case hr => first | (go_simp; done) | (go_simp; rfl)); intro gb226 hg w26 hbox hb; have n0_ := Aside0.mk (Kd.R_below (by (with_reducible repeat first | apply Kd.R_alloc | apply Kd.R_drewN | apply Kd.R_drew); exact HO_23.out) hb); have n1_ := Aside0.mk (blk_below (g := gb216) (o := .cells #[.slice (some ad224) l0_0.length c0_0] 28 (0, 0)) (by (with_reducible repeat first | apply bn | apply bd | apply ba); exact BK216.out) hb); have n2_ := Aside0.mk (blk_below (g := gb217) (o := .cells #[.string x218000_2, .bool x218001_2, .slice none 0 0, .string x218003_2] 40 (0, 0)) (by (with_reducible repeat first | apply bn | apply bd | apply ba); exact BK217.out) hb); have n3_ := Aside0.mk (below_step (by repeat with_reducible first | exact HB.out | apply below_alloc | apply pw_below_drewN | apply below_drew1 | refine below_set ?_ GE216.out | refine below_set ?_ GE217.out) hb); have n4_ := Aside0.mk (hbox); have n5_ := Aside0.mk ((by rw [hg]; exact (below_size (by repeat with_reducible first | exact HB.out | apply below_alloc | apply pw_below_drewN | apply below_drew1 | refine below_set ?_ GE216.out | refine below_set ?_ GE217.out)) : w.heap.size ≤ gb226)); have n6_ := Aside0.mk ((by rw [hg]; exact (below_size (by repeat with_reducible first | exact HB.out | apply below_alloc | apply pw_below_drewN | apply below_drew1 | refine below_set ?_ GE216.out | refine below_set ?_ GE217.out)) : w.heap.size ≤ gb226)); have n7_ := Aside0.mk ((by rw [hg]; exact Nat.ne_of_lt (blk_lt (g := gb216) (o := .cells #[.slice (some ad224) l0_0.length c0_0] 28 (0, 0)) (by (with_reducible repeat first | apply bn | apply bd | apply ba); exact BK216.out)) : gb216 ≠ gb226)); have n8_ := Aside0.mk ((by rw [hg]; exact Nat.ne_of_gt (blk_lt (g := gb216) (o := .cells #[.slice (some ad224) l0_0.length c0_0] 28 (0, 0)) (by (with_reducible repeat first | apply bn | apply bd | apply ba); exact BK216.out)) : gb226 ≠ gb216)); have n9_ := Aside0.mk ((by rw [hg]; exact Nat.ne_of_lt (blk_lt (g := gb217) (o := .cells #[.string x218000_2, .bool x218001_2, .slice none 0 0, .string x218003_2] 40 (0, 0)) (by (with_reducible repeat first | apply bn | apply bd | apply ba); exact BK217.out)) : gb217 ≠ gb226)); have n10_ := Aside0.mk ((by rw [hg]; exact Nat.ne_of_gt (blk_lt (g := gb217) (o := .cells #[.string x218000_2, .bool x218001_2, .slice none 0 0, .string x218003_2] 40 (0, 0)) (by (with_reducible repeat first | apply bn | apply bd | apply ba); exact BK217.out)) : gb226 ≠ gb217)); clear HO_23; clear BK216; clear BK217; clear HB; have HO_23 := n0_; have BK216 := n1_; have BK217 := n2_; have HB := n3_; have BK226 := n4_; have GW226 := n5_; have GE226 := n6_; have NB216_226 := n7_; have NB226_216 := n8_; have NB217_226 := n9_; have NB226_217 := n10_; clear n0_ n1_ n2_ n3_ n4_ n5_ n6_ n7_ n8_ n9_ n10_; clear hb hbox hg; have hnb27 := NB226_216.out; have hnc27 := NB216_226.out; have hnb28 := NB226_217.out; have hnc28 := NB217_226.out; have hcz29_0 : w26.cell? ⟨gb226, 0, none⟩ = some (.string (⟨#[]⟩ : ByteArray)) := (blk_cell BK226.out 0).trans rfl; have hcz29_1 : w26.cell? ⟨gb226, 1, none⟩ = some (.bool false) := (blk_cell BK226.out 1).trans rfl; have hcz29_2 : w26.cell? ⟨gb226, 2, none⟩ = some (.slice none 0 0) := (blk_cell BK226.out 2).trans rfl; have hcz29_3 : w26.cell? ⟨gb226, 3, none⟩ = some (.string (⟨#[]⟩ : ByteArray)) := (blk_cell BK226.out 3).trans rfl; have hfz29_0 := blk_frozen BK226.out 0; have hfz29_1 := blk_frozen BK226.out 1; have hfz29_2 := blk_frozen BK226.out 2; have hfz29_3 := blk_frozen BK226.out 3))
                have n0_ : Aside0 (Kd.R (Kd.int .i64) 3 ((((w26.setCell ⟨gb226, 0, none⟩ (.string ((rd_T40 ((rd_T35 l0_0 (rd t219 x25_1)).f3) x36_2).f0))).setCell ⟨gb226, 1, none⟩ (.bool ((rd_T40 ((rd_T35 l0_0 (rd t219 x25_1)).f3) x36_2).f1))).setCell ⟨gb226, 2, none⟩ (.slice A225_2 ((rd_T40 ((rd_T35 l0_0 (rd t219 x25_1)).f3) x36_2).f2).length c225_2)).setCell ⟨gb226, 3, none⟩ (.string ((rd_T40 ((rd_T35 l0_0 (rd t219 x25_1)).f3) x36_2).f3))) w.heap.size (fun _ => True) (.slice (some ad223) t219.length co11) t219) := ⟨by (with_reducible repeat first | apply Kd.R_alloc | apply Kd.R_drewN | apply Kd.R_drew); exact Kd.R_mono (Kd.R_far (p := ⟨gb226, 3, none⟩) (Kd.R_far (p := ⟨gb226, 2, none⟩) (Kd.R_far (p := ⟨gb226, 1, none⟩) (Kd.R_far (p := ⟨gb226, 0, none⟩) (Kd.R_types HO_23.out BK226.out (by decide)) (fun _ hk => hk.2) (.string ((rd_T40 ((rd_T35 l0_0 (rd t219 x25_1)).f3) x36_2).f0))) (fun _ hk => hk.2) (.bool ((rd_T40 ((rd_T35 l0_0 (rd t219 x25_1)).f3) x36_2).f1))) (fun _ hk => hk.2) (.slice A225_2 ((rd_T40 ((rd_T35 l0_0 (rd t219 x25_1)).f3) x36_2).f2).length c225_2)) (fun _ hk => hk.2) (.string ((rd_T40 ((rd_T35 l0_0 (rd t219 x25_1)).f3) x36_2).f3))) (fun _ hk => trivial)⟩
                have n1_ : Aside0 (((((w26.setCell ⟨gb226, 0, none⟩ (.string ((rd_T40 ((rd_T35 l0_0 (rd t219 x25_1)).f3) x36_2).f0))).setCell ⟨gb226, 1, none⟩ (.bool ((rd_T40 ((rd_T35 l0_0 (rd t219 x25_1)).f3) x36_2).f1))).setCell ⟨gb226, 2, none⟩ (.slice A225_2 ((rd_T40 ((rd_T35 l0_0 (rd t219 x25_1)).f3) x36_2).f2).length c225_2)).setCell ⟨gb226, 3, none⟩ (.string ((rd_T40 ((rd_T35 l0_0 (rd t219 x25_1)).f3) x36_2).f3))).heap[gb216]? = some (.cells #[.slice (some ad224) l0_0.length c0_0] 28 (0, 0))) := ⟨by (with_reducible repeat first | apply bn | apply bd | apply ba); refine blk_far ?_ NB216_226.out _; refine blk_far ?_ NB216_226.out _; refine blk_far ?_ NB216_226.out _; refine blk_far ?_ NB216_226.out _; (with_reducible repeat first | apply bn | apply bd | apply ba); exact BK216.out⟩
                have n2_ : Aside0 (((((w26.setCell ⟨gb226, 0, none⟩ (.string ((rd_T40 ((rd_T35 l0_0 (rd t219 x25_1)).f3) x36_2).f0))).setCell ⟨gb226, 1, none⟩ (.bool ((rd_T40 ((rd_T35 l0_0 (rd t219 x25_1)).f3) x36_2).f1))).setCell ⟨gb226, 2, none⟩ (.slice A225_2 ((rd_T40 ((rd_T35 l0_0 (rd t219 x25_1)).f3) x36_2).f2).length c225_2)).setCell ⟨gb226, 3, none⟩ (.string ((rd_T40 ((rd_T35 l0_0 (rd t219 x25_1)).f3) x36_2).f3))).heap[gb217]? = some (.cells #[.string x218000_2, .bool x218001_2, .slice none 0 0, .string x218003_2] 40 (0, 0))) := ⟨by (with_reducible repeat first | apply bn | apply bd | apply ba); refine blk_far ?_ NB217_226.out _; refine blk_far ?_ NB217_226.out _; refine blk_far ?_ NB217_226.out _; refine blk_far ?_ NB217_226.out _; (with_reducible repeat first | apply bn | apply bd | apply ba); exact BK217.out⟩
                have n3_ : Aside0 (((((w26.setCell ⟨gb226, 0, none⟩ (.string ((rd_T40 ((rd_T35 l0_0 (rd t219 x25_1)).f3) x36_2).f0))).setCell ⟨gb226, 1, none⟩ (.bool ((rd_T40 ((rd_T35 l0_0 (rd t219 x25_1)).f3) x36_2).f1))).setCell ⟨gb226, 2, none⟩ (.slice A225_2 ((rd_T40 ((rd_T35 l0_0 (rd t219 x25_1)).f3) x36_2).f2).length c225_2)).setCell ⟨gb226, 3, none⟩ (.string ((rd_T40 ((rd_T35 l0_0 (rd t219 x25_1)).f3) x36_2).f3))).heap[gb226]? = some (.cells #[.string ((rd_T40 ((rd_T35 l0_0 (rd t219 x25_1)).f3) x36_2).f0), .bool ((rd_T40 ((rd_T35 l0_0 (rd t219 x25_1)).f3) x36_2).f1), .slice A225_2 ((rd_T40 ((rd_T35 l0_0 (rd t219 x25_1)).f3) x36_2).f2).length c225_2, .string ((rd_T40 ((rd_T35 l0_0 (rd t219 x25_1)).f3) x36_2).f3)] 40 (0, 0))) := ⟨by (with_reducible repeat first | apply bn | apply bd | apply ba); refine blk_put (cs := #[.string ((rd_T40 ((rd_T35 l0_0 (rd t219 x25_1)).f3) x36_2).f0), .bool ((rd_T40 ((rd_T35 l0_0 (rd t219 x25_1)).f3) x36_2).f1), .slice A225_2 ((rd_T40 ((rd_T35 l0_0 (rd t219 x25_1)).f3) x36_2).f2).length c225_2, .string (⟨#[]⟩ : ByteArray)]) ?_ 3 _ rfl; refine blk_put (cs := #[.string ((rd_T40 ((rd_T35 l0_0 (rd t219 x25_1)).f3) x36_2).f0), .bool ((rd_T40 ((rd_T35 l0_0 (rd t219 x25_1)).f3) x36_2).f1), .slice none 0 0, .string (⟨#[]⟩ : ByteArray)]) ?_ 2 _ rfl; refine blk_put (cs := #[.string ((rd_T40 ((rd_T35 l0_0 (rd t219 x25_1)).f3) x36_2).f0), .bool false, .slice none 0 0, .string (⟨#[]⟩ : ByteArray)]) ?_ 1 _ rfl; refine blk_put (cs := #[.string (⟨#[]⟩ : ByteArray), .bool false, .slice none 0 0, .string (⟨#[]⟩ : ByteArray)]) ?_ 0 _ rfl; (with_reducible repeat first | apply bn | apply bd | apply ba); exact BK226.out⟩
                have n4_ : Aside0 (Below w.heap.size w ((((w26.setCell ⟨gb226, 0, none⟩ (.string ((rd_T40 ((rd_T35 l0_0 (rd t219 x25_1)).f3) x36_2).f0))).setCell ⟨gb226, 1, none⟩ (.bool ((rd_T40 ((rd_T35 l0_0 (rd t219 x25_1)).f3) x36_2).f1))).setCell ⟨gb226, 2, none⟩ (.slice A225_2 ((rd_T40 ((rd_T35 l0_0 (rd t219 x25_1)).f3) x36_2).f2).length c225_2)).setCell ⟨gb226, 3, none⟩ (.string ((rd_T40 ((rd_T35 l0_0 (rd t219 x25_1)).f3) x36_2).f3)))) := ⟨by repeat with_reducible first | exact HB.out | apply below_alloc | apply pw_below_drewN | apply below_drew1 | refine below_set ?_ GE216.out | refine below_set ?_ GE217.out | refine below_set ?_ GE226.out⟩
                (try clear HO_23)
                (try clear BK216)
                (try clear BK217)
                (try clear BK226)
                (try clear HB)
                generalize ((((w26.setCell ⟨gb226, 0, none⟩ (.string ((rd_T40 ((rd_T35 l0_0 (rd t219 x25_1)).f3) x36_2).f0))).setCell ⟨gb226, 1, none⟩ (.bool ((rd_T40 ((rd_T35 l0_0 (rd t219 x25_1)).f3) x36_2).f1))).setCell ⟨gb226, 2, none⟩ (.slice A225_2 ((rd_T40 ((rd_T35 l0_0 (rd t219 x25_1)).f3) x36_2).f2).length c225_2)).setCell ⟨gb226, 3, none⟩ (.string ((rd_T40 ((rd_T35 l0_0 (rd t219 x25_1)).f3) x36_2).f3))) = w30 at n0_ n1_ n2_ n3_ n4_ ⊢
                have HO_23 := n0_
                have BK216 := n1_
                have BK217 := n2_
                have BK226 := n3_
                have HB := n4_
                clear n0_ n1_ n2_ n3_ n4_
                have n0_ := Aside0.mk (Kd.R_drew HO_23.out)
                have n1_ := Aside0.mk (blk_drew BK216.out)
                have n2_ := Aside0.mk (blk_drew BK217.out)
                have n3_ := Aside0.mk (blk_drew BK226.out)
                have n4_ := Aside0.mk (below_drew1 HB.out)
                clear HO_23
                clear BK216
                clear BK217
                clear BK226
                clear HB
                have HO_23 := n0_
                have BK216 := n1_
                have BK217 := n2_
                have BK226 := n3_
                have HB := n4_
                clear n0_ n1_ n2_ n3_ n4_
                have p227 : 0 ≤ ((rd t219 x25_1) : Int) := of_decide_eq_true (by first | (with_reducible assumption) | assumption)
                have q227 : (rd t219 x25_1) < (l0_0.length : Int) := of_decide_eq_true (by first | (with_reducible assumption) | assumption)
                obtain ⟨ad227, A227_2, c227_2, A227_3, c227_3, e227, hx227_0, hx227_1, hx227_2, hx227_3, hl227_2, hi227_2, hl227_3, hi227_3⟩ := at_T35 HR0_0.out (rd t219 x25_1) p227 q227
                have hw227_3 := hx227_3
                have hw227_2 := hx227_2
                have hw227_1 := hx227_1
                have hw227_0 := hx227_0
                obtain rfl : ad224 = ad227 := (by injection e227)
                replace hx227_0 := (HB.out.cell (World.block_lt_of_cell? w _ hx227_0)).trans hx227_0
                replace hx227_1 := (HB.out.cell (World.block_lt_of_cell? w _ hx227_1)).trans hx227_1
                replace hx227_2 := (HB.out.cell (World.block_lt_of_cell? w _ hx227_2)).trans hx227_2
                replace hx227_3 := (HB.out.cell (World.block_lt_of_cell? w _ hx227_3)).trans hx227_3
                have HR227_2 := Aside0.mk hi227_2
                have HC227_2 := Aside0.mk hl227_2
                clear hi227_2 hl227_2
                have HR227_3 := Aside0.mk hi227_3
                have HC227_3 := Aside0.mk hl227_3
                clear hi227_3 hl227_3
                replace p227 := eq_true p227
                replace q227 := eq_true q227
                refine start_ (n := 11) (S := fun w' => w'.cell? ⟨gb216, 0, none⟩ = some (.slice (some ad224) l0_0.length c0_0) ∧ w'.cell? ⟨gb226, 0, none⟩ = some (.string ((rd_T40 ((rd_T35 l0_0 (rd t219 x25_1)).f3) x36_2).f0)) ∧ w'.cell? ⟨gb226, 1, none⟩ = some (.bool ((rd_T40 ((rd_T35 l0_0 (rd t219 x25_1)).f3) x36_2).f1)) ∧ w'.cell? ⟨gb226, 2, none⟩ = some (.slice A225_2 ((rd_T40 ((rd_T35 l0_0 (rd t219 x25_1)).f3) x36_2).f2).length c225_2) ∧ w'.cell? ⟨gb226, 3, none⟩ = some (.string ((rd_T40 ((rd_T35 l0_0 (rd t219 x25_1)).f3) x36_2).f3)) ∧ w'.cell? (ad224.add (((rd t219 x25_1)).toNat * 4)) = some (.string ((rd_T35 l0_0 (rd t219 x25_1)).f0)) ∧ w'.cell? ⟨(ad224.add (((rd t219 x25_1)).toNat * 4)).block, (ad224.add (((rd t219 x25_1)).toNat * 4)).off + 1, none⟩ = some (.string ((rd_T35 l0_0 (rd t219 x25_1)).f1)) ∧ w'.cell? ⟨(ad224.add (((rd t219 x25_1)).toNat * 4)).block, (ad224.add (((rd t219 x25_1)).toNat * 4)).off + 2, none⟩ = some (.slice A227_2 ((rd_T35 l0_0 (rd t219 x25_1)).f2).length c227_2) ∧ w'.cell? ⟨(ad224.add (((rd t219 x25_1)).toNat * 4)).block, (ad224.add (((rd t219 x25_1)).toNat * 4)).off + 3, none⟩ = some (.slice A227_3 ((rd_T35 l0_0 (rd t219 x25_1)).f3).length c227_3)) (ds := []) #[false, false, false, false, false, false, false, false, false, false, false] (by kernel_rfl) rfl rfl ⟨(blk_cell BK216.out 0).trans rfl, (blk_cell BK226.out 0).trans rfl, (blk_cell BK226.out 1).trans rfl, (blk_cell BK226.out 2).trans rfl, (blk_cell BK226.out 3).trans rfl, ((HB.out.cell (World.block_lt_of_cell? w _ hw227_0)).trans hw227_0), ((HB.out.cell (World.block_lt_of_cell? w _ hw227_1)).trans hw227_1), ((HB.out.cell (World.block_lt_of_cell? w _ hw227_2)).trans hw227_2), ((HB.out.cell (World.block_lt_of_cell? w _ hw227_3)).trans hw227_3)⟩ (fun hHeld => ?_); refine with_tabW hier_Lookup.tab9 hier_Lookup.bits9 (fun HT_ HW_ => ?_)
                generalize w30.drew = w31 at HO_23 BK216 BK217 BK226 HB HR227_2 HR227_3 hx227_0 hx227_1 hx227_2 hx227_3 hHeld ⊢
                refine pure_ (i := 0) (N := some 44) (v := ?_) (a' := ?_) #[true, false, false, false, false, false, false, false, false, false, false] rfl rfl (any_of HT_.out (by kernel_rfl)) (fun _ _ _ h => h) (Or.inl ⟨by rfl, ?_⟩) ?_ ?_
                rotate_left
                ·intro w'
                 go_simp
                 with_reducible rfl
                rotate_left
                ·simp only [Act.put, List.setIfInBounds_toArray, List.set_cons_zero, List.set_cons_succ, i64_w]
                 rfl
                refine pure_ (i := 2) (N := some 46) (v := ?_) (a' := ?_) #[true, false, true, false, false, false, false, false, false, false, false] rfl rfl (any_of HT_.out (by kernel_rfl)) (fun _ _ _ h => h) (Or.inl ⟨by rfl, ?_⟩) ?_ ?_
                rotate_left
                ·intro w'
                 go_simp
                 with_reducible rfl
                rotate_left
                ·simp only [Act.put, List.setIfInBounds_toArray, List.set_cons_zero, List.set_cons_succ, i64_w]
                 rfl
                refine take_ (i := 1) (N := some 45) (v := ?_) (a' := ?_) #[true, true, true, false, false, false, false, false, false, false, false] rfl rfl (take_ofW HT_.out HW_.out (by kernel_rfl)) (fun _ _ _ h => h) (Or.inl ⟨by rfl, ?_⟩) hHeld ?_ ?_
                rotate_left
                ·rintro w' ⟨s0, s1, s2, s3, s4, s5, s6, s7, s8⟩
                 go_simp
                 with_reducible rfl
                rotate_left
                ·simp only [Act.put, List.setIfInBounds_toArray, List.set_cons_zero, List.set_cons_succ, i64_w]
                 rfl
                refine pure_ (i := 3) (N := some 47) (v := ?_) (a' := ?_) #[true, true, true, true, false, false, false, false, false, false, false] rfl rfl (any_of HT_.out (by kernel_rfl)) (fun _ _ _ h => h) (Or.inl ⟨by rfl, ?_⟩) ?_ ?_
                rotate_left
                ·intro w'
                 go_simp
                 with_reducible rfl
                rotate_left
                ·simp only [Act.put, List.setIfInBounds_toArray, List.set_cons_zero, List.set_cons_succ, i64_w]
                 rfl
                refine pure_ (i := 4) (N := some 48) (v := ?_) (a' := ?_) #[true, true, true, true, true, false, false, false, false, false, false] rfl rfl (any_of HT_.out (by kernel_rfl)) (fun _ _ _ h => h) (Or.inl ⟨by rfl, ?_⟩) ?_ ?_
                rotate_left
                ·intro w'
                 go_simp
                 with_reducible rfl
                rotate_left
                ·simp only [Act.put, List.setIfInBounds_toArray, List.set_cons_zero, List.set_cons_succ, i64_w]
                 rfl
                refine take_ (i := 5) (N := some 49) (v := ?_) (a' := ?_) #[true, true, true, true, true, true, false, false, false, false, false] rfl rfl (take_ofW HT_.out HW_.out (by kernel_rfl)) (fun _ _ _ h => h) (Or.inl ⟨by rfl, ?_⟩) hHeld ?_ ?_
                rotate_left
                ·rintro w' ⟨s0, s1, s2, s3, s4, s5, s6, s7, s8⟩
                 go_simp
                 with_reducible rfl
                rotate_left
                ·simp only [Act.put, List.setIfInBounds_toArray, List.set_cons_zero, List.set_cons_succ, i64_w]
                 rfl
                refine take_ (i := 6) (N := some 50) (v := ?_) (a' := ?_) #[true, true, true, true, true, true, true, false, false, false, false] rfl rfl (take_ofW HT_.out HW_.out (by kernel_rfl)) (fun _ _ _ h => h) (Or.inl ⟨by rfl, ?_⟩) hHeld ?_ ?_
                rotate_left
                ·rintro w' ⟨s0, s1, s2, s3, s4, s5, s6, s7, s8⟩
                 go_simp
                 with_reducible rfl
                rotate_left
                ·simp only [Act.put, List.setIfInBounds_toArray, List.set_cons_zero, List.set_cons_succ, i64_w]
                 rfl
                refine one_ (i := 7) (N := some 51) #[true, true, true, true, true, true, true, true, false, false, false] rfl rfl (one_of HT_.out (by kernel_rfl)) (by decide) (fun K hK => ?_)
                refine goes_ Try.func18 (by kernel_rfl) rfl #[.agg #[.string ((rd_T40 ((rd_T35 l0_0 (rd t219 x25_1)).f3) x36_2).f0), .bool ((rd_T40 ((rd_T35 l0_0 (rd t219 x25_1)).f3) x36_2).f1), .slice A225_2 ((rd_T40 ((rd_T35 l0_0 (rd t219 x25_1)).f3) x36_2).f2).length c225_2, .string ((rd_T40 ((rd_T35 l0_0 (rd t219 x25_1)).f3) x36_2).f3)]] (by rfl) rfl rfl (by (try simp only [List.map_toArray, List.map_cons, List.map_nil]); first | done | rfl) ?_
                with_reducible refine (hier_copySig.calls ((rd_T40 ((rd_T35 l0_0 (rd t219 x25_1)).f3) x36_2).f0) ((rd_T40 ((rd_T35 l0_0 (rd t219 x25_1)).f3) x36_2).f1) _ _ ((rd_T40 ((rd_T35 l0_0 (rd t219 x25_1)).f3) x36_2).f2) ((rd_T40 ((rd_T35 l0_0 (rd t219 x25_1)).f3) x36_2).f3) t228 t229 t230 t233 _ ?side1 ?side2 A25.out).mono ?_
                (case side1 => repeat (first | exact (Kd.C_below HR225_2.out HB.out) | (with_reducible refine Kd.C_alloc ?_ _) | (with_reducible refine Kd.C_drewN ?_ _) | (with_reducible refine Kd.C_drew ?_)))
                (case side2 => exact HC225_2.out)
                rintro e w32 ⟨v231, rfl, ho0, hb⟩
                refine ⟨_, rfl, ?_⟩
                have n0_ := Aside0.mk (Kd.R_below (by (with_reducible repeat first | apply Kd.R_alloc | apply Kd.R_drewN | apply Kd.R_drew); exact HO_23.out) hb)
                have n1_ := Aside0.mk (Kd.R_lower ho0 (below_size (by repeat with_reducible first | exact HB.out | apply below_alloc | apply pw_below_drewN | apply below_drew1 | refine below_set ?_ GE216.out | refine below_set ?_ GE217.out | refine below_set ?_ GE226.out)))
                have n2_ := Aside0.mk (blk_below (g := gb216) (o := .cells #[.slice (some ad224) l0_0.length c0_0] 28 (0, 0)) (by (with_reducible repeat first | apply bn | apply bd | apply ba); exact BK216.out) hb)
                have n3_ := Aside0.mk (blk_below (g := gb217) (o := .cells #[.string x218000_2, .bool x218001_2, .slice none 0 0, .string x218003_2] 40 (0, 0)) (by (with_reducible repeat first | apply bn | apply bd | apply ba); exact BK217.out) hb)
                have n4_ := Aside0.mk (blk_below (g := gb226) (o := .cells #[.string ((rd_T40 ((rd_T35 l0_0 (rd t219 x25_1)).f3) x36_2).f0), .bool ((rd_T40 ((rd_T35 l0_0 (rd t219 x25_1)).f3) x36_2).f1), .slice A225_2 ((rd_T40 ((rd_T35 l0_0 (rd t219 x25_1)).f3) x36_2).f2).length c225_2, .string ((rd_T40 ((rd_T35 l0_0 (rd t219 x25_1)).f3) x36_2).f3)] 40 (0, 0)) (by (with_reducible repeat first | apply bn | apply bd | apply ba); exact BK226.out) hb)
                have n5_ := Aside0.mk (below_step (by repeat with_reducible first | exact HB.out | apply below_alloc | apply pw_below_drewN | apply below_drew1 | refine below_set ?_ GE216.out | refine below_set ?_ GE217.out | refine below_set ?_ GE226.out) hb)
                clear HO_23
                clear BK216
                clear BK217
                clear BK226
                clear HB
                have HO_23 := n0_
                have HO232 := n1_
                have BK216 := n2_
                have BK217 := n3_
                have BK226 := n4_
                have HB := n5_
                clear n0_ n1_ n2_ n3_ n4_ n5_
                (try clear hb)
                (try clear hb2)
                (try clear hk)
                (try clear hi)
                (try clear ho0)
                obtain ⟨Ao35, co35, eo35⟩ := Kd.R_slice HO232.out
                (first | subst eo35 | (injection eo35 with f1_ f2_ f3_; have f4_ := f1_.symm; have f5_ := f3_.symm; clear f1_ f2_ f3_; subst f4_; subst f5_))
                refine hK.out _ _ ⟨(blk_cell BK216.out 0).trans rfl, (blk_cell BK226.out 0).trans rfl, (blk_cell BK226.out 1).trans rfl, (blk_cell BK226.out 2).trans rfl, (blk_cell BK226.out 3).trans rfl, ((HB.out.cell (World.block_lt_of_cell? w _ hw227_0)).trans hw227_0), ((HB.out.cell (World.block_lt_of_cell? w _ hw227_1)).trans hw227_1), ((HB.out.cell (World.block_lt_of_cell? w _ hw227_2)).trans hw227_2), ((HB.out.cell (World.block_lt_of_cell? w _ hw227_3)).trans hw227_3)⟩ (fun hHeld => ?_)
                clear hK K
                refine norm_ (a' := ?_) ?_ ?_
                rotate_left
                ·show Act.put _ (some 51) _ = _
                 simp only [Act.put, List.setIfInBounds_toArray, List.set_cons_zero, List.set_cons_succ, i64_w]
                 rfl
                refine pure_ (i := 8) (N := some 6) (v := ?_) (a' := ?_) #[true, true, true, true, true, true, true, true, true, false, false] rfl rfl (any_of HT_.out (by kernel_rfl)) (fun _ _ _ h => h) (Or.inl ⟨by rfl, ?_⟩) ?_ ?_
                rotate_left
                ·intro w'
                 go_simp
                 with_reducible rfl
                rotate_left
                ·simp only [Act.put, List.setIfInBounds_toArray, List.set_cons_zero, List.set_cons_succ, i64_w]
                 rfl
                refine one_ (i := 9) (N := none) #[true, true, true, true, true, true, true, true, true, true, false] rfl rfl (one_of HT_.out (by kernel_rfl)) (by decide) (fun K hK => ?_)
                have hs33 : w32.cell? ⟨gb217, 0, none⟩ = some (.string x218000_2) := (blk_cell BK217.out 0).trans rfl
                have hfs33 := blk_frozen BK217.out 0
                have hns33_0 := NB216_217.out
                have hns33_2 := NB226_217.out
                have hms33_0 := NB217_216.out
                have hms33_2 := NB217_226.out
                have hs34 : w32.cell? ⟨gb217, 1, none⟩ = some (.bool x218001_2) := (blk_cell BK217.out 1).trans rfl
                have hfs34 := blk_frozen BK217.out 1
                have hns34_0 := NB216_217.out
                have hns34_2 := NB226_217.out
                have hms34_0 := NB217_216.out
                have hms34_2 := NB217_226.out
                have hs36 : w32.cell? ⟨gb217, 2, none⟩ = some (.slice none 0 0) := (blk_cell BK217.out 2).trans rfl
                have hfs36 := blk_frozen BK217.out 2
                have hns36_0 := NB216_217.out
                have hns36_2 := NB226_217.out
                have hms36_0 := NB217_216.out
                have hms36_2 := NB217_226.out
                have hs37 : w32.cell? ⟨gb217, 3, none⟩ = some (.string x218003_2) := (blk_cell BK217.out 3).trans rfl
                have hfs37 := blk_frozen BK217.out 3
                have hns37_0 := NB216_217.out
                have hns37_2 := NB226_217.out
                have hms37_0 := NB217_216.out
                have hms37_2 := NB217_226.out
                refine skip_ (w1 := ?_) (by rfl) rfl ?_ ?_
                rotate_left
                ·go_simp
                 rfl
                refine hK.out _ _ ⟨((cell_far (p := ⟨gb217, _, none⟩) NB216_217.out _).trans (((cell_far (p := ⟨gb217, _, none⟩) NB216_217.out _).trans (((cell_far (p := ⟨gb217, _, none⟩) NB216_217.out _).trans (((cell_far (p := ⟨gb217, _, none⟩) NB216_217.out _).trans (hHeld.1)))))))), ((cell_far (p := ⟨gb217, _, none⟩) NB226_217.out _).trans (((cell_far (p := ⟨gb217, _, none⟩) NB226_217.out _).trans (((cell_far (p := ⟨gb217, _, none⟩) NB226_217.out _).trans (((cell_far (p := ⟨gb217, _, none⟩) NB226_217.out _).trans (hHeld.2.1)))))))), ((cell_far (p := ⟨gb217, _, none⟩) NB226_217.out _).trans (((cell_far (p := ⟨gb217, _, none⟩) NB226_217.out _).trans (((cell_far (p := ⟨gb217, _, none⟩) NB226_217.out _).trans (((cell_far (p := ⟨gb217, _, none⟩) NB226_217.out _).trans (hHeld.2.2.1)))))))), ((cell_far (p := ⟨gb217, _, none⟩) NB226_217.out _).trans (((cell_far (p := ⟨gb217, _, none⟩) NB226_217.out _).trans (((cell_far (p := ⟨gb217, _, none⟩) NB226_217.out _).trans (((cell_far (p := ⟨gb217, _, none⟩) NB226_217.out _).trans (hHeld.2.2.2.1)))))))), ((cell_far (p := ⟨gb217, _, none⟩) NB226_217.out _).trans (((cell_far (p := ⟨gb217, _, none⟩) NB226_217.out _).trans (((cell_far (p := ⟨gb217, _, none⟩) NB226_217.out _).trans (((cell_far (p := ⟨gb217, _, none⟩) NB226_217.out _).trans (hHeld.2.2.2.2.1)))))))), ((cell_far (p := ⟨gb217, _, none⟩) (by first | exact Nat.ne_of_lt (Nat.lt_of_lt_of_le (by have := World.block_lt_of_cell? _ _ hw227_0; first | rwa [add_block] at this | exact this) GW217.out) | (rw [add_block]; exact Nat.ne_of_lt (Nat.lt_of_lt_of_le (by have := World.block_lt_of_cell? _ _ hw227_0; first | rwa [add_block] at this | exact this) GW217.out)) | (show (Addr.add _ _).block ≠ _; rw [add_block]; exact Nat.ne_of_lt (Nat.lt_of_lt_of_le (by have := World.block_lt_of_cell? _ _ hw227_0; first | rwa [add_block] at this | exact this) GW217.out)) | (dsimp only; exact Nat.ne_of_lt (Nat.lt_of_lt_of_le (by have := World.block_lt_of_cell? _ _ hw227_0; first | rwa [add_block] at this | exact this) GW217.out))) _).trans (((cell_far (p := ⟨gb217, _, none⟩) (by first | exact Nat.ne_of_lt (Nat.lt_of_lt_of_le (by have := World.block_lt_of_cell? _ _ hw227_0; first | rwa [add_block] at this | exact this) GW217.out) | (rw [add_block]; exact Nat.ne_of_lt (Nat.lt_of_lt_of_le (by have := World.block_lt_of_cell? _ _ hw227_0; first | rwa [add_block] at this | exact this) GW217.out)) | (show (Addr.add _ _).block ≠ _; rw [add_block]; exact Nat.ne_of_lt (Nat.lt_of_lt_of_le (by have := World.block_lt_of_cell? _ _ hw227_0; first | rwa [add_block] at this | exact this) GW217.out)) | (dsimp only; exact Nat.ne_of_lt (Nat.lt_of_lt_of_le (by have := World.block_lt_of_cell? _ _ hw227_0; first | rwa [add_block] at this | exact this) GW217.out))) _).trans (((cell_far (p := ⟨gb217, _, none⟩) (by first | exact Nat.ne_of_lt (Nat.lt_of_lt_of_le (by have := World.block_lt_of_cell? _ _ hw227_0; first | rwa [add_block] at this | exact this) GW217.out) | (rw [add_block]; exact Nat.ne_of_lt (Nat.lt_of_lt_of_le (by have := World.block_lt_of_cell? _ _ hw227_0; first | rwa [add_block] at this | exact this) GW217.out)) | (show (Addr.add _ _).block ≠ _; rw [add_block]; exact Nat.ne_of_lt (Nat.lt_of_lt_of_le (by have := World.block_lt_of_cell? _ _ hw227_0; first | rwa [add_block] at this | exact this) GW217.out)) | (dsimp only; exact Nat.ne_of_lt (Nat.lt_of_lt_of_le (by have := World.block_lt_of_cell? _ _ hw227_0; first | rwa [add_block] at this | exact this) GW217.out))) _).trans (((cell_far (p := ⟨gb217, _, none⟩) (by first | exact Nat.ne_of_lt (Nat.lt_of_lt_of_le (by have := World.block_lt_of_cell? _ _ hw227_0; first | rwa [add_block] at this | exact this) GW217.out) | (rw [add_block]; exact Nat.ne_of_lt (Nat.lt_of_lt_of_le (by have := World.block_lt_of_cell? _ _ hw227_0; first | rwa [add_block] at this | exact this) GW217.out)) | (show (Addr.add _ _).block ≠ _; rw [add_block]; exact Nat.ne_of_lt (Nat.lt_of_lt_of_le (by have := World.block_lt_of_cell? _ _ hw227_0; first | rwa [add_block] at this | exact this) GW217.out)) | (dsimp only; exact Nat.ne_of_lt (Nat.lt_of_lt_of_le (by have := World.block_lt_of_cell? _ _ hw227_0; first | rwa [add_block] at this | exact this) GW217.out))) _).trans (hHeld.2.2.2.2.2.1)))))))), ((cell_far (p := ⟨gb217, _, none⟩) (by first | exact Nat.ne_of_lt (Nat.lt_of_lt_of_le (by have := World.block_lt_of_cell? _ _ hw227_1; first | rwa [add_block] at this | exact this) GW217.out) | (rw [add_block]; exact Nat.ne_of_lt (Nat.lt_of_lt_of_le (by have := World.block_lt_of_cell? _ _ hw227_1; first | rwa [add_block] at this | exact this) GW217.out)) | (show (Addr.add _ _).block ≠ _; rw [add_block]; exact Nat.ne_of_lt (Nat.lt_of_lt_of_le (by have := World.block_lt_of_cell? _ _ hw227_1; first | rwa [add_block] at this | exact this) GW217.out)) | (dsimp only; exact Nat.ne_of_lt (Nat.lt_of_lt_of_le (by have := World.block_lt_of_cell? _ _ hw227_1; first | rwa [add_block] at this | exact this) GW217.out))) _).trans (((cell_far (p := ⟨gb217, _, none⟩) (by first | exact Nat.ne_of_lt (Nat.lt_of_lt_of_le (by have := World.block_lt_of_cell? _ _ hw227_1; first | rwa [add_block] at this | exact this) GW217.out) | (rw [add_block]; exact Nat.ne_of_lt (Nat.lt_of_lt_of_le (by have := World.block_lt_of_cell? _ _ hw227_1; first | rwa [add_block] at this | exact this) GW217.out)) | (show (Addr.add _ _).block ≠ _; rw [add_block]; exact Nat.ne_of_lt (Nat.lt_of_lt_of_le (by have := World.block_lt_of_cell? _ _ hw227_1; first | rwa [add_block] at this | exact this) GW217.out)) | (dsimp only; exact Nat.ne_of_lt (Nat.lt_of_lt_of_le (by have := World.block_lt_of_cell? _ _ hw227_1; first | rwa [add_block] at this | exact this) GW217.out))) _).trans (((cell_far (p := ⟨gb217, _, none⟩) (by first | exact Nat.ne_of_lt (Nat.lt_of_lt_of_le (by have := World.block_lt_of_cell? _ _ hw227_1; first | rwa [add_block] at this | exact this) GW217.out) | (rw [add_block]; exact Nat.ne_of_lt (Nat.lt_of_lt_of_le (by have := World.block_lt_of_cell? _ _ hw227_1; first | rwa [add_block] at this | exact this) GW217.out)) | (show (Addr.add _ _).block ≠ _; rw [add_block]; exact Nat.ne_of_lt (Nat.lt_of_lt_of_le (by have := World.block_lt_of_cell? _ _ hw227_1; first | rwa [add_block] at this | exact this) GW217.out)) | (dsimp only; exact Nat.ne_of_lt (Nat.lt_of_lt_of_le (by have := World.block_lt_of_cell? _ _ hw227_1; first | rwa [add_block] at this | exact this) GW217.out))) _).trans (((cell_far (p := ⟨gb217, _, none⟩) (by first | exact Nat.ne_of_lt (Nat.lt_of_lt_of_le (by have := World.block_lt_of_cell? _ _ hw227_1; first | rwa [add_block] at this | exact this) GW217.out) | (rw [add_block]; exact Nat.ne_of_lt (Nat.lt_of_lt_of_le (by have := World.block_lt_of_cell? _ _ hw227_1; first | rwa [add_block] at this | exact this) GW217.out)) | (show (Addr.add _ _).block ≠ _; rw [add_block]; exact Nat.ne_of_lt (Nat.lt_of_lt_of_le (by have := World.block_lt_of_cell? _ _ hw227_1; first | rwa [add_block] at this | exact this) GW217.out)) | (dsimp only; exact Nat.ne_of_lt (Nat.lt_of_lt_of_le (by have := World.block_lt_of_cell? _ _ hw227_1; first | rwa [add_block] at this | exact this) GW217.out))) _).trans (hHeld.2.2.2.2.2.2.1)))))))), ((cell_far (p := ⟨gb217, _, none⟩) (by first | exact Nat.ne_of_lt (Nat.lt_of_lt_of_le (by have := World.block_lt_of_cell? _ _ hw227_2; first | rwa [add_block] at this | exact this) GW217.out) | (rw [add_block]; exact Nat.ne_of_lt (Nat.lt_of_lt_of_le (by have := World.block_lt_of_cell? _ _ hw227_2; first | rwa [add_block] at this | exact this) GW217.out)) | (show (Addr.add _ _).block ≠ _; rw [add_block]; exact Nat.ne_of_lt (Nat.lt_of_lt_of_le (by have := World.block_lt_of_cell? _ _ hw227_2; first | rwa [add_block] at this | exact this) GW217.out)) | (dsimp only; exact Nat.ne_of_lt (Nat.lt_of_lt_of_le (by have := World.block_lt_of_cell? _ _ hw227_2; first | rwa [add_block] at this | exact this) GW217.out))) _).trans (((cell_far (p := ⟨gb217, _, none⟩) (by first | exact Nat.ne_of_lt (Nat.lt_of_lt_of_le (by have := World.block_lt_of_cell? _ _ hw227_2; first | rwa [add_block] at this | exact this) GW217.out) | (rw [add_block]; exact Nat.ne_of_lt (Nat.lt_of_lt_of_le (by have := World.block_lt_of_cell? _ _ hw227_2; first | rwa [add_block] at this | exact this) GW217.out)) | (show (Addr.add _ _).block ≠ _; rw [add_block]; exact Nat.ne_of_lt (Nat.lt_of_lt_of_le (by have := World.block_lt_of_cell? _ _ hw227_2; first | rwa [add_block] at this | exact this) GW217.out)) | (dsimp only; exact Nat.ne_of_lt (Nat.lt_of_lt_of_le (by have := World.block_lt_of_cell? _ _ hw227_2; first | rwa [add_block] at this | exact this) GW217.out))) _).trans (((cell_far (p := ⟨gb217, _, none⟩) (by first | exact Nat.ne_of_lt (Nat.lt_of_lt_of_le (by have := World.block_lt_of_cell? _ _ hw227_2; first | rwa [add_block] at this | exact this) GW217.out) | (rw [add_block]; exact Nat.ne_of_lt (Nat.lt_of_lt_of_le (by have := World.block_lt_of_cell? _ _ hw227_2; first | rwa [add_block] at this | exact this) GW217.out)) | (show (Addr.add _ _).block ≠ _; rw [add_block]; exact Nat.ne_of_lt (Nat.lt_of_lt_of_le (by have := World.block_lt_of_cell? _ _ hw227_2; first | rwa [add_block] at this | exact this) GW217.out)) | (dsimp only; exact Nat.ne_of_lt (Nat.lt_of_lt_of_le (by have := World.block_lt_of_cell? _ _ hw227_2; first | rwa [add_block] at this | exact this) GW217.out))) _).trans (((cell_far (p := ⟨gb217, _, none⟩) (by first | exact Nat.ne_of_lt (Nat.lt_of_lt_of_le (by have := World.block_lt_of_cell? _ _ hw227_2; first | rwa [add_block] at this | exact this) GW217.out) | (rw [add_block]; exact Nat.ne_of_lt (Nat.lt_of_lt_of_le (by have := World.block_lt_of_cell? _ _ hw227_2; first | rwa [add_block] at this | exact this) GW217.out)) | (show (Addr.add _ _).block ≠ _; rw [add_block]; exact Nat.ne_of_lt (Nat.lt_of_lt_of_le (by have := World.block_lt_of_cell? _ _ hw227_2; first | rwa [add_block] at this | exact this) GW217.out)) | (dsimp only; exact Nat.ne_of_lt (Nat.lt_of_lt_of_le (by have := World.block_lt_of_cell? _ _ hw227_2; first | rwa [add_block] at this | exact this) GW217.out))) _).trans (hHeld.2.2.2.2.2.2.2.1)))))))), ((cell_far (p := ⟨gb217, _, none⟩) (by first | exact Nat.ne_of_lt (Nat.lt_of_lt_of_le (by have := World.block_lt_of_cell? _ _ hw227_3; first | rwa [add_block] at this | exact this) GW217.out) | (rw [add_block]; exact Nat.ne_of_lt (Nat.lt_of_lt_of_le (by have := World.block_lt_of_cell? _ _ hw227_3; first | rwa [add_block] at this | exact this) GW217.out)) | (show (Addr.add _ _).block ≠ _; rw [add_block]; exact Nat.ne_of_lt (Nat.lt_of_lt_of_le (by have := World.block_lt_of_cell? _ _ hw227_3; first | rwa [add_block] at this | exact this) GW217.out)) | (dsimp only; exact Nat.ne_of_lt (Nat.lt_of_lt_of_le (by have := World.block_lt_of_cell? _ _ hw227_3; first | rwa [add_block] at this | exact this) GW217.out))) _).trans (((cell_far (p := ⟨gb217, _, none⟩) (by first | exact Nat.ne_of_lt (Nat.lt_of_lt_of_le (by have := World.block_lt_of_cell? _ _ hw227_3; first | rwa [add_block] at this | exact this) GW217.out) | (rw [add_block]; exact Nat.ne_of_lt (Nat.lt_of_lt_of_le (by have := World.block_lt_of_cell? _ _ hw227_3; first | rwa [add_block] at this | exact this) GW217.out)) | (show (Addr.add _ _).block ≠ _; rw [add_block]; exact Nat.ne_of_lt (Nat.lt_of_lt_of_le (by have := World.block_lt_of_cell? _ _ hw227_3; first | rwa [add_block] at this | exact this) GW217.out)) | (dsimp only; exact Nat.ne_of_lt (Nat.lt_of_lt_of_le (by have := World.block_lt_of_cell? _ _ hw227_3; first | rwa [add_block] at this | exact this) GW217.out))) _).trans (((cell_far (p := ⟨gb217, _, none⟩) (by first | exact Nat.ne_of_lt (Nat.lt_of_lt_of_le (by have := World.block_lt_of_cell? _ _ hw227_3; first | rwa [add_block] at this | exact this) GW217.out) | (rw [add_block]; exact Nat.ne_of_lt (Nat.lt_of_lt_of_le (by have := World.block_lt_of_cell? _ _ hw227_3; first | rwa [add_block] at this | exact this) GW217.out)) | (show (Addr.add _ _).block ≠ _; rw [add_block]; exact Nat.ne_of_lt (Nat.lt_of_lt_of_le (by have := World.block_lt_of_cell? _ _ hw227_3; first | rwa [add_block] at this | exact this) GW217.out)) | (dsimp only; exact Nat.ne_of_lt (Nat.lt_of_lt_of_le (by have := World.block_lt_of_cell? _ _ hw227_3; first | rwa [add_block] at this | exact this) GW217.out))) _).trans (((cell_far (p := ⟨gb217, _, none⟩) (by first | exact Nat.ne_of_lt (Nat.lt_of_lt_of_le (by have := World.block_lt_of_cell? _ _ hw227_3; first | rwa [add_block] at this | exact this) GW217.out) | (rw [add_block]; exact Nat.ne_of_lt (Nat.lt_of_lt_of_le (by have := World.block_lt_of_cell? _ _ hw227_3; first | rwa [add_block] at this | exact this) GW217.out)) | (show (Addr.add _ _).block ≠ _; rw [add_block]; exact Nat.ne_of_lt (Nat.lt_of_lt_of_le (by have := World.block_lt_of_cell? _ _ hw227_3; first | rwa [add_block] at this | exact this) GW217.out)) | (dsimp only; exact Nat.ne_of_lt (Nat.lt_of_lt_of_le (by have := World.block_lt_of_cell? _ _ hw227_3; first | rwa [add_block] at this | exact this) GW217.out))) _).trans (hHeld.2.2.2.2.2.2.2.2))))))))⟩ (fun hHeld => ?_)
                clear hK K
                refine pure_ (i := 10) (N := some 8) (v := ?_) (a' := ?_) #[true, true, true, true, true, true, true, true, true, true, true] rfl rfl (any_of HT_.out (by kernel_rfl)) (fun _ _ _ h => h) (Or.inl ⟨by rfl, ?_⟩) ?_ ?_
                rotate_left
                ·intro w'
                 go_simp
                 with_reducible rfl
                rotate_left
                ·simp only [Act.put, List.setIfInBounds_toArray, List.set_cons_zero, List.set_cons_succ, i64_w]
                 rfl
                refine done_ (done_of HT_.out (by kernel_rfl)) ?_
                try go_wp2
                refine bodyPost_ret (results_list (rs := [.tmp 6, .cell 7 40, .tmp 8]) rfl (by simp) (.tmp (.cell gb217 40 #[.string t228, .bool t229, .slice Ao35 t230.length co35, .string t233] (0, 0) _ rfl (by (with_reducible repeat first | apply bn | apply bd | apply ba); refine blk_put (cs := #[.string t228, .bool t229, .slice Ao35 t230.length co35, .string x218003_2]) ?_ 3 _ rfl; refine blk_put (cs := #[.string t228, .bool t229, .slice none 0 0, .string x218003_2]) ?_ 2 _ rfl; refine blk_put (cs := #[.string t228, .bool x218001_2, .slice none 0 0, .string x218003_2]) ?_ 1 _ rfl; refine blk_put (cs := #[.string x218000_2, .bool x218001_2, .slice none 0 0, .string x218003_2]) ?_ 0 _ rfl; (with_reducible repeat first | apply bn | apply bd | apply ba); exact BK217.out) Try.underlying40 rfl (by kernel_rfl) (.tmp .nil)))) rfl ?_
                exact ⟨_, by first | rfl | (simp [errW_none, errW_some] <;> rfl) | (simp [*, errW_none, errW_some] <;> rfl), by (with_reducible repeat first | apply Kd.R_alloc | apply Kd.R_drewN | apply Kd.R_drew); exact Kd.R_mono (Kd.R_far (p := ⟨gb217, 3, none⟩) (Kd.R_far (p := ⟨gb217, 2, none⟩) (Kd.R_far (p := ⟨gb217, 1, none⟩) (Kd.R_far (p := ⟨gb217, 0, none⟩) (Kd.R_types HO232.out BK217.out (by decide)) (fun _ hk => hk.2) (.string t228)) (fun _ hk => hk.2) (.bool t229)) (fun _ hk => hk.2) (.slice Ao35 t230.length co35)) (fun _ hk => hk.2) (.string t233)) (fun _ hk => trivial), by repeat with_reducible first | exact HB.out | apply below_alloc | apply pw_below_drewN | apply below_drew1 | refine below_set ?_ GE216.out | refine below_set ?_ GE217.out | refine below_set ?_ GE226.out⟩
               ·rw [if_neg c24] at H
                exact absurd H (by simp)
              ·rw [if_neg c23] at H
               exact absurd H (by simp)
             ·rw [if_neg c22] at H
              have c22b0 : (((rd_T40 ((rd_T35 l0_0 (rd t219 x25_1)).f3) x36_2).f0).toList == a2.toList) = false := beq_eq_false_iff_ne.mpr c22
              have c22b1 : (((rd_T40 ((rd_T35 l0_0 (rd t219 x25_1)).f3) x36_2).f0).toList != a2.toList) = true := bne_iff_ne.mpr c22
              have H' := Aside0.mk H
              clear H
              have p225 : 0 ≤ (x36_2 : Int) := of_decide_eq_true (by first | (with_reducible assumption) | assumption)
              have q225 : x36_2 < (((rd_T35 l0_0 (rd t219 x25_1)).f3).length : Int) := of_decide_eq_true (by first | (with_reducible assumption) | assumption)
              obtain ⟨ad225, A225_2, c225_2, e225, hx225_0, hx225_1, hx225_2, hx225_3, hl225_2, hi225_2⟩ := at_T40 HR224_3.out x36_2 p225 q225
              cases e225
              replace hx225_0 := (HB.out.cell (World.block_lt_of_cell? w _ hx225_0)).trans hx225_0
              replace hx225_1 := (HB.out.cell (World.block_lt_of_cell? w _ hx225_1)).trans hx225_1
              replace hx225_2 := (HB.out.cell (World.block_lt_of_cell? w _ hx225_2)).trans hx225_2
              replace hx225_3 := (HB.out.cell (World.block_lt_of_cell? w _ hx225_3)).trans hx225_3
              have HR225_2 := Aside0.mk hi225_2
              have HC225_2 := Aside0.mk hl225_2
              clear hi225_2 hl225_2
              replace p225 := eq_true p225
              replace q225 := eq_true q225
              go_wp2_with (first | ((with_reducible refine gate_dst (N := 14) rfl ?_); refine box_event ?hg (N := 14) ?hd (cs := #[.string (⟨#[]⟩ : ByteArray), .bool false, .slice none 0 0, .string (⟨#[]⟩ : ByteArray)]) (t := 40) ?hr ?_; (case hd => rfl); (case hg => rfl); (case hr => first | (go_simp; done) | (go_simp; rfl)); intro gb226 hg w38 hbox hb; have n0_ := Aside0.mk (Kd.R_below (by (with_reducible repeat first | apply Kd.R_alloc | apply Kd.R_drewN | apply Kd.R_drew); exact HO_23.out) hb); have n1_ := Aside0.mk (blk_below (g := gb216) (o := .cells #[.slice (some ad224) l0_0.length c0_0] 28 (0, 0)) (by (with_reducible repeat first | apply bn | apply bd | apply ba); exact BK216.out) hb); have n2_ := Aside0.mk (blk_below (g := gb217) (o := .cells #[.string x218000_2, .bool x218001_2, .slice none 0 0, .string x218003_2] 40 (0, 0)) (by (with_reducible repeat first | apply bn | apply bd | apply ba); exact BK217.out) hb); have n3_ := Aside0.mk (below_step (by repeat with_reducible first | exact HB.out | apply below_alloc | apply pw_below_drewN | apply below_drew1 | refine below_set ?_ GE216.out | refine below_set ?_ GE217.out) hb); have n4_ := Aside0.mk (hbox); have n5_ := Aside0.mk ((by rw [hg]; exact (below_size (by repeat with_reducible first | exact HB.out | apply below_alloc | apply pw_below_drewN | apply below_drew1 | refine below_set ?_ GE216.out | refine below_set ?_ GE217.out)) : w.heap.size ≤ gb226)); have n6_ := Aside0.mk ((by rw [hg]; exact (below_size (by repeat with_reducible first | exact HB.out | apply below_alloc | apply pw_below_drewN | apply below_drew1 | refine below_set ?_ GE216.out | refine below_set ?_ GE217.out)) : w.heap.size ≤ gb226)); have n7_ := Aside0.mk ((by rw [hg]; exact Nat.ne_of_lt (blk_lt (g := gb216) (o := .cells #[.slice (some ad224) l0_0.length c0_0] 28 (0, 0)) (by (with_reducible repeat first | apply bn | apply bd | apply ba); exact BK216.out)) : gb216 ≠ gb226)); have n8_ := Aside0.mk ((by rw [hg]; exact Nat.ne_of_gt (blk_lt (g := gb216) (o := .cells #[.slice (some ad224) l0_0.length c0_0] 28 (0, 0)) (by (with_reducible repeat first | apply bn | apply bd | apply ba); exact BK216.out)) : gb226 ≠ gb216)); have n9_ := Aside0.mk ((by rw [hg]; exact Nat.ne_of_lt (blk_lt (g := gb217) (o := .cells #[.string x218000_2, .bool x218001_2, .slice none 0 0, .string x218003_2] 40 (0, 0)) (by (with_reducible repeat first | apply bn | apply bd | apply ba); exact BK217.out)) : gb217 ≠ gb226)); have n10_ := Aside0.mk ((by rw [hg]; exact Nat.ne_of_gt (blk_lt (g := gb217) (o := .cells #[.string x218000_2, .bool x218001_2, .slice none 0 0, .string x218003_2] 40 (0, 0)) (by (with_reducible repeat first | apply bn | apply bd | apply ba); exact BK217.out)) : gb226 ≠ gb217)); clear HO_23; clear BK216; clear BK217; clear HB; have HO_23 := n0_; have BK216 := n1_; have BK217 := n2_; have HB := n3_; have BK226 := n4_; have GW226 := n5_; have GE226 := n6_; have NB216_226 := n7_; have NB226_216 := n8_; have NB217_226 := n9_; have NB226_217 := n10_; clear n0_ n1_ n2_ n3_ n4_ n5_ n6_ n7_ n8_ n9_ n10_; clear hb hbox hg; have hnb39 := NB226_216.out; have hnc39 := NB216_226.out; have hnb40 := NB226_217.out; have hnc40 := NB217_226.out; have hcz41_0 : w38.cell? ⟨gb226, 0, none⟩ = some (.string (⟨#[]⟩ : ByteArray)) := (blk_cell BK226.out 0).trans rfl; have hcz41_1 : w38.cell? ⟨gb226, 1, none⟩ = some (.bool false) := (blk_cell BK226.out 1).trans rfl; have hcz41_2 : w38.cell? ⟨gb226, 2, none⟩ = some (.slice none 0 0) := (blk_cell BK226.out 2).trans rfl; have hcz41_3 : w38.cell? ⟨gb226, 3, none⟩ = some (.string (⟨#[]⟩ : ByteArray)) := (blk_cell BK226.out 3).trans rfl; have hfz41_0 := blk_frozen BK226.out 0; have hfz41_1 := blk_frozen BK226.out 1; have hfz41_2 := blk_frozen BK226.out 2; have hfz41_3 := blk_frozen BK226.out 3))
              go_roundg k2
              case measure => have := HK1.out; have := HK2.out; omega
              case rel => exact ⟨(wrap64 (x36_2 + 1)), (x218000_2), (x218001_2), (x218003_2), (by first | rfl | (simp; done) | (simp [*]; done)), H', ⟨by have := HK1.out; have := HK2.out; omega⟩, ⟨by (with_reducible repeat first | apply Kd.R_alloc | apply Kd.R_drewN | apply Kd.R_drew); exact Kd.R_mono (Kd.R_far (p := ⟨gb226, 3, none⟩) (Kd.R_far (p := ⟨gb226, 2, none⟩) (Kd.R_far (p := ⟨gb226, 1, none⟩) (Kd.R_far (p := ⟨gb226, 0, none⟩) (Kd.R_types HO_23.out BK226.out (by decide)) (fun _ hk => hk.2) (.string ((rd_T40 ((rd_T35 l0_0 (rd t219 x25_1)).f3) x36_2).f0))) (fun _ hk => hk.2) (.bool ((rd_T40 ((rd_T35 l0_0 (rd t219 x25_1)).f3) x36_2).f1))) (fun _ hk => hk.2) (.slice A225_2 ((rd_T40 ((rd_T35 l0_0 (rd t219 x25_1)).f3) x36_2).f2).length c225_2)) (fun _ hk => hk.2) (.string ((rd_T40 ((rd_T35 l0_0 (rd t219 x25_1)).f3) x36_2).f3))) (fun _ hk => trivial)⟩, ⟨by (with_reducible repeat first | apply bn | apply bd | apply ba); refine blk_far ?_ NB216_226.out _; refine blk_far ?_ NB216_226.out _; refine blk_far ?_ NB216_226.out _; refine blk_far ?_ NB216_226.out _; (with_reducible repeat first | apply bn | apply bd | apply ba); exact BK216.out⟩, ⟨by (with_reducible repeat first | apply bn | apply bd | apply ba); refine blk_far ?_ NB217_226.out _; refine blk_far ?_ NB217_226.out _; refine blk_far ?_ NB217_226.out _; refine blk_far ?_ NB217_226.out _; (with_reducible repeat first | apply bn | apply bd | apply ba); exact BK217.out⟩, ⟨by repeat with_reducible first | exact HB.out | apply below_alloc | apply pw_below_drewN | apply below_drew1 | refine below_set ?_ GE216.out | refine below_set ?_ GE217.out | refine below_set ?_ GE226.out⟩⟩
            ·rw [if_neg c21] at H
             exact absurd H (by simp)
           ·rw [if_neg c20] at H
            exact absurd H (by simp)
          ·rw [if_neg c19] at H
           have c19b0 : decide (x36_2 < (((rd_T35 l0_0 (rd t219 x25_1)).f3).length : Int)) = false := decide_eq_false c19
           clear c19
           have H' := Aside0.mk H
           clear H
           go_wp2
           go_roundg k2
           case measure => have := HK1.out; have := HK2.out; omega
           case rel => exact ⟨(wrap64 (x25_1 + 1)), (x218000_2), (x218001_2), (x218003_2), (by first | rfl | (simp; done) | (simp [*]; done)), H', ⟨by have := HK1.out; have := HK2.out; omega⟩, ⟨by (with_reducible repeat first | apply Kd.R_alloc | apply Kd.R_drewN | apply Kd.R_drew); exact HO_23.out⟩, ⟨by (with_reducible repeat first | apply bn | apply bd | apply ba); exact BK216.out⟩, ⟨by (with_reducible repeat first | apply bn | apply bd | apply ba); exact BK217.out⟩, ⟨by repeat with_reducible first | exact HB.out | apply below_alloc | apply pw_below_drewN | apply below_drew1 | refine below_set ?_ GE216.out | refine below_set ?_ GE217.out⟩⟩
       ·rw [if_neg c16] at H
        exact absurd H (by simp)
      ·rw [if_neg c15] at H
       exact absurd H (by simp)
     ·rw [if_neg c14] at H
      exact absurd H (by simp)
    ·rw [if_neg c13] at H
     exact absurd H (by simp)
   ·rw [if_neg c12] at H
    have c12b0 : decide (x25_1 < (t219.length : Int)) = false := decide_eq_false c12
    clear c12
    simp only [Option.some.injEq, Prod.mk.injEq] at H
    obtain ⟨rfl, rfl, rfl, rfl, rfl, rfl⟩ := H
    have hnb42 := NB217_216.out
    have hnc42 := NB216_217.out
    have hcz43_0 : wr.cell? ⟨gb217, 0, none⟩ = some (.string x218000_1) := (blk_cell BK217.out 0).trans rfl
    have hcz43_1 : wr.cell? ⟨gb217, 1, none⟩ = some (.bool x218001_1) := (blk_cell BK217.out 1).trans rfl
    have hcz43_2 : wr.cell? ⟨gb217, 2, none⟩ = some (.slice none 0 0) := (blk_cell BK217.out 2).trans rfl
    have hcz43_3 : wr.cell? ⟨gb217, 3, none⟩ = some (.string x218003_1) := (blk_cell BK217.out 3).trans rfl
    have hfz43_0 := blk_frozen BK217.out 0
    have hfz43_1 := blk_frozen BK217.out 1
    have hfz43_2 := blk_frozen BK217.out 2
    have hfz43_3 := blk_frozen BK217.out 3
    go_wp2
    refine bodyPost_ret (results_list (rs := [.tmp 6, .cell 7 40, .tmp 8]) rfl (by simp) (.tmp (.cell gb217 40 #[.string (⟨#[]⟩ : ByteArray), .bool false, .slice none 0 0, .string (⟨#[]⟩ : ByteArray)] (0, 0) _ rfl (by (with_reducible repeat first | apply bn | apply bd | apply ba); refine blk_put (cs := #[.string (⟨#[]⟩ : ByteArray), .bool false, .slice none 0 0, .string x218003_1]) ?_ 3 _ rfl; refine blk_put (cs := #[.string (⟨#[]⟩ : ByteArray), .bool false, .slice none 0 0, .string x218003_1]) ?_ 2 _ rfl; refine blk_put (cs := #[.string (⟨#[]⟩ : ByteArray), .bool x218001_1, .slice none 0 0, .string x218003_1]) ?_ 1 _ rfl; refine blk_put (cs := #[.string x218000_1, .bool x218001_1, .slice none 0 0, .string x218003_1]) ?_ 0 _ rfl; (with_reducible repeat first | apply bn | apply bd | apply ba); exact BK217.out) Try.underlying40 rfl (by kernel_rfl) (.tmp .nil)))) rfl ?_
    exact ⟨_, by first | rfl | (simp [errW_none, errW_some] <;> rfl) | (simp [*, errW_none, errW_some] <;> rfl), by first | exact Kd.R_nil _ _ _ _ _ | exact Kd.N_nil _ _ _ _ _ | exact Kd.V_nil _ _ _ _ _ | exact Kd.Q_nil _ _ _ _ _ | exact Kd.S_nil _ _ _ _ _, by repeat with_reducible first | exact HB.out | apply below_alloc | apply pw_below_drewN | apply below_drew1 | refine below_set ?_ GE216.out | refine below_set ?_ GE217.out⟩

/-! ### hier_Find: function 12 -/
def hier_Find.f (k : Nat) (l0_0 : List (S35)) (a1 : ByteArray) : Option (Int) := (hier_index.f k l0_0).bind fun t235 => ((look.f t235 a1).bind fun bt236 => (if bt236.2 = true then (some bt236.1) else (some (-1))))
theorem hier_Find.mono : ∀ a0 a1 k, LeO (hier_Find.f k a0 a1) (hier_Find.f (k + 1) a0 a1) := by
 intro a0 a1 k
 unfold hier_Find.f
 repeat' first
   | (with_reducible exact hier_index.mono _ _)
   | (with_reducible exact LeO.refl _)
   | (with_reducible exact LeO.none _)
   | (with_reducible refine LeO.ite ?_ ?_)
   | (with_reducible refine LeO.bind ?_ (fun _ => ?_))
   | exact hier_index.mono _ _
   | exact LeO.none _
   | refine LeO.ite ?_ ?_
   | refine LeO.bind ?_ (fun _ => ?_)
set_option maxHeartbeats 8000000 in
set_option maxRecDepth 100000 in
theorem hier_Find.calls (k : Nat) (A0_0 : Option Addr) (c0_0 : Nat) (l0_0 : List (S35)) (a1 : ByteArray) (r : Int) (w : World) (hr0_0 : Kd.C k35 w A0_0 l0_0.length l0_0) (hc0_0 : l0_0.length ≤ c0_0) (h : hier_Find.f k l0_0 a1 = some r) :
  Calls Try.prog 12 #[.agg #[.slice A0_0 l0_0.length c0_0], .string a1] w fun e w' => e = .returned (.int .i64 r) ∧ Below w.heap.size w w' := by
 have hu28 := Try.underlying28
 have HR0_0 := Aside0.mk hr0_0
 have HC0_0 := Aside0.mk hc0_0
 clear hr0_0 hc0_0
 have HB := Aside0.mk (Below.refl w.heap.size w)
 have H : ((hier_index.f k l0_0).bind fun t235 => ((look.f t235 a1).bind fun bt236 => (if bt236.2 = true then (some bt236.1) else (some (-1))))) = some r := h
 clear h
 replace H := Option.bind_eq_some_iff.mp H
 obtain ⟨t235, A30, H⟩ := H
 replace H : ((look.f t235 a1).bind fun bt236 => (if bt236.2 = true then (some bt236.1) else (some (-1)))) = some r := H
 have A3 := Aside0.mk A30
 clear A30
 replace H := Option.bind_eq_some_iff.mp H
 obtain ⟨⟨t236, t237⟩, A40, H⟩ := H
 replace H : (if t237 = true then (some t236) else (some (-1))) = some r := H
 have A4 := Aside0.mk A40
 clear A40
 by_cases c5 : t237 = true
 ·subst c5
  have H1 : (some t236) = some r := by rw [if_pos rfl] at H; exact H
  clear H
  have H := H1
  clear H1
  obtain rfl := Option.some.inj H
  go_enter Try.func12, Try.ntmps12
  go_wp2_with (first | ((with_reducible refine gate_dst (N := 2) rfl ?_); refine box_event ?hg (N := 2) ?hd (cs := #[.slice A0_0 l0_0.length c0_0]) (t := 28) ?hr ?_; (case hd => rfl); (case hg => rfl); (case hr => first | (go_simp; done) | (go_simp; rfl)); intro gb234 hg w6 hbox hb; have n0_ := Aside0.mk (below_step (by repeat with_reducible first | exact HB.out | apply below_alloc | apply pw_below_drewN | apply below_drew1) hb); have n1_ := Aside0.mk (hbox); have n2_ := Aside0.mk ((by rw [hg]; exact (below_size (by repeat with_reducible first | exact HB.out | apply below_alloc | apply pw_below_drewN | apply below_drew1)) : w.heap.size ≤ gb234)); have n3_ := Aside0.mk ((by rw [hg]; exact (below_size (by repeat with_reducible first | exact HB.out | apply below_alloc | apply pw_below_drewN | apply below_drew1)) : w.heap.size ≤ gb234)); clear HB; have HB := n0_; have BK234 := n1_; have GW234 := n2_; have GE234 := n3_; clear n0_ n1_ n2_ n3_; clear hb hbox hg; have hcz7_0 : w6.cell? ⟨gb234, 0, none⟩ = some (.slice A0_0 l0_0.length c0_0) := (blk_cell BK234.out 0).trans rfl; have hfz7_0 := blk_frozen BK234.out 0) | ((with_reducible refine gate_callee (f := 17) rfl ?_); refine goesL_ (some 9) rfl rfl Try.func17 (by kernel_rfl) rfl #[.agg #[.slice A0_0 l0_0.length c0_0]] rfl (by (try simp only [List.map_toArray, List.map_cons, List.map_nil]); first | done | rfl) ?_; (with_reducible refine (hier_index.calls k _ _ l0_0 t235 _ ?side1 ?side2 A3.out).mono ?_); (case side1 => repeat (first | exact (Kd.C_below HR0_0.out HB.out) | (with_reducible refine Kd.C_alloc ?_ _) | (with_reducible refine Kd.C_drewN ?_ _) | (with_reducible refine Kd.C_drew ?_))); (case side2 => exact HC0_0.out); rintro e w8 ⟨bm, rfl, hM_, hb⟩; refine ⟨_, rfl, ?_⟩; have HMP := Aside0.mk hM_; clear hM_; have n0_ := Aside0.mk (blk_below (g := gb234) (o := .cells #[.slice A0_0 l0_0.length c0_0] 28 (0, 0)) (by (with_reducible repeat first | apply bn | apply bd | apply ba); exact BK234.out) hb); have n1_ := Aside0.mk (below_step (by repeat with_reducible first | exact HB.out | apply below_alloc | apply pw_below_drewN | apply below_drew1 | refine below_set ?_ GE234.out) hb); clear BK234; clear HB; have BK234 := n0_; have HB := n1_; clear n0_ n1_; (try clear hb); (try clear hb2); (try clear hk); (try clear hi)) | ((with_reducible refine gate_dst (N := 11) rfl ?_); at_lookup; refine MapSI.wp_look rfl _ _ rfl Try.underlying9 Try.underlying59 (zero3_run _) bm t235 a1 rfl rfl t236 true A4.out (by repeat (first | (with_reducible first | exact HMP.out | apply MapSI.Is.set | apply MapSI.Is.alloc | apply MapSI.Is.drewN | apply MapSI.Is.drew) | exact HMP.out)) ?_))
  go_ret
  exact ⟨by first | rfl | (simp [errW_none, errW_some] <;> rfl) | (simp [*, errW_none, errW_some] <;> rfl), by repeat with_reducible first | exact HB.out | apply below_alloc | apply pw_below_drewN | apply below_drew1 | refine below_set ?_ GE234.out⟩
 ·replace c5 := Bool.eq_false_iff.mpr c5
  subst c5
  have H1 : (some (-1)) = some r := by rw [if_neg (show ¬ (false = true) by decide)] at H; exact H
  clear H
  have H := H1
  clear H1
  obtain rfl := Option.some.inj H
  go_enter Try.func12, Try.ntmps12
  go_wp2_with (first | ((with_reducible refine gate_dst (N := 2) rfl ?_); refine box_event ?hg (N := 2) ?hd (cs := #[.slice A0_0 l0_0.length c0_0]) (t := 28) ?hr ?_; (case hd => rfl); (case hg => rfl); (case hr => first | (go_simp; done) | (go_simp; rfl)); intro gb234 hg w9 hbox hb; have n0_ := Aside0.mk (below_step (by repeat with_reducible first | exact HB.out | apply below_alloc | apply pw_below_drewN | apply below_drew1) hb); have n1_ := Aside0.mk (hbox); have n2_ := Aside0.mk ((by rw [hg]; exact (below_size (by repeat with_reducible first | exact HB.out | apply below_alloc | apply pw_below_drewN | apply below_drew1)) : w.heap.size ≤ gb234)); have n3_ := Aside0.mk ((by rw [hg]; exact (below_size (by repeat with_reducible first | exact HB.out | apply below_alloc | apply pw_below_drewN | apply below_drew1)) : w.heap.size ≤ gb234)); clear HB; have HB := n0_; have BK234 := n1_; have GW234 := n2_; have GE234 := n3_; clear n0_ n1_ n2_ n3_; clear hb hbox hg; have hcz10_0 : w9.cell? ⟨gb234, 0, none⟩ = some (.slice A0_0 l0_0.length c0_0) := (blk_cell BK234.out 0).trans rfl; have hfz10_0 := blk_frozen BK234.out 0) | ((with_reducible refine gate_callee (f := 17) rfl ?_); refine goesL_ (some 9) rfl rfl Try.func17 (by kernel_rfl) rfl #[.agg #[.slice A0_0 l0_0.length c0_0]] rfl (by (try simp only [List.map_toArray, List.map_cons, List.map_nil]); first | done | rfl) ?_; (with_reducible refine (hier_index.calls k _ _ l0_0 t235 _ ?side1 ?side2 A3.out).mono ?_); (case side1 => repeat (first | exact (Kd.C_below HR0_0.out HB.out) | (with_reducible refine Kd.C_alloc ?_ _) | (with_reducible refine Kd.C_drewN ?_ _) | (with_reducible refine Kd.C_drew ?_))); (case side2 => exact HC0_0.out); rintro e w11 ⟨bm, rfl, hM_, hb⟩; refine ⟨_, rfl, ?_⟩; have HMP := Aside0.mk hM_; clear hM_; have n0_ := Aside0.mk (blk_below (g := gb234) (o := .cells #[.slice A0_0 l0_0.length c0_0] 28 (0, 0)) (by (with_reducible repeat first | apply bn | apply bd | apply ba); exact BK234.out) hb); have n1_ := Aside0.mk (below_step (by repeat with_reducible first | exact HB.out | apply below_alloc | apply pw_below_drewN | apply below_drew1 | refine below_set ?_ GE234.out) hb); clear BK234; clear HB; have BK234 := n0_; have HB := n1_; clear n0_ n1_; (try clear hb); (try clear hb2); (try clear hk); (try clear hi)) | ((with_reducible refine gate_dst (N := 11) rfl ?_); at_lookup; refine MapSI.wp_look rfl _ _ rfl Try.underlying9 Try.underlying59 (zero3_run _) bm t235 a1 rfl rfl t236 false A4.out (by repeat (first | (with_reducible first | exact HMP.out | apply MapSI.Is.set | apply MapSI.Is.alloc | apply MapSI.Is.drewN | apply MapSI.Is.drew) | exact HMP.out)) ?_))
  go_ret
  exact ⟨by first | rfl | (simp [errW_none, errW_some] <;> rfl) | (simp [*, errW_none, errW_some] <;> rfl), by repeat with_reducible first | exact HB.out | apply below_alloc | apply pw_below_drewN | apply below_drew1 | refine below_set ?_ GE234.out⟩

end Go.Proofs.Ytkbclcecmcdlfaa.PH
