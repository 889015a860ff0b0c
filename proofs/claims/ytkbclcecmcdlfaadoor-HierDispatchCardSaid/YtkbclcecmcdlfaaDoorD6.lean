/- Printed by a program of this session out of the translation: plain functions with the answers of the Go functions, and the proofs that they have them. -/
import Derived.Test.YtkbclcecmcdlfaaDoorD5
namespace Go.Proofs.YtkbclcecmcdlfaaDoor.PD
open Go.RowKit Go.Proofs.YtkbclcecmcdlfaaDoorW.PrintWords Go.Proofs.YtkbclcecmcdlfaaDoorW.PrintLast Go.Proofs.YtkbclcecmcdlfaaDoorW.PrintMore
attribute [local go_sem] max2_int min2_int max_two min_two max_three min_three max_four min_four   -- for this text's walks alone
set_option linter.unusedVariables false
set_option linter.unusedSimpArgs false

/-! ### hier_Check: function 6 -/
def hier_Check.l0 : Nat → Int → Int → List (S32) → MapSI.Ents → Option (Int × Int)
 | 0, _, _, _, _ => none
 | k + 1, x17, x18, x181000, x181001 => if x18 < x17 then ((hier_checker_class.f k x181000 x181001 x18).bind fun t181 => (if t181 = 0 then (hier_Check.l0 k x17 (wrap64 (x18 + 1)) x181000 x181001) else (some (x18, t181)))) else (some (0, 0))
def hier_Check.f (k : Nat) (l0_0 : List (S32)) : Option (Int × Int) := if (l0_0.length : Int) > 64 then (some ((-1), 3)) else ((hier_index.f k l0_0).bind fun t179 => (hier_Check.l0 k (l0_0.length : Int) 0 l0_0 t179))
theorem hier_Check.mono_l : ∀ k, (∀ y0 y1 y2 y3, LeO (hier_Check.l0 k y0 y1 y2 y3) (hier_Check.l0 (k + 1) y0 y1 y2 y3))
 | 0 => fun _ _ _ _ r h => by simp [hier_Check.l0] at h
 | k + 1 => by
  have ih0 := hier_Check.mono_l k
  ·intro y0 y1 y2 y3
   unfold hier_Check.l0
   repeat' first
   | (with_reducible exact ih0 _ _ _ _)
   | (with_reducible exact hier_checker_class.mono _ _ _ _)
   | (with_reducible exact hier_index.mono _ _)
   | (with_reducible exact LeO.refl _)
   | (with_reducible exact LeO.none _)
   | (with_reducible refine LeO.ite ?_ ?_)
   | (with_reducible refine LeO.bind ?_ (fun _ => ?_))
   | exact ih0 _ _ _ _
   | exact hier_checker_class.mono _ _ _ _
   | exact hier_index.mono _ _
   | exact LeO.none _
   | refine LeO.ite ?_ ?_
   | refine LeO.bind ?_ (fun _ => ?_)
theorem hier_Check.mono : ∀ a0 k, LeO (hier_Check.f k a0) (hier_Check.f (k + 1) a0) := by
 intro a0 k
 have ih0 := hier_Check.mono_l k
 unfold hier_Check.f
 repeat' first
   | (with_reducible exact ih0 _ _ _ _)
   | (with_reducible exact hier_checker_class.mono _ _ _ _)
   | (with_reducible exact hier_index.mono _ _)
   | (with_reducible exact LeO.refl _)
   | (with_reducible exact LeO.none _)
   | (with_reducible refine LeO.ite ?_ ?_)
   | (with_reducible refine LeO.bind ?_ (fun _ => ?_))
   | exact ih0 _ _ _ _
   | exact hier_checker_class.mono _ _ _ _
   | exact hier_index.mono _ _
   | exact LeO.none _
   | refine LeO.ite ?_ ?_
   | refine LeO.bind ?_ (fun _ => ?_)
set_option maxHeartbeats 8000000 in
set_option maxRecDepth 100000 in
theorem hier_Check.calls (k : Nat) (A0_0 : Option Addr) (c0_0 : Nat) (l0_0 : List (S32)) (r1 : Int) (r2 : Int) (w : World) (hr0_0 : Kd.C k32 w A0_0 l0_0.length l0_0) (hc0_0 : l0_0.length ≤ c0_0) (h : hier_Check.f k l0_0 = some (r1, r2)) (hT : TabW w) :
  Calls Tryd.prog 6 #[.agg #[.slice A0_0 l0_0.length c0_0]] w fun e w' => e = .returned (.tuple #[.int .i64 r1, .int .i64 r2]) ∧ Below w.heap.size w w' := by
 have HTB_ := Aside0.mk hT
 clear hT
 have hu24 := Tryd.underlying24
 have hu52 := Tryd.underlying52
 have HR0_0 := Aside0.mk hr0_0
 have HC0_0 := Aside0.mk hc0_0
 clear hr0_0 hc0_0
 have HB := Aside0.mk (Below.refl w.heap.size w)
 have H : (if (l0_0.length : Int) > 64 then (some ((-1), 3)) else ((hier_index.f k l0_0).bind fun t179 => (hier_Check.l0 k (l0_0.length : Int) 0 l0_0 t179))) = some (r1, r2) := h
 clear h
 by_cases c2 : (l0_0.length : Int) > 64
 ·rw [if_pos c2] at H
  have c2b0 : decide (64 < (l0_0.length : Int)) = true := decide_eq_true c2
  have c2b1 : decide (64 < l0_0.length) = true := decide_eq_true (by omega)
  clear c2
  simp only [Option.some.injEq, Prod.mk.injEq] at H
  obtain ⟨rfl, rfl⟩ := H
  go_enter Tryd.func6, Tryd.ntmps6
  go_wp2_with (first | ((with_reducible refine gate_dst (N := 1) rfl ?_); refine box_event ?hg (N := 1) ?hd (cs := #[.slice A0_0 l0_0.length c0_0]) (t := 24) ?hr ?_; (case hd => rfl); (case hg => rfl); (case hr => first | (go_simp; done) | (go_simp; rfl)); intro gb178 hg w3 hbox hb; have n0_ := Aside0.mk (below_step (by repeat with_reducible first | exact HB.out | apply below_alloc | apply pw_below_drewN | apply below_drew1) hb); have n1_ := Aside0.mk (hbox); have n2_ := Aside0.mk ((by rw [hg]; exact (below_size (by repeat with_reducible first | exact HB.out | apply below_alloc | apply pw_below_drewN | apply below_drew1)) : w.heap.size ≤ gb178)); have n3_ := Aside0.mk ((by rw [hg]; exact (below_size (by repeat with_reducible first | exact HB.out | apply below_alloc | apply pw_below_drewN | apply below_drew1)) : w.heap.size ≤ gb178)); clear HB; have HB := n0_; have BK178 := n1_; have GW178 := n2_; have GE178 := n3_; clear n0_ n1_ n2_ n3_; clear hb hbox hg; have hcz4_0 : w3.cell? ⟨gb178, 0, none⟩ = some (.slice A0_0 l0_0.length c0_0) := (blk_cell BK178.out 0).trans rfl; have hfz4_0 := blk_frozen BK178.out 0))
  go_ret2
  exact ⟨by first | rfl | (simp [errW_none, errW_some] <;> rfl) | (simp [*, errW_none, errW_some] <;> rfl), by repeat with_reducible first | exact HB.out | apply below_alloc | apply pw_below_drewN | apply below_drew1 | refine below_set ?_ GE178.out⟩
 ·rw [if_neg c2] at H
  have c2b0 : decide (64 < (l0_0.length : Int)) = false := decide_eq_false c2
  have c2b1 : decide (64 < l0_0.length) = false := decide_eq_false (by omega)
  clear c2
  replace H := Option.bind_eq_some_iff.mp H
  obtain ⟨t179, A50, H⟩ := H
  replace H : (hier_Check.l0 k (l0_0.length : Int) 0 l0_0 t179) = some (r1, r2) := H
  have A5 := Aside0.mk A50
  clear A50
  have H' := Aside0.mk H
  clear H
  go_enter Tryd.func6, Tryd.ntmps6
  try go_wp2_with (first | ((with_reducible refine gate_dst (N := 1) rfl ?_); refine box_event ?hg (N := 1) ?hd (cs := #[.slice A0_0 l0_0.length c0_0]) (t := 24) ?hr ?_; (case hd => rfl); (case hg => rfl); (case hr => first | (go_simp; done) | (go_simp; rfl)); intro gb178 hg w6 hbox hb; have n0_ := Aside0.mk (below_step (by repeat with_reducible first | exact HB.out | apply below_alloc | apply pw_below_drewN | apply below_drew1) hb); have n1_ := Aside0.mk (hbox); have n2_ := Aside0.mk ((by rw [hg]; exact (below_size (by repeat with_reducible first | exact HB.out | apply below_alloc | apply pw_below_drewN | apply below_drew1)) : w.heap.size ≤ gb178)); have n3_ := Aside0.mk ((by rw [hg]; exact (below_size (by repeat with_reducible first | exact HB.out | apply below_alloc | apply pw_below_drewN | apply below_drew1)) : w.heap.size ≤ gb178)); clear HB; have HB := n0_; have BK178 := n1_; have GW178 := n2_; have GE178 := n3_; clear n0_ n1_ n2_ n3_; clear hb hbox hg; have hcz7_0 : w6.cell? ⟨gb178, 0, none⟩ = some (.slice A0_0 l0_0.length c0_0) := (blk_cell BK178.out 0).trans rfl; have hfz7_0 := blk_frozen BK178.out 0))
  have n0_ := Aside0.mk (blk_drew BK178.out)
  have n1_ := Aside0.mk (below_drew1 HB.out)
  clear BK178
  clear HB
  have BK178 := n0_
  have HB := n1_
  clear n0_ n1_
  refine start_ (n := 6) (S := fun w' => w'.cell? ⟨gb178, 0, none⟩ = some (.slice A0_0 l0_0.length c0_0)) (ds := []) #[false,false,false,false,false,false] (by kernel_rfl) rfl rfl ((blk_cell BK178.out 0).trans rfl) (fun hHeld => ?_)
  generalize w6.drew = w8 at BK178 HB hHeld ⊢
  refine take_ (i := 0) (N := some 11) (v := ?_) (a' := ?_) #[true,false,false,false,false,false] rfl rfl (by kernel_rfl) (fun _ _ _ h => h) (Or.inl ⟨by rfl, ?_⟩) hHeld ?_ ?_
  rotate_left;focus(intro w' s0;go_simp;with_reducible rfl)
  rotate_left;focus(simp only [Act.put, List.setIfInBounds_toArray, List.set_cons_zero, List.set_cons_succ, i64_w];rfl)
  refine take_ (i := 1) (N := some 12) (v := ?_) (a' := ?_) #[true,true,false,false,false,false] rfl rfl (by kernel_rfl) (fun _ _ _ h => h) (Or.inl ⟨by rfl, ?_⟩) hHeld ?_ ?_
  rotate_left;focus(intro w' s0;go_simp;with_reducible rfl)
  rotate_left;focus(simp only [Act.put, List.setIfInBounds_toArray, List.set_cons_zero, List.set_cons_succ, i64_w];rfl)
  refine join_ (σ := Nat × Nat) 1 #[true,true,true,true,true,false] (fun s_ => [(13, .map (some s_.2)), (4, .pointer (some ⟨s_.1, 0, none⟩)), (14, .agg #[.slice A0_0 l0_0.length c0_0, .map (some s_.2)])]) (fun s_ w' => (w'.cell? ⟨gb178, 0, none⟩ = some (.slice A0_0 l0_0.length c0_0)) ∧ (w'.heap[gb178]? = some (.cells #[.slice A0_0 l0_0.length c0_0] 24 (0, 0))) ∧ (w'.heap[s_.1]? = some (.cells #[.slice none 0 0, .map none] 52 (0, 0))) ∧ (w.heap.size ≤ s_.1) ∧ (w.heap.size ≤ s_.1) ∧ (gb178 ≠ s_.1) ∧ (s_.1 ≠ gb178) ∧ (Below w.heap.size w w') ∧ (MapSI.Is w' s_.2 t179)) ?_ ?_
  rotate_left
  ·intro hCont
   refine two_ (i := 2) (j := 4) (Ni := some 13) (Nj := some 4) #[true,true,true,false,false,false] #[true,true,false,false,true,false] rfl rfl rfl rfl (by kernel_rfl) (by decide) (by decide) (fun K hK => ?_) (fun K hK => ?_)
   ·skip
    refine goes_ Tryd.func20 (by kernel_rfl) rfl #[.agg #[.slice A0_0 l0_0.length c0_0]] (by rfl) rfl rfl (by (try simp only [List.map_toArray, List.map_cons, List.map_nil]); first | done | rfl) ?_
    with_reducible refine (hier_index.calls k _ _ l0_0 t179 _ ?side1 ?side2 A5.out).mono ?_
    (case side1 => repeat (first | exact (Kd.C_below HR0_0.out HB.out) | (with_reducible refine Kd.C_alloc ?_ _) | (with_reducible refine Kd.C_drewN ?_ _) | (with_reducible refine Kd.C_drew ?_)))
    (case side2 => exact HC0_0.out)
    rintro e w9 ⟨bm, rfl, hM_, hb⟩
    refine ⟨_, rfl, ?_⟩
    have HMP := Aside0.mk hM_
    clear hM_
    have n0_ := Aside0.mk (blk_below (g := gb178) (o := .cells #[.slice A0_0 l0_0.length c0_0] 24 (0, 0)) (by (with_reducible repeat first | apply bn | apply bd | apply ba); exact BK178.out) hb)
    have n1_ := Aside0.mk (below_step (by repeat with_reducible first | exact HB.out | apply below_alloc | apply pw_below_drewN | apply below_drew1 | refine below_set ?_ GE178.out) hb)
    clear BK178
    clear HB
    have BK178 := n0_
    have HB := n1_
    clear n0_ n1_
    (try clear hb)
    (try clear hb2)
    (try clear hk)
    (try clear hi)
    refine hK.out _ _ ((blk_cell BK178.out 0).trans rfl) (fun hHeld => ?_)
    clear hK K
    refine norm_ (a' := ?_) ?_ ?_
    rotate_left;focus(show Act.put _ (some 13) _ = _;simp only [Act.put, List.setIfInBounds_toArray, List.set_cons_zero, List.set_cons_succ, i64_w];rfl)
    refine pure_ (i := 3) (N := some 14) (v := ?_) (a' := ?_) #[true,true,true,true,false,false] rfl rfl (by kernel_rfl) (fun _ _ _ h => h) (Or.inl ⟨by rfl, ?_⟩) ?_ ?_
    rotate_left;focus(intro w';go_simp;with_reducible rfl)
    rotate_left;focus(simp only [Act.put, List.setIfInBounds_toArray, List.set_cons_zero, List.set_cons_succ, i64_w];rfl)
    refine one_ (i := 4) (N := some 4) #[true,true,true,true,true,false] rfl rfl (by kernel_rfl) (by decide) (fun K hK => ?_)
    refine box_step ?hg (N := 4) ?hd (cs := #[.slice none 0 0, .map none]) (t := 52) ?hr ?_; (case hd => rfl); (case hg => rfl); (case hr => first | (go_simp; done) | (go_simp; rfl))
    intro gb180 hg w10 hbox hb
    have nM_ := Aside0.mk (MapSI.Is.below (by repeat (first | (with_reducible first | exact HMP.out | apply MapSI.Is.set | apply MapSI.Is.alloc | apply MapSI.Is.drewN | apply MapSI.Is.drew) | exact HMP.out)) hb)
    clear HMP
    have HMP := nM_
    clear nM_
    have n0_ := Aside0.mk (blk_below (g := gb178) (o := .cells #[.slice A0_0 l0_0.length c0_0] 24 (0, 0)) (by (with_reducible repeat first | apply bn | apply bd | apply ba); exact BK178.out) hb)
    have n1_ := Aside0.mk (below_step (by repeat with_reducible first | exact HB.out | apply below_alloc | apply pw_below_drewN | apply below_drew1 | refine below_set ?_ GE178.out) hb)
    have n2_ := Aside0.mk (hbox)
    have n3_ := Aside0.mk ((by rw [hg]; exact (below_size (by repeat with_reducible first | exact HB.out | apply below_alloc | apply pw_below_drewN | apply below_drew1 | refine below_set ?_ GE178.out)) : w.heap.size ≤ gb180))
    have n4_ := Aside0.mk ((by rw [hg]; exact (below_size (by repeat with_reducible first | exact HB.out | apply below_alloc | apply pw_below_drewN | apply below_drew1 | refine below_set ?_ GE178.out)) : w.heap.size ≤ gb180))
    have n5_ := Aside0.mk ((by rw [hg]; exact Nat.ne_of_lt (blk_lt (g := gb178) (o := .cells #[.slice A0_0 l0_0.length c0_0] 24 (0, 0)) (by (with_reducible repeat first | apply bn | apply bd | apply ba); exact BK178.out)) : gb178 ≠ gb180))
    have n6_ := Aside0.mk ((by rw [hg]; exact Nat.ne_of_gt (blk_lt (g := gb178) (o := .cells #[.slice A0_0 l0_0.length c0_0] 24 (0, 0)) (by (with_reducible repeat first | apply bn | apply bd | apply ba); exact BK178.out)) : gb180 ≠ gb178))
    clear BK178
    clear HB
    have BK178 := n0_
    have HB := n1_
    have BK180 := n2_
    have GW180 := n3_
    have GE180 := n4_
    have NB178_180 := n5_
    have NB180_178 := n6_
    clear n0_ n1_ n2_ n3_ n4_ n5_ n6_
    clear hb hbox hg
    refine hK.out _ _ ((blk_cell BK178.out 0).trans rfl) (fun hHeld => ?_)
    clear hK K
    refine norm_ (a' := ?_) ?_ ?_
    rotate_left;focus(show Act.put _ (some 4) _ = _;simp only [Act.put, List.setIfInBounds_toArray, List.set_cons_zero, List.set_cons_succ, i64_w];rfl)
    exact norm_ (by simp only [putAll, Act.put, List.setIfInBounds_toArray, List.set_cons_zero, List.set_cons_succ]) (hCont (gb180, bm) _ ⟨hHeld, (by (with_reducible repeat first | apply bn | apply bd | apply ba); exact BK178.out), (by (with_reducible repeat first | apply bn | apply bd | apply ba); exact BK180.out), GW180.out, GE180.out, NB178_180.out, NB180_178.out, (by repeat with_reducible first | exact HB.out | apply below_alloc | apply pw_below_drewN | apply below_drew1 | refine below_set ?_ GE178.out | refine below_set ?_ GE180.out), (by repeat (first | (with_reducible first | exact HMP.out | apply MapSI.Is.set | apply MapSI.Is.alloc | apply MapSI.Is.drewN | apply MapSI.Is.drew) | exact HMP.out))⟩)
   ·skip
    refine box_step ?hg (N := 4) ?hd (cs := #[.slice none 0 0, .map none]) (t := 52) ?hr ?_; (case hd => rfl); (case hg => rfl); (case hr => first | (go_simp; done) | (go_simp; rfl))
    intro gb180 hg w9 hbox hb
    have n0_ := Aside0.mk (blk_below (g := gb178) (o := .cells #[.slice A0_0 l0_0.length c0_0] 24 (0, 0)) (by (with_reducible repeat first | apply bn | apply bd | apply ba); exact BK178.out) hb)
    have n1_ := Aside0.mk (below_step (by repeat with_reducible first | exact HB.out | apply below_alloc | apply pw_below_drewN | apply below_drew1 | refine below_set ?_ GE178.out) hb)
    have n2_ := Aside0.mk (hbox)
    have n3_ := Aside0.mk ((by rw [hg]; exact (below_size (by repeat with_reducible first | exact HB.out | apply below_alloc | apply pw_below_drewN | apply below_drew1 | refine below_set ?_ GE178.out)) : w.heap.size ≤ gb180))
    have n4_ := Aside0.mk ((by rw [hg]; exact (below_size (by repeat with_reducible first | exact HB.out | apply below_alloc | apply pw_below_drewN | apply below_drew1 | refine below_set ?_ GE178.out)) : w.heap.size ≤ gb180))
    have n5_ := Aside0.mk ((by rw [hg]; exact Nat.ne_of_lt (blk_lt (g := gb178) (o := .cells #[.slice A0_0 l0_0.length c0_0] 24 (0, 0)) (by (with_reducible repeat first | apply bn | apply bd | apply ba); exact BK178.out)) : gb178 ≠ gb180))
    have n6_ := Aside0.mk ((by rw [hg]; exact Nat.ne_of_gt (blk_lt (g := gb178) (o := .cells #[.slice A0_0 l0_0.length c0_0] 24 (0, 0)) (by (with_reducible repeat first | apply bn | apply bd | apply ba); exact BK178.out)) : gb180 ≠ gb178))
    clear BK178
    clear HB
    have BK178 := n0_
    have HB := n1_
    have BK180 := n2_
    have GW180 := n3_
    have GE180 := n4_
    have NB178_180 := n5_
    have NB180_178 := n6_
    clear n0_ n1_ n2_ n3_ n4_ n5_ n6_
    clear hb hbox hg
    refine hK.out _ _ ((blk_cell BK178.out 0).trans rfl) (fun hHeld => ?_)
    clear hK K
    refine norm_ (a' := ?_) ?_ ?_
    rotate_left;focus(show Act.put _ (some 4) _ = _;simp only [Act.put, List.setIfInBounds_toArray, List.set_cons_zero, List.set_cons_succ, i64_w];rfl)
    refine one_ (i := 2) (N := some 13) #[true,true,true,false,true,false] rfl rfl (by kernel_rfl) (by decide) (fun K hK => ?_)
    refine goes_ Tryd.func20 (by kernel_rfl) rfl #[.agg #[.slice A0_0 l0_0.length c0_0]] (by rfl) rfl rfl (by (try simp only [List.map_toArray, List.map_cons, List.map_nil]); first | done | rfl) ?_
    with_reducible refine (hier_index.calls k _ _ l0_0 t179 _ ?side1 ?side2 A5.out).mono ?_
    (case side1 => repeat (first | exact (Kd.C_below HR0_0.out HB.out) | (with_reducible refine Kd.C_alloc ?_ _) | (with_reducible refine Kd.C_drewN ?_ _) | (with_reducible refine Kd.C_drew ?_)))
    (case side2 => exact HC0_0.out)
    rintro e w10 ⟨bm, rfl, hM_, hb⟩
    refine ⟨_, rfl, ?_⟩
    have HMP := Aside0.mk hM_
    clear hM_
    have n0_ := Aside0.mk (blk_below (g := gb178) (o := .cells #[.slice A0_0 l0_0.length c0_0] 24 (0, 0)) (by (with_reducible repeat first | apply bn | apply bd | apply ba); exact BK178.out) hb)
    have n1_ := Aside0.mk (blk_below (g := gb180) (o := .cells #[.slice none 0 0, .map none] 52 (0, 0)) (by (with_reducible repeat first | apply bn | apply bd | apply ba); exact BK180.out) hb)
    have n2_ := Aside0.mk (below_step (by repeat with_reducible first | exact HB.out | apply below_alloc | apply pw_below_drewN | apply below_drew1 | refine below_set ?_ GE178.out | refine below_set ?_ GE180.out) hb)
    clear BK178
    clear BK180
    clear HB
    have BK178 := n0_
    have BK180 := n1_
    have HB := n2_
    clear n0_ n1_ n2_
    (try clear hb)
    (try clear hb2)
    (try clear hk)
    (try clear hi)
    refine hK.out _ _ ((blk_cell BK178.out 0).trans rfl) (fun hHeld => ?_)
    clear hK K
    refine norm_ (a' := ?_) ?_ ?_
    rotate_left;focus(show Act.put _ (some 13) _ = _;simp only [Act.put, List.setIfInBounds_toArray, List.set_cons_zero, List.set_cons_succ, i64_w];rfl)
    refine pure_ (i := 3) (N := some 14) (v := ?_) (a' := ?_) #[true,true,true,true,true,false] rfl rfl (by kernel_rfl) (fun _ _ _ h => h) (Or.inl ⟨by rfl, ?_⟩) ?_ ?_
    rotate_left;focus(intro w';go_simp;with_reducible rfl)
    rotate_left;focus(simp only [Act.put, List.setIfInBounds_toArray, List.set_cons_zero, List.set_cons_succ, i64_w];rfl)
    exact norm_ (by simp only [putAll, Act.put, List.setIfInBounds_toArray, List.set_cons_zero, List.set_cons_succ]) (hCont (gb180, bm) _ ⟨hHeld, (by (with_reducible repeat first | apply bn | apply bd | apply ba); exact BK178.out), (by (with_reducible repeat first | apply bn | apply bd | apply ba); exact BK180.out), GW180.out, GE180.out, NB178_180.out, NB180_178.out, (by repeat with_reducible first | exact HB.out | apply below_alloc | apply pw_below_drewN | apply below_drew1 | refine below_set ?_ GE178.out | refine below_set ?_ GE180.out), (by repeat (first | (with_reducible first | exact HMP.out | apply MapSI.Is.set | apply MapSI.Is.alloc | apply MapSI.Is.drewN | apply MapSI.Is.drew) | exact HMP.out))⟩)
  rintro ⟨gb180, bm⟩ w11 ⟨hS_, h0_, h1_, h2_, h3_, h4_, h5_, h6_, hM_⟩
  have HMP := Aside0.mk hM_
  clear hM_
  have n0_ : Aside0 (w11.heap[gb178]? = some (.cells #[.slice A0_0 l0_0.length c0_0] 24 (0, 0))) := ⟨h0_⟩
  have n1_ : Aside0 (w11.heap[gb180]? = some (.cells #[.slice none 0 0, .map none] 52 (0, 0))) := ⟨h1_⟩
  have n2_ : Aside0 (w.heap.size ≤ gb180) := ⟨h2_⟩
  have n3_ : Aside0 (w.heap.size ≤ gb180) := ⟨h3_⟩
  have n4_ : Aside0 (gb178 ≠ gb180) := ⟨h4_⟩
  have n5_ : Aside0 (gb180 ≠ gb178) := ⟨h5_⟩
  have n6_ : Aside0 (Below w.heap.size w w11) := ⟨h6_⟩
  clear BK178
  clear HB
  clear h0_ h1_ h2_ h3_ h4_ h5_ h6_
  have BK178 := n0_
  have BK180 := n1_
  have GW180 := n2_
  have GE180 := n3_
  have NB178_180 := n4_
  have NB180_178 := n5_
  have HB := n6_
  clear n0_ n1_ n2_ n3_ n4_ n5_ n6_
  have hHeld : w11.cell? ⟨gb178, 0, none⟩ = some (.slice A0_0 l0_0.length c0_0) := hS_
  refine norm_ (a' := ?_) ?_ ?_
  rotate_left;focus(simp only [putAll, Act.put, List.setIfInBounds_toArray, List.set_cons_zero, List.set_cons_succ];rfl)
  refine one_ (i := 5) (N := none) #[true,true,true,true,true,true] rfl rfl (by kernel_rfl) (by decide) (fun K hK => ?_)
  have hs12 : w11.cell? ⟨gb180, 0, none⟩ = some (.slice none 0 0) := (blk_cell BK180.out 0).trans rfl
  have hfs12 := blk_frozen BK180.out 0
  have hns12_0 := NB178_180.out
  have hms12_0 := NB180_178.out
  have hs13 : w11.cell? ⟨gb180, 1, none⟩ = some (.map none) := (blk_cell BK180.out 1).trans rfl
  have hfs13 := blk_frozen BK180.out 1
  have hns13_0 := NB178_180.out
  have hms13_0 := NB180_178.out
  refine skip_ (w1 := ?_) (by rfl) rfl ?_ ?_
  rotate_left;focus(go_simp;rfl)
  refine hK.out _ _ ((far2 (g := gb180) NB178_180.out (hHeld))) (fun hHeld => ?_)
  clear hK K
  refine done_ (by kernel_rfl) ?_
  have hnb14 := NB178_180.out
  have hnc14 := NB180_178.out
  have hcz15_0 : w11.cell? ⟨gb178, 0, none⟩ = some (.slice A0_0 l0_0.length c0_0) := (blk_cell BK178.out 0).trans rfl
  have hfz15_0 := blk_frozen BK178.out 0
  try go_wp2
  go_loopg [18] k (fun kq v18 w' => ∃ (x18_1 : Int), v18 = .int .i64 x18_1 ∧ Aside0 (hier_Check.l0 kq (l0_0.length : Int) x18_1 l0_0 t179 = some (r1, r2)) ∧ Aside0 (kq ≤ k) ∧ Aside0 (w'.heap[gb178]? = some (.cells #[(.slice A0_0 l0_0.length c0_0)] 24 (0, 0))) ∧ Aside0 (w'.heap[gb180]? = some (.cells #[(.slice A0_0 l0_0.length c0_0), .map (some bm)] 52 (0, 0))) ∧ Aside0 (Below w.heap.size w w') ∧ Aside0 (MapSI.Is w' bm t179))
  case atStart => exact ⟨(0), (by first | rfl | (simp; done) | (simp [*]; done)), H', ⟨Nat.le_refl _⟩, ⟨by (with_reducible repeat first | apply bn | apply bd | apply ba); refine blk_far ?_ NB178_180.out _; refine blk_far ?_ NB178_180.out _; (with_reducible repeat first | apply bn | apply bd | apply ba); exact BK178.out⟩, ⟨by (with_reducible repeat first | apply bn | apply bd | apply ba); refine blk_put (cs := #[.slice A0_0 l0_0.length c0_0, .map none]) ?_ 1 _ rfl; refine blk_put (cs := #[.slice none 0 0, .map none]) ?_ 0 _ rfl; (with_reducible repeat first | apply bn | apply bd | apply ba); exact BK180.out⟩, ⟨by repeat with_reducible first | exact HB.out | apply below_alloc | apply pw_below_drewN | apply below_drew1 | refine below_set ?_ GE178.out | refine below_set ?_ GE180.out⟩, ⟨(by repeat (first | (with_reducible first | exact HMP.out | apply MapSI.Is.set | apply MapSI.Is.alloc | apply MapSI.Is.drewN | apply MapSI.Is.drew) | exact HMP.out))⟩⟩
  case round =>
   clear H'
   (try clear c1);(try clear c2);(try clear c2b0);(try clear c2b1);(try clear p2);(try clear c6);(try clear c14);(try clear hcz15_0);(try clear hcz4_0);(try clear hcz7_0);(try clear hfz15_0);(try clear hfz4_0);(try clear hfz7_0)
   obtain ⟨x18_1, rfl, HA, HK1, BK178, BK180, HB, HMP⟩ := hrel
   cases gk with
   | zero => exact absurd HA.out (by simp [hier_Check.l0])
   | succ k1 =>
    have H := HA.out
    clear HA
    simp only [hier_Check.l0] at H
    by_cases c16 : x18_1 < (l0_0.length : Int)
    ·rw [if_pos c16] at H
     have c16b0 : decide (x18_1 < (l0_0.length : Int)) = true := decide_eq_true c16
     clear c16
     replace H := Option.bind_eq_some_iff.mp H
     obtain ⟨t181, A170, H⟩ := H
     replace H : (if t181 = 0 then (hier_Check.l0 k1 (l0_0.length : Int) (wrap64 (x18_1 + 1)) l0_0 t179) else (some (x18_1, t181))) = some (r1, r2) := H
     have A17 := Aside0.mk A170
     clear A170
     by_cases c18 : t181 = 0
     ·rw [if_pos c18] at H
      have c18b0 : (t181 == 0) = true := beq_iff_eq.mpr c18
      have c18b1 : (t181 != 0) = false := bne_eq_false_iff_eq.mpr c18
      clear c18
      have H' := Aside0.mk H
      clear H
      have hnb19 := NB180_178.out
      have hnc19 := NB178_180.out
      have hcz20_0 : wr.cell? ⟨gb180, 0, none⟩ = some (.slice A0_0 l0_0.length c0_0) := (blk_cell BK180.out 0).trans rfl
      have hcz20_1 : wr.cell? ⟨gb180, 1, none⟩ = some (.map (some bm)) := (blk_cell BK180.out 1).trans rfl
      have hfz20_0 := blk_frozen BK180.out 0
      have hfz20_1 := blk_frozen BK180.out 1
      go_wp2_with (first | ((with_reducible refine gate_callee (f := 21) rfl ?_); refine goesL_ (some 23) rfl rfl Tryd.func21 (by kernel_rfl) rfl #[.agg #[.slice A0_0 l0_0.length c0_0, .map (some bm)], .int .i64 x18_1] rfl (by (try simp only [List.map_toArray, List.map_cons, List.map_nil]); first | done | rfl) ?_; (with_reducible refine (hier_checker_class.calls k1 _ _ l0_0 t179 x18_1 t181 _ ?side1 ?side2 ?sideM A17.out ?sideT).mono ?_); (case sideT => first | exact HTB_.out | exact HTB_.out.below (by repeat with_reducible first | exact HB.out | apply below_alloc | apply pw_below_drewN | apply below_drew1 | refine below_set ?_ GE178.out | refine below_set ?_ GE180.out)); (case sideM => exact (by repeat (first | (with_reducible first | exact HMP.out | apply MapSI.Is.set | apply MapSI.Is.alloc | apply MapSI.Is.drewN | apply MapSI.Is.drew) | exact HMP.out))); (case side1 => repeat (first | exact (Kd.C_below HR0_0.out HB.out) | (with_reducible refine Kd.C_alloc ?_ _) | (with_reducible refine Kd.C_drewN ?_ _) | (with_reducible refine Kd.C_drew ?_))); (case side2 => exact HC0_0.out); rintro e w21 ⟨rfl, hb⟩; refine ⟨_, rfl, ?_⟩; have nM_ := Aside0.mk (MapSI.Is.below (by repeat (first | (with_reducible first | exact HMP.out | apply MapSI.Is.set | apply MapSI.Is.alloc | apply MapSI.Is.drewN | apply MapSI.Is.drew) | exact HMP.out)) hb); clear HMP; have HMP := nM_; clear nM_; have n0_ := Aside0.mk (blk_below (g := gb178) (o := .cells #[.slice A0_0 l0_0.length c0_0] 24 (0, 0)) (by (with_reducible repeat first | apply bn | apply bd | apply ba); exact BK178.out) hb); have n1_ := Aside0.mk (blk_below (g := gb180) (o := .cells #[.slice A0_0 l0_0.length c0_0, .map (some bm)] 52 (0, 0)) (by (with_reducible repeat first | apply bn | apply bd | apply ba); exact BK180.out) hb); have n2_ := Aside0.mk (below_step (by repeat with_reducible first | exact HB.out | apply below_alloc | apply pw_below_drewN | apply below_drew1 | refine below_set ?_ GE178.out | refine below_set ?_ GE180.out) hb); clear BK178; clear BK180; clear HB; have BK178 := n0_; have BK180 := n1_; have HB := n2_; clear n0_ n1_ n2_; (try clear hb); (try clear hb2); (try clear hk); (try clear hi)))
      go_roundg k1
      case measure => have := HK1.out; omega
      case rel => exact ⟨(wrap64 (x18_1 + 1)), (by first | rfl | (simp; done) | (simp [*]; done)), H', ⟨by have := HK1.out; omega⟩, ⟨by (with_reducible repeat first | apply bn | apply bd | apply ba); exact BK178.out⟩, ⟨by (with_reducible repeat first | apply bn | apply bd | apply ba); exact BK180.out⟩, ⟨by repeat with_reducible first | exact HB.out | apply below_alloc | apply pw_below_drewN | apply below_drew1 | refine below_set ?_ GE178.out | refine below_set ?_ GE180.out⟩, ⟨(by repeat (first | (with_reducible first | exact HMP.out | apply MapSI.Is.set | apply MapSI.Is.alloc | apply MapSI.Is.drewN | apply MapSI.Is.drew) | exact HMP.out))⟩⟩
     ·rw [if_neg c18] at H
      have c18b0 : (t181 == 0) = false := beq_eq_false_iff_ne.mpr c18
      have c18b1 : (t181 != 0) = true := bne_iff_ne.mpr c18
      simp only [Option.some.injEq, Prod.mk.injEq] at H
      obtain ⟨rfl, rfl⟩ := H
      have hnb22 := NB180_178.out
      have hnc22 := NB178_180.out
      have hcz23_0 : wr.cell? ⟨gb180, 0, none⟩ = some (.slice A0_0 l0_0.length c0_0) := (blk_cell BK180.out 0).trans rfl
      have hcz23_1 : wr.cell? ⟨gb180, 1, none⟩ = some (.map (some bm)) := (blk_cell BK180.out 1).trans rfl
      have hfz23_0 := blk_frozen BK180.out 0
      have hfz23_1 := blk_frozen BK180.out 1
      go_wp2_with (first | ((with_reducible refine gate_callee (f := 21) rfl ?_); refine goesL_ (some 23) rfl rfl Tryd.func21 (by kernel_rfl) rfl #[.agg #[.slice A0_0 l0_0.length c0_0, .map (some bm)], .int .i64 x18_1] rfl (by (try simp only [List.map_toArray, List.map_cons, List.map_nil]); first | done | rfl) ?_; (with_reducible refine (hier_checker_class.calls k1 _ _ l0_0 t179 x18_1 t181 _ ?side1 ?side2 ?sideM A17.out ?sideT).mono ?_); (case sideT => first | exact HTB_.out | exact HTB_.out.below (by repeat with_reducible first | exact HB.out | apply below_alloc | apply pw_below_drewN | apply below_drew1 | refine below_set ?_ GE178.out | refine below_set ?_ GE180.out)); (case sideM => exact (by repeat (first | (with_reducible first | exact HMP.out | apply MapSI.Is.set | apply MapSI.Is.alloc | apply MapSI.Is.drewN | apply MapSI.Is.drew) | exact HMP.out))); (case side1 => repeat (first | exact (Kd.C_below HR0_0.out HB.out) | (with_reducible refine Kd.C_alloc ?_ _) | (with_reducible refine Kd.C_drewN ?_ _) | (with_reducible refine Kd.C_drew ?_))); (case side2 => exact HC0_0.out); rintro e w24 ⟨rfl, hb⟩; refine ⟨_, rfl, ?_⟩; have nM_ := Aside0.mk (MapSI.Is.below (by repeat (first | (with_reducible first | exact HMP.out | apply MapSI.Is.set | apply MapSI.Is.alloc | apply MapSI.Is.drewN | apply MapSI.Is.drew) | exact HMP.out)) hb); clear HMP; have HMP := nM_; clear nM_; have n0_ := Aside0.mk (blk_below (g := gb178) (o := .cells #[.slice A0_0 l0_0.length c0_0] 24 (0, 0)) (by (with_reducible repeat first | apply bn | apply bd | apply ba); exact BK178.out) hb); have n1_ := Aside0.mk (blk_below (g := gb180) (o := .cells #[.slice A0_0 l0_0.length c0_0, .map (some bm)] 52 (0, 0)) (by (with_reducible repeat first | apply bn | apply bd | apply ba); exact BK180.out) hb); have n2_ := Aside0.mk (below_step (by repeat with_reducible first | exact HB.out | apply below_alloc | apply pw_below_drewN | apply below_drew1 | refine below_set ?_ GE178.out | refine below_set ?_ GE180.out) hb); clear BK178; clear BK180; clear HB; have BK178 := n0_; have BK180 := n1_; have HB := n2_; clear n0_ n1_ n2_; (try clear hb); (try clear hb2); (try clear hk); (try clear hi)))
      go_ret2
      exact ⟨by first | rfl | (simp [errW_none, errW_some] <;> rfl) | (simp [*, errW_none, errW_some] <;> rfl), by repeat with_reducible first | exact HB.out | apply below_alloc | apply pw_below_drewN | apply below_drew1 | refine below_set ?_ GE178.out | refine below_set ?_ GE180.out⟩
    ·rw [if_neg c16] at H
     have c16b0 : decide (x18_1 < (l0_0.length : Int)) = false := decide_eq_false c16
     clear c16
     simp only [Option.some.injEq, Prod.mk.injEq] at H
     obtain ⟨rfl, rfl⟩ := H
     go_wp2
     go_ret2
     exact ⟨by first | rfl | (simp [errW_none, errW_some] <;> rfl) | (simp [*, errW_none, errW_some] <;> rfl), by repeat with_reducible first | exact HB.out | apply below_alloc | apply pw_below_drewN | apply below_drew1 | refine below_set ?_ GE178.out | refine below_set ?_ GE180.out⟩

end Go.Proofs.YtkbclcecmcdlfaaDoor.PD
