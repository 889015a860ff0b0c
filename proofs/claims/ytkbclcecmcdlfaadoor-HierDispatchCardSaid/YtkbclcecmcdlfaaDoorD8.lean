/- Printed by a program of this session out of the translation: plain functions with the answers of the Go functions, and the proofs that they have them. -/
import Derived.Test.YtkbclcecmcdlfaaDoorD1
import Derived.Lib.SliceRun
namespace Go.Proofs.YtkbclcecmcdlfaaDoor.PD
open Go.RowKit Go.Proofs.YtkbclcecmcdlfaaDoorW.PrintWords Go.Proofs.YtkbclcecmcdlfaaDoorW.PrintLast Go.Proofs.YtkbclcecmcdlfaaDoorW.PrintMore
attribute [local go_sem] max2_int min2_int max_two min_two max_three min_three max_four min_four   -- for this text's walks alone
set_option linter.unusedVariables false
set_option linter.unusedSimpArgs false

/-! ### slices_Clone_string_string: function 39 -/
def slices_Clone_string_string.f (l0 : List ByteArray) : Option (List ByteArray) := (some (([] : List ByteArray) : List ByteArray)).bind fun y324 => (if y324.length + l0.length < 8796093022208 then (some (y324 ++ l0)) else (none))
set_option maxHeartbeats 8000000 in
set_option maxRecDepth 100000 in
theorem slices_Clone_string_string.calls (A0 : Option Addr) (c0 : Nat) (l0 : List ByteArray) (r : List ByteArray) (w : World) (hr0 : Kd.C Kd.string w A0 l0.length l0) (hc0 : l0.length ≤ c0) (h : slices_Clone_string_string.f l0 = some r) :
  Calls Tryd.prog 39 #[.slice A0 l0.length c0] w fun e w' => ∃ v0_ : Value, e = .returned (v0_) ∧ Kd.R Kd.string 9 w' w.heap.size (fun _ => True) v0_ r ∧ Below w.heap.size w w' := by
 have HR0 := Aside0.mk hr0
 have HC0 := Aside0.mk hc0
 clear hr0 hc0
 have HB := Aside0.mk (Below.refl w.heap.size w)
 have H : ((some (([] : List ByteArray) : List ByteArray)).bind fun y324 => (if y324.length + l0.length < 8796093022208 then (some (y324 ++ l0)) else (none))) = some r := h
 clear h
 obtain ⟨y324, hy324⟩ : ∃ y_ : List ByteArray, y_ = (([] : List ByteArray)) := ⟨_, rfl⟩
 replace H : (if y324.length + l0.length < 8796093022208 then (some (y324 ++ l0)) else (none)) = some r := by first | (rw [hy324]; with_reducible exact H) | (have H2_ := (Option.bind_some _ _).symm.trans H; rw [hy324]; with_reducible exact H2_) | (have H2_ := (Option.bind_some _ _).symm.trans H; with_reducible exact H2_) | with_reducible exact H | (rw [hy324]; exact H) | exact H
 have Ny324 := Aside0.mk hy324
 clear hy324
 by_cases c2 : y324.length + l0.length < 8796093022208
 ·rw [if_pos c2] at H
  have LMc2 := Aside0.mk c2
  clear c2
  obtain ⟨y327, hy327⟩ : ∃ y_ : List ByteArray, y_ = (y324 ++ l0) := ⟨_, rfl⟩
  replace H : (some y327) = some r := by first | (rw [hy327]; with_reducible exact H) | (have H2_ := (Option.bind_some _ _).symm.trans H; rw [hy327]; with_reducible exact H2_) | (have H2_ := (Option.bind_some _ _).symm.trans H; with_reducible exact H2_) | with_reducible exact H | (rw [hy327]; exact H) | exact H
  have Ny327 := Aside0.mk hy327
  clear hy327
  obtain rfl := Option.some.inj H
  have q_ : ∀ (w : World) (a : Option Addr) (n c n' c' : Nat), (binOp .eql 33 (.slice a n c) (.slice none n' c')).run Tryd.prog w = .ok (.bool a.isNone) w := fun w a n c n' c' => Lib.run_eql_slice_nil w _ _ a n c n' c' Tryd.underlying33
  cases A0 with
  | none =>
   have hz_ : l0.length = 0 := by
    rcases Nat.eq_zero_or_pos l0.length with h | h
    ·exact h
    ·obtain ⟨ad, c, e, _⟩ := Kd.C_get HR0.out (⟨#[]⟩ : ByteArray) 0 (by omega) (by omega)
     cases e
   have hl_ : l0 = [] := List.eq_nil_of_length_eq_zero hz_
   subst hl_
   have hy_ : y327 = [] := by rw [Ny327.out, Ny324.out]; rfl
   rw [hy_]
   go_enter Tryd.func39, Tryd.ntmps39
   go_wp2
   go_ret
   exact ⟨_, rfl, by first | exact Kd.R_nil _ _ _ _ _ | exact Kd.V_nil _ _ _ _ _, HB.out⟩
  | some ad0 =>
   go_enter Tryd.func39, Tryd.ntmps39
   go_wp2_with (first | ((with_reducible refine gate_dst (N := 5) rfl ?_); refine Kd.R_lit Kd.string _ 9 ?hg (N := 5) ?hd (xs := ([] : List ByteArray)) (inner := []) (ok := fun _ => True) (okp := fun _ => True) ?hr ?hp (fun _ hk => hk) trivial (Below.refl _ _) (Nat.le_refl _) (by simp) ?_; (case hd => rfl); (case hg => rfl); (case hr => first | (go_simp; done) | (go_simp; rfl)); (case hp => exact (Reps.none _ _)); intro v325 w3 ho4 hb hg_ hnew_; clear hg_ hnew_; (first | rw [← Ny324.out] at ho4 | (simp only [Int.reduceToNat] at ho4; rw [← Ny324.out] at ho4)); have n0_ := Aside0.mk (Kd.R_lower ho4 (below_size (by repeat with_reducible first | exact HB.out | apply below_alloc | apply pw_below_drewN | apply below_drew1))); have n1_ := Aside0.mk (below_step (by repeat with_reducible first | exact HB.out | apply below_alloc | apply pw_below_drewN | apply below_drew1) hb); clear HB; have HO326 := n0_; have HB := n1_; clear n0_ n1_; clear hb ho4) | ((with_reducible refine gate_builtin (b := .append) (xs := #[.tmp 5, .tmp 6]) rfl ?_); at_builtin; refine Kd.R_append_rows Kd.string (w0 := w) w.heap.size rfl (.tmp 5) (.tmp 6) 33 9 (.string ⟨#[]⟩) 16 rfl Tryd.underlying33 info9 rfl (by decide) (by omega) v325 y324 l0 _ _ _ (fun _ => True) (fun _ => False) rfl rfl ?aO ?aR (fun _ _ h => h) (fun _ h => h.elim) ?aF ?aB ?aS ?aL ?_; (case aR => repeat (first | exact (Kd.C_below HR0.out HB.out) | (with_reducible refine Kd.C_alloc ?_ _) | (with_reducible refine Kd.C_drewN ?_ _) | (with_reducible refine Kd.C_drew ?_))); (case aB => exact (by repeat with_reducible first | exact HB.out | apply below_alloc | apply pw_below_drewN | apply below_drew1)); (case aF => exact (fun _ _ => trivial)); (case aO => exact (by (with_reducible repeat first | apply Kd.R_alloc | apply Kd.R_drewN | apply Kd.R_drew); exact HO326.out)); (case aS => exact (below_size (by repeat with_reducible first | exact HB.out | apply below_alloc | apply pw_below_drewN | apply below_drew1))); (case aL => have := LMc2.out; omega); intro v328 w5 ho hb hg hat; rw [← Ny327.out] at ho; have n0_ := Aside0.mk (hb); have n1_ := Aside0.mk (ho); clear HB; clear HO326; have HB := n0_; have HO329 := n1_; clear n0_ n1_; clear ho hb hg hat))
   go_ret
   exact ⟨_, by first | rfl | (simp [errW_none, errW_some] <;> rfl) | (simp [*, errW_none, errW_some] <;> rfl), by (with_reducible repeat first | apply Kd.R_alloc | apply Kd.R_drewN | apply Kd.R_drew); exact HO329.out, by repeat with_reducible first | exact HB.out | apply below_alloc | apply pw_below_drewN | apply below_drew1⟩
 ·rw [if_neg c2] at H
  exact absurd H (by simp)

/-! ### hier_copySig: function 28 -/
def hier_copySig.f (a0_0 : ByteArray) (a0_1 : Bool) (l0_2 : List ByteArray) (a0_3 : ByteArray) : Option (ByteArray × Bool × List ByteArray × ByteArray) := (slices_Clone_string_string.f l0_2).bind fun t332 => (some (a0_0, a0_1, t332, a0_3))
set_option maxHeartbeats 8000000 in
set_option maxRecDepth 100000 in
theorem hier_copySig.calls (a0_0 : ByteArray) (a0_1 : Bool) (A0_2 : Option Addr) (c0_2 : Nat) (l0_2 : List ByteArray) (a0_3 : ByteArray) (r1 : ByteArray) (r2 : Bool) (r3 : List ByteArray) (r4 : ByteArray) (w : World) (hr0_2 : Kd.C Kd.string w A0_2 l0_2.length l0_2) (hc0_2 : l0_2.length ≤ c0_2) (h : hier_copySig.f a0_0 a0_1 l0_2 a0_3 = some (r1, r2, r3, r4)) :
  Calls Tryd.prog 28 #[.agg #[.string a0_0, .bool a0_1, .slice A0_2 l0_2.length c0_2, .string a0_3]] w fun e w' => ∃ v2_ : Value, e = .returned (.agg #[.string r1, .bool r2, v2_, .string r4]) ∧ Kd.R Kd.string 9 w' w.heap.size (fun _ => True) v2_ r3 ∧ Below w.heap.size w w' := by
 have hu37 := Tryd.underlying37
 have HR0_2 := Aside0.mk hr0_2
 have HC0_2 := Aside0.mk hc0_2
 clear hr0_2 hc0_2
 have HB := Aside0.mk (Below.refl w.heap.size w)
 have H : ((slices_Clone_string_string.f l0_2).bind fun t332 => (some (a0_0, a0_1, t332, a0_3))) = some (r1, r2, r3, r4) := h
 clear h
 replace H := Option.bind_eq_some_iff.mp H
 obtain ⟨t332, A20, H⟩ := H
 replace H : (some (a0_0, a0_1, t332, a0_3)) = some (r1, r2, r3, r4) := H
 have A2 := Aside0.mk A20
 clear A20
 simp only [Option.some.injEq, Prod.mk.injEq] at H
 obtain ⟨rfl, rfl, rfl, rfl⟩ := H
 go_enter Tryd.func28, Tryd.ntmps28
 go_wp2_with (first | ((with_reducible refine gate_dst (N := 1) rfl ?_); refine box_event ?hg (N := 1) ?hd (cs := #[.string a0_0, .bool a0_1, .slice A0_2 l0_2.length c0_2, .string a0_3]) (t := 37) ?hr ?_; (case hd => rfl); (case hg => rfl); (case hr => first | (go_simp; done) | (go_simp; rfl)); intro gb330 hg w3 hbox hb; have n0_ := Aside0.mk (below_step (by repeat with_reducible first | exact HB.out | apply below_alloc | apply pw_below_drewN | apply below_drew1) hb); have n1_ := Aside0.mk (hbox); have n2_ := Aside0.mk ((by rw [hg]; exact (below_size (by repeat with_reducible first | exact HB.out | apply below_alloc | apply pw_below_drewN | apply below_drew1)) : w.heap.size ≤ gb330)); have n3_ := Aside0.mk ((by rw [hg]; exact (below_size (by repeat with_reducible first | exact HB.out | apply below_alloc | apply pw_below_drewN | apply below_drew1)) : w.heap.size ≤ gb330)); clear HB; have HB := n0_; have BK330 := n1_; have GW330 := n2_; have GE330 := n3_; clear n0_ n1_ n2_ n3_; clear hb hbox hg) | ((with_reducible refine gate_dst (N := 2) rfl ?_); refine box_event ?hg (N := 2) ?hd (cs := #[.string (⟨#[]⟩ : ByteArray), .bool false, .slice none 0 0, .string (⟨#[]⟩ : ByteArray)]) (t := 37) ?hr ?_; (case hd => rfl); (case hg => rfl); (case hr => first | (go_simp; done) | (go_simp; rfl)); intro gb331 hg w4 hbox hb; have n0_ := Aside0.mk (blk_below (g := gb330) (o := .cells #[.string a0_0, .bool a0_1, .slice A0_2 l0_2.length c0_2, .string a0_3] 37 (0, 0)) (by (with_reducible repeat first | apply bn | apply bd | apply ba); exact BK330.out) hb); have n1_ := Aside0.mk (below_step (by repeat with_reducible first | exact HB.out | apply below_alloc | apply pw_below_drewN | apply below_drew1 | refine below_set ?_ GE330.out) hb); have n2_ := Aside0.mk (hbox); have n3_ := Aside0.mk ((by rw [hg]; exact (below_size (by repeat with_reducible first | exact HB.out | apply below_alloc | apply pw_below_drewN | apply below_drew1 | refine below_set ?_ GE330.out)) : w.heap.size ≤ gb331)); have n4_ := Aside0.mk ((by rw [hg]; exact (below_size (by repeat with_reducible first | exact HB.out | apply below_alloc | apply pw_below_drewN | apply below_drew1 | refine below_set ?_ GE330.out)) : w.heap.size ≤ gb331)); have n5_ := Aside0.mk ((by rw [hg]; exact Nat.ne_of_lt (blk_lt (g := gb330) (o := .cells #[.string a0_0, .bool a0_1, .slice A0_2 l0_2.length c0_2, .string a0_3] 37 (0, 0)) (by (with_reducible repeat first | apply bn | apply bd | apply ba); exact BK330.out)) : gb330 ≠ gb331)); have n6_ := Aside0.mk ((by rw [hg]; exact Nat.ne_of_gt (blk_lt (g := gb330) (o := .cells #[.string a0_0, .bool a0_1, .slice A0_2 l0_2.length c0_2, .string a0_3] 37 (0, 0)) (by (with_reducible repeat first | apply bn | apply bd | apply ba); exact BK330.out)) : gb331 ≠ gb330)); clear BK330; clear HB; have BK330 := n0_; have HB := n1_; have BK331 := n2_; have GW331 := n3_; have GE331 := n4_; have NB330_331 := n5_; have NB331_330 := n6_; clear n0_ n1_ n2_ n3_ n4_ n5_ n6_; clear hb hbox hg; have hnb5 := NB330_331.out; have hnc5 := NB331_330.out; have hcz6_0 : w4.cell? ⟨gb330, 0, none⟩ = some (.string a0_0) := (blk_cell BK330.out 0).trans rfl; have hcz6_1 : w4.cell? ⟨gb330, 1, none⟩ = some (.bool a0_1) := (blk_cell BK330.out 1).trans rfl; have hcz6_2 : w4.cell? ⟨gb330, 2, none⟩ = some (.slice A0_2 l0_2.length c0_2) := (blk_cell BK330.out 2).trans rfl; have hcz6_3 : w4.cell? ⟨gb330, 3, none⟩ = some (.string a0_3) := (blk_cell BK330.out 3).trans rfl; have hfz6_0 := blk_frozen BK330.out 0; have hfz6_1 := blk_frozen BK330.out 1; have hfz6_2 := blk_frozen BK330.out 2; have hfz6_3 := blk_frozen BK330.out 3) | ((with_reducible refine gate_callee (f := 39) rfl ?_); refine goesL_ (some 5) rfl rfl Tryd.func39 (by kernel_rfl) rfl #[.slice A0_2 l0_2.length c0_2] rfl (by (try simp only [List.map_toArray, List.map_cons, List.map_nil]); first | done | rfl) ?_; (with_reducible refine (slices_Clone_string_string.calls _ _ l0_2 t332 _ ?side1 ?side2 A2.out).mono ?_); (case side1 => repeat (first | exact (Kd.C_below HR0_2.out HB.out) | (with_reducible refine Kd.C_alloc ?_ _) | (with_reducible refine Kd.C_drewN ?_ _) | (with_reducible refine Kd.C_drew ?_))); (case side2 => exact HC0_2.out); rintro e w7 ⟨v333, rfl, ho0, hb⟩; refine ⟨_, rfl, ?_⟩; have n0_ := Aside0.mk (Kd.R_lower ho0 (below_size (by repeat with_reducible first | exact HB.out | apply below_alloc | apply pw_below_drewN | apply below_drew1 | refine below_set ?_ GE330.out | refine below_set ?_ GE331.out))); have n1_ := Aside0.mk (blk_below (g := gb330) (o := .cells #[.string a0_0, .bool a0_1, .slice A0_2 l0_2.length c0_2, .string a0_3] 37 (0, 0)) (by (with_reducible repeat first | apply bn | apply bd | apply ba); exact BK330.out) hb); have n2_ := Aside0.mk (blk_below (g := gb331) (o := .cells #[.string (⟨#[]⟩ : ByteArray), .bool false, .slice none 0 0, .string (⟨#[]⟩ : ByteArray)] 37 (0, 0)) (by (with_reducible repeat first | apply bn | apply bd | apply ba); exact BK331.out) hb); have n3_ := Aside0.mk (below_step (by repeat with_reducible first | exact HB.out | apply below_alloc | apply pw_below_drewN | apply below_drew1 | refine below_set ?_ GE330.out | refine below_set ?_ GE331.out) hb); clear BK330; clear BK331; clear HB; have HO334 := n0_; have BK330 := n1_; have BK331 := n2_; have HB := n3_; clear n0_ n1_ n2_ n3_; (try clear hb); (try clear hb2); (try clear hk); (try clear hi); (try clear ho0); obtain ⟨Ao8, co8, eo8⟩ := Kd.R_slice HO334.out; subst eo8; have hcz9_0 : w7.cell? ⟨gb330, 0, none⟩ = some (.string a0_0) := (blk_cell BK330.out 0).trans rfl; have hcz9_1 : w7.cell? ⟨gb330, 1, none⟩ = some (.bool a0_1) := (blk_cell BK330.out 1).trans rfl; have hcz9_2 : w7.cell? ⟨gb330, 2, none⟩ = some (.slice A0_2 l0_2.length c0_2) := (blk_cell BK330.out 2).trans rfl; have hcz9_3 : w7.cell? ⟨gb330, 3, none⟩ = some (.string a0_3) := (blk_cell BK330.out 3).trans rfl; have hfz9_0 := blk_frozen BK330.out 0; have hfz9_1 := blk_frozen BK330.out 1; have hfz9_2 := blk_frozen BK330.out 2; have hfz9_3 := blk_frozen BK330.out 3; have hcz10_0 : w7.cell? ⟨gb331, 0, none⟩ = some (.string (⟨#[]⟩ : ByteArray)) := (blk_cell BK331.out 0).trans rfl; have hcz10_1 : w7.cell? ⟨gb331, 1, none⟩ = some (.bool false) := (blk_cell BK331.out 1).trans rfl; have hcz10_2 : w7.cell? ⟨gb331, 2, none⟩ = some (.slice none 0 0) := (blk_cell BK331.out 2).trans rfl; have hcz10_3 : w7.cell? ⟨gb331, 3, none⟩ = some (.string (⟨#[]⟩ : ByteArray)) := (blk_cell BK331.out 3).trans rfl; have hfz10_0 := blk_frozen BK331.out 0; have hfz10_1 := blk_frozen BK331.out 1; have hfz10_2 := blk_frozen BK331.out 2; have hfz10_3 := blk_frozen BK331.out 3))
 refine bodyPost_ret (results_cell_row rfl _ _ gb331 37 #[.string a0_0, .bool a0_1, .slice Ao8 t332.length co8, .string a0_3] (0, 0) _ rfl (by (with_reducible repeat first | apply bn | apply bd | apply ba); refine blk_put (cs := #[.string a0_0, .bool a0_1, .slice Ao8 t332.length co8, .string (⟨#[]⟩ : ByteArray)]) ?_ 3 _ rfl; refine blk_put (cs := #[.string a0_0, .bool a0_1, .slice none 0 0, .string (⟨#[]⟩ : ByteArray)]) ?_ 2 _ rfl; refine blk_put (cs := #[.string a0_0, .bool false, .slice none 0 0, .string (⟨#[]⟩ : ByteArray)]) ?_ 1 _ rfl; refine blk_put (cs := #[.string (⟨#[]⟩ : ByteArray), .bool false, .slice none 0 0, .string (⟨#[]⟩ : ByteArray)]) ?_ 0 _ rfl; refine blk_far ?_ NB331_330.out _; (with_reducible repeat first | apply bn | apply bd | apply ba); exact BK331.out) Tryd.underlying37 rfl (by kernel_rfl)) rfl ?_
 exact ⟨_, by first | rfl | (simp [errW_none, errW_some] <;> rfl) | (simp [*, errW_none, errW_some] <;> rfl), by (with_reducible repeat first | apply Kd.R_alloc | apply Kd.R_drewN | apply Kd.R_drew); exact Kd.R_mono (Kd.R_far (p := ⟨gb331, 3, none⟩) (Kd.R_far (p := ⟨gb331, 2, none⟩) (Kd.R_far (p := ⟨gb331, 1, none⟩) (Kd.R_far (p := ⟨gb331, 0, none⟩) (Kd.R_far (p := ⟨gb330, 2, none⟩) (Kd.R_types (Kd.R_types HO334.out BK330.out (by decide)) BK331.out (by decide)) (fun _ hk => hk.1.2) (.slice Ao8 t332.length co8)) (fun _ hk => hk.2) (.string a0_0)) (fun _ hk => hk.2) (.bool a0_1)) (fun _ hk => hk.2) (.slice Ao8 t332.length co8)) (fun _ hk => hk.2) (.string a0_3)) (fun _ hk => trivial), by repeat with_reducible first | exact HB.out | apply below_alloc | apply pw_below_drewN | apply below_drew1 | refine below_set ?_ GE330.out | refine below_set ?_ GE331.out⟩

/-! ### hier_Lookup: function 10 -/
mutual
def hier_Lookup.l0 : Nat → ByteArray → List Int → Int → Int → List (S32) → Option (ByteArray × ByteArray × Bool × List ByteArray × ByteArray × Bool)
 | 0, _, _, _, _, _ => none
 | k + 1, x2, x23, x24, x25, x336000 => if x25 < x24 then (if 0 ≤ x25 then (if x25 < (x23.length : Int) then (if 0 ≤ (rd x23 x25) then (if (rd x23 x25) < (x336000.length : Int) then (hier_Lookup.l1 k x2 (rd x23 x25) x23 x24 x25 ((rd_T32 x336000 (rd x23 x25)).f3) (((rd_T32 x336000 (rd x23 x25)).f3).length : Int) 0 x336000) else (none)) else (none)) else (none)) else (none)) else (some ((⟨#[]⟩ : ByteArray), (⟨#[]⟩ : ByteArray), false, ([] : List ByteArray), (⟨#[]⟩ : ByteArray), false))
def hier_Lookup.l1 : Nat → ByteArray → Int → List Int → Int → Int → List (S37) → Int → Int → List (S32) → Option (ByteArray × ByteArray × Bool × List ByteArray × ByteArray × Bool)
 | 0, _, _, _, _, _, _, _, _, _ => none
 | k + 1, x2, x12, x23, x24, x25, x34, x35, x36, x336000 => if x36 < x35 then (if 0 ≤ x36 then (if x36 < (x34.length : Int) then (if ((rd_T37 x34 x36).f0).toList = x2.toList then (if 0 ≤ x12 then (if x12 < (x336000.length : Int) then ((hier_copySig.f ((rd_T37 x34 x36).f0) ((rd_T37 x34 x36).f1) ((rd_T37 x34 x36).f2) ((rd_T37 x34 x36).f3)).bind fun bt347 => (some ((rd_T32 x336000 x12).f0, bt347.1, bt347.2.1, bt347.2.2.1, bt347.2.2.2, true))) else (none)) else (none)) else (hier_Lookup.l1 k x2 x12 x23 x24 x25 x34 x35 (wrap64 (x36 + 1)) x336000)) else (none)) else (none)) else (hier_Lookup.l0 k x2 x23 x24 (wrap64 (x25 + 1)) x336000)
end
def hier_Lookup.f (k : Nat) (l0_0 : List (S32)) (a1 : ByteArray) (a2 : ByteArray) : Option (ByteArray × ByteArray × Bool × List ByteArray × ByteArray × Bool) := (hier_index.f k l0_0).bind fun t337 => ((hier_chain.f k l0_0 t337 a1).bind fun bt338 => (hier_Lookup.l0 k a2 bt338.1 (bt338.1.length : Int) 0 l0_0))
theorem hier_Lookup.mono_l : ∀ k, (∀ y0 y1 y2 y3 y4, LeO (hier_Lookup.l0 k y0 y1 y2 y3 y4) (hier_Lookup.l0 (k + 1) y0 y1 y2 y3 y4)) ∧ (∀ y0 y1 y2 y3 y4 y5 y6 y7 y8, LeO (hier_Lookup.l1 k y0 y1 y2 y3 y4 y5 y6 y7 y8) (hier_Lookup.l1 (k + 1) y0 y1 y2 y3 y4 y5 y6 y7 y8))
 | 0 => ⟨fun _ _ _ _ _ r h => by simp [hier_Lookup.l0] at h, fun _ _ _ _ _ _ _ _ _ r h => by simp [hier_Lookup.l1] at h⟩
 | k + 1 => by
  obtain ⟨ih0, ih1⟩ := hier_Lookup.mono_l k
  refine ⟨?_, ?_⟩
  ·intro y0 y1 y2 y3 y4
   unfold hier_Lookup.l0
   repeat' first
   | (with_reducible exact ih0 _ _ _ _ _)
   | (with_reducible exact ih1 _ _ _ _ _ _ _ _ _)
   | (with_reducible exact hier_chain.mono _ _ _ _)
   | (with_reducible exact hier_index.mono _ _)
   | (with_reducible exact LeO.refl _)
   | (with_reducible exact LeO.none _)
   | (with_reducible refine LeO.ite ?_ ?_)
   | (with_reducible refine LeO.bind ?_ (fun _ => ?_))
   | exact ih0 _ _ _ _ _
   | exact ih1 _ _ _ _ _ _ _ _ _
   | exact hier_chain.mono _ _ _ _
   | exact hier_index.mono _ _
   | exact LeO.none _
   | refine LeO.ite ?_ ?_
   | refine LeO.bind ?_ (fun _ => ?_)
  ·intro y0 y1 y2 y3 y4 y5 y6 y7 y8
   unfold hier_Lookup.l1
   repeat' first
   | (with_reducible exact ih0 _ _ _ _ _)
   | (with_reducible exact ih1 _ _ _ _ _ _ _ _ _)
   | (with_reducible exact hier_chain.mono _ _ _ _)
   | (with_reducible exact hier_index.mono _ _)
   | (with_reducible exact LeO.refl _)
   | (with_reducible exact LeO.none _)
   | (with_reducible refine LeO.ite ?_ ?_)
   | (with_reducible refine LeO.bind ?_ (fun _ => ?_))
   | exact ih0 _ _ _ _ _
   | exact ih1 _ _ _ _ _ _ _ _ _
   | exact hier_chain.mono _ _ _ _
   | exact hier_index.mono _ _
   | exact LeO.none _
   | refine LeO.ite ?_ ?_
   | refine LeO.bind ?_ (fun _ => ?_)
theorem hier_Lookup.mono : ∀ a0 a1 a2 k, LeO (hier_Lookup.f k a0 a1 a2) (hier_Lookup.f (k + 1) a0 a1 a2) := by
 intro a0 a1 a2 k
 obtain ⟨ih0, ih1⟩ := hier_Lookup.mono_l k
 unfold hier_Lookup.f
 repeat' first
   | (with_reducible exact ih0 _ _ _ _ _)
   | (with_reducible exact ih1 _ _ _ _ _ _ _ _ _)
   | (with_reducible exact hier_chain.mono _ _ _ _)
   | (with_reducible exact hier_index.mono _ _)
   | (with_reducible exact LeO.refl _)
   | (with_reducible exact LeO.none _)
   | (with_reducible refine LeO.ite ?_ ?_)
   | (with_reducible refine LeO.bind ?_ (fun _ => ?_))
   | exact ih0 _ _ _ _ _
   | exact ih1 _ _ _ _ _ _ _ _ _
   | exact hier_chain.mono _ _ _ _
   | exact hier_index.mono _ _
   | exact LeO.none _
   | refine LeO.ite ?_ ?_
   | refine LeO.bind ?_ (fun _ => ?_)
def hier_Lookup.T1 : Bool × List (List Nat × List Nat) := (true, [([], []), ([], []), ([1], [1]), ([], []), ([0, 2, 3, 2], [0, 2, 3]), ([4], [4]), ([5], [5]), ([5], [5]), ([6, 4, 0, 1, 2, 3, 4, 5, 6], [6]), ([7, 8, 0, 1, 2, 3, 4, 5, 6, 7, 8], [7])])
def hier_Lookup.B1 : List Nat := [0, 0, 2, 0, 15, 31, 63, 63, 127, 511]
theorem hier_Lookup.tab1 : rtab .any (opsOf Tryd.f10 1) = hier_Lookup.T1 := by kernel_rfl
theorem hier_Lookup.bits1 : waitsOk hier_Lookup.T1.2 hier_Lookup.B1 = true := by kernel_rfl
def hier_Lookup.T9 : Bool × List (List Nat × List Nat) := (true, [([], []), ([0], [0]), ([], []), ([1, 2], [1, 2]), ([3], [3]), ([4], [4]), ([], []), ([6], [6]), ([5, 7, 0, 1, 2, 3, 4, 5], [5]), ([7, 8, 0, 1, 2, 3, 4, 5, 6, 7, 8], [7]), ([9, 0, 1, 2, 3, 4, 5, 6, 7, 8, 9], [])])
def hier_Lookup.B9 : List Nat := [0, 1, 0, 7, 15, 31, 0, 64, 255, 511, 1023]
theorem hier_Lookup.tab9 : rtab .any (opsOf Tryd.f10 9) = hier_Lookup.T9 := by kernel_rfl
theorem hier_Lookup.bits9 : waitsOk hier_Lookup.T9.2 hier_Lookup.B9 = true := by kernel_rfl
set_option maxHeartbeats 8000000 in
set_option maxRecDepth 100000 in
theorem hier_Lookup.calls (k : Nat) (A0_0 : Option Addr) (c0_0 : Nat) (l0_0 : List (S32)) (a1 : ByteArray) (a2 : ByteArray) (r1 : ByteArray) (r2 : ByteArray) (r3 : Bool) (r4 : List ByteArray) (r5 : ByteArray) (r6 : Bool) (w : World) (hr0_0 : Kd.C k32 w A0_0 l0_0.length l0_0) (hc0_0 : l0_0.length ≤ c0_0) (h : hier_Lookup.f k l0_0 a1 a2 = some (r1, r2, r3, r4, r5, r6)) :
  Calls Tryd.prog 10 #[.agg #[.slice A0_0 l0_0.length c0_0], .string a1, .string a2] w fun e w' => ∃ v3_ : Value, e = .returned (.tuple #[.string r1, .agg #[.string r2, .bool r3, v3_, .string r5], .bool r6]) ∧ Kd.R Kd.string 9 w' w.heap.size (fun _ => True) v3_ r4 ∧ Below w.heap.size w w' := by
 have hu24 := Tryd.underlying24
 have hu37 := Tryd.underlying37
 have HR0_0 := Aside0.mk hr0_0
 have HC0_0 := Aside0.mk hc0_0
 clear hr0_0 hc0_0
 have HB := Aside0.mk (Below.refl w.heap.size w)
 have H : ((hier_index.f k l0_0).bind fun t337 => ((hier_chain.f k l0_0 t337 a1).bind fun bt338 => (hier_Lookup.l0 k a2 bt338.1 (bt338.1.length : Int) 0 l0_0))) = some (r1, r2, r3, r4, r5, r6) := h
 clear h
 replace H := Option.bind_eq_some_iff.mp H
 obtain ⟨t337, A40, H⟩ := H
 replace H : ((hier_chain.f k l0_0 t337 a1).bind fun bt338 => (hier_Lookup.l0 k a2 bt338.1 (bt338.1.length : Int) 0 l0_0)) = some (r1, r2, r3, r4, r5, r6) := H
 have A4 := Aside0.mk A40
 clear A40
 replace H := Option.bind_eq_some_iff.mp H
 obtain ⟨⟨t338, t341⟩, A50, H⟩ := H
 replace H : (hier_Lookup.l0 k a2 t338 (t338.length : Int) 0 l0_0) = some (r1, r2, r3, r4, r5, r6) := H
 have A5 := Aside0.mk A50
 clear A50
 have H' := Aside0.mk H
 clear H
 go_enter Tryd.func10, Tryd.ntmps10
 try go_wp2_with (first | ((with_reducible refine gate_dst (N := 3) rfl ?_); refine box_event ?hg (N := 3) ?hd (cs := #[.slice A0_0 l0_0.length c0_0]) (t := 24) ?hr ?_; (case hd => rfl); (case hg => rfl); (case hr => first | (go_simp; done) | (go_simp; rfl)); intro gb335 hg w6 hbox hb; have n0_ := Aside0.mk (below_step (by repeat with_reducible first | exact HB.out | apply below_alloc | apply pw_below_drewN | apply below_drew1) hb); have n1_ := Aside0.mk (hbox); have n2_ := Aside0.mk ((by rw [hg]; exact (below_size (by repeat with_reducible first | exact HB.out | apply below_alloc | apply pw_below_drewN | apply below_drew1)) : w.heap.size ≤ gb335)); have n3_ := Aside0.mk ((by rw [hg]; exact (below_size (by repeat with_reducible first | exact HB.out | apply below_alloc | apply pw_below_drewN | apply below_drew1)) : w.heap.size ≤ gb335)); clear HB; have HB := n0_; have BK335 := n1_; have GW335 := n2_; have GE335 := n3_; clear n0_ n1_ n2_ n3_; clear hb hbox hg) | ((with_reducible refine gate_dst (N := 7) rfl ?_); refine box_event ?hg (N := 7) ?hd (cs := #[.string (⟨#[]⟩ : ByteArray), .bool false, .slice none 0 0, .string (⟨#[]⟩ : ByteArray)]) (t := 37) ?hr ?_; (case hd => rfl); (case hg => rfl); (case hr => first | (go_simp; done) | (go_simp; rfl)); intro gb336 hg w7 hbox hb; have n0_ := Aside0.mk (blk_below (g := gb335) (o := .cells #[.slice A0_0 l0_0.length c0_0] 24 (0, 0)) (by (with_reducible repeat first | apply bn | apply bd | apply ba); exact BK335.out) hb); have n1_ := Aside0.mk (below_step (by repeat with_reducible first | exact HB.out | apply below_alloc | apply pw_below_drewN | apply below_drew1 | refine below_set ?_ GE335.out) hb); have n2_ := Aside0.mk (hbox); have n3_ := Aside0.mk ((by rw [hg]; exact (below_size (by repeat with_reducible first | exact HB.out | apply below_alloc | apply pw_below_drewN | apply below_drew1 | refine below_set ?_ GE335.out)) : w.heap.size ≤ gb336)); have n4_ := Aside0.mk ((by rw [hg]; exact (below_size (by repeat with_reducible first | exact HB.out | apply below_alloc | apply pw_below_drewN | apply below_drew1 | refine below_set ?_ GE335.out)) : w.heap.size ≤ gb336)); have n5_ := Aside0.mk ((by rw [hg]; exact Nat.ne_of_lt (blk_lt (g := gb335) (o := .cells #[.slice A0_0 l0_0.length c0_0] 24 (0, 0)) (by (with_reducible repeat first | apply bn | apply bd | apply ba); exact BK335.out)) : gb335 ≠ gb336)); have n6_ := Aside0.mk ((by rw [hg]; exact Nat.ne_of_gt (blk_lt (g := gb335) (o := .cells #[.slice A0_0 l0_0.length c0_0] 24 (0, 0)) (by (with_reducible repeat first | apply bn | apply bd | apply ba); exact BK335.out)) : gb336 ≠ gb335)); clear BK335; clear HB; have BK335 := n0_; have HB := n1_; have BK336 := n2_; have GW336 := n3_; have GE336 := n4_; have NB335_336 := n5_; have NB336_335 := n6_; clear n0_ n1_ n2_ n3_ n4_ n5_ n6_; clear hb hbox hg))
 have n0_ := Aside0.mk (blk_drew BK335.out)
 have n1_ := Aside0.mk (blk_drew BK336.out)
 have n2_ := Aside0.mk (below_drew1 HB.out)
 clear BK335
 clear BK336
 clear HB
 have BK335 := n0_
 have BK336 := n1_
 have HB := n2_
 clear n0_ n1_ n2_
 refine start_ (n := 10) (S := fun w' => w'.cell? ⟨gb335, 0, none⟩ = some (.slice A0_0 l0_0.length c0_0)) (ds := []) #[false,false,false,false,false,false,false,false,false,false] (by kernel_rfl) rfl rfl ((blk_cell BK335.out 0).trans rfl) (fun hHeld => ?_); refine with_tabW hier_Lookup.tab1 hier_Lookup.bits1 (fun HT_ HW_ => ?_)
 generalize w7.drew = w8 at BK335 BK336 HB hHeld ⊢
 refine pure_ (i := 3) (N := some 19) (v := ?_) (a' := ?_) #[false,false,false,true,false,false,false,false,false,false] rfl rfl (any_of HT_.out (by kernel_rfl)) (fun _ _ _ h => h) (Or.inl ⟨by rfl, ?_⟩) ?_ ?_
 rotate_left;focus(intro w';go_simp;with_reducible rfl)
 rotate_left;focus(simp only [Act.put, List.setIfInBounds_toArray, List.set_cons_zero, List.set_cons_succ, i64_w];rfl)
 refine take_ (i := 0) (N := some 16) (v := ?_) (a' := ?_) #[true,false,false,true,false,false,false,false,false,false] rfl rfl (take_ofW HT_.out HW_.out (by kernel_rfl)) (fun _ _ _ h => h) (Or.inl ⟨by rfl, ?_⟩) hHeld ?_ ?_
 rotate_left;focus(intro w' s0;go_simp;with_reducible rfl)
 rotate_left;focus(simp only [Act.put, List.setIfInBounds_toArray, List.set_cons_zero, List.set_cons_succ, i64_w];rfl)
 refine take_ (i := 1) (N := some 17) (v := ?_) (a' := ?_) #[true,true,false,true,false,false,false,false,false,false] rfl rfl (take_ofW HT_.out HW_.out (by kernel_rfl)) (fun _ _ _ h => h) (Or.inl ⟨by rfl, ?_⟩) hHeld ?_ ?_
 rotate_left;focus(intro w' s0;go_simp;with_reducible rfl)
 rotate_left;focus(simp only [Act.put, List.setIfInBounds_toArray, List.set_cons_zero, List.set_cons_succ, i64_w];rfl)
 refine one_ (i := 2) (N := some 18) #[true,true,true,true,false,false,false,false,false,false] rfl rfl (one_of HT_.out (by kernel_rfl)) (by decide) (fun K hK => ?_)
 refine goes_ Tryd.func20 (by kernel_rfl) rfl #[.agg #[.slice A0_0 l0_0.length c0_0]] (by rfl) rfl rfl (by (try simp only [List.map_toArray, List.map_cons, List.map_nil]); first | done | rfl) ?_
 with_reducible refine (hier_index.calls k _ _ l0_0 t337 _ ?side1 ?side2 A4.out).mono ?_
 (case side1 => repeat (first | exact (Kd.C_below HR0_0.out HB.out) | (with_reducible refine Kd.C_alloc ?_ _) | (with_reducible refine Kd.C_drewN ?_ _) | (with_reducible refine Kd.C_drew ?_)))
 (case side2 => exact HC0_0.out)
 rintro e w9 ⟨bm, rfl, hM_, hb⟩
 refine ⟨_, rfl, ?_⟩
 have HMP := Aside0.mk hM_
 clear hM_
 have n0_ := Aside0.mk (blk_below (g := gb335) (o := .cells #[.slice A0_0 l0_0.length c0_0] 24 (0, 0)) (by (with_reducible repeat first | apply bn | apply bd | apply ba); exact BK335.out) hb)
 have n1_ := Aside0.mk (blk_below (g := gb336) (o := .cells #[.string (⟨#[]⟩ : ByteArray), .bool false, .slice none 0 0, .string (⟨#[]⟩ : ByteArray)] 37 (0, 0)) (by (with_reducible repeat first | apply bn | apply bd | apply ba); exact BK336.out) hb)
 have n2_ := Aside0.mk (below_step (by repeat with_reducible first | exact HB.out | apply below_alloc | apply pw_below_drewN | apply below_drew1 | refine below_set ?_ GE335.out | refine below_set ?_ GE336.out) hb)
 clear BK335
 clear BK336
 clear HB
 have BK335 := n0_
 have BK336 := n1_
 have HB := n2_
 clear n0_ n1_ n2_
 (try clear hb)
 (try clear hb2)
 (try clear hk)
 (try clear hi)
 refine hK.out _ _ ((blk_cell BK335.out 0).trans rfl) (fun hHeld => ?_)
 clear hK K
 refine norm_ (a' := ?_) ?_ ?_
 rotate_left;focus(show Act.put _ (some 18) _ = _;simp only [Act.put, List.setIfInBounds_toArray, List.set_cons_zero, List.set_cons_succ, i64_w];rfl)
 refine one_ (i := 4) (N := some 20) #[true,true,true,true,true,false,false,false,false,false] rfl rfl (one_of HT_.out (by kernel_rfl)) (by decide) (fun K hK => ?_)
 refine goes_ Tryd.func23 (by kernel_rfl) rfl #[.agg #[.slice A0_0 l0_0.length c0_0], .map (some bm), .string a1] (by rfl) rfl rfl (by (try simp only [List.map_toArray, List.map_cons, List.map_nil]); first | done | rfl) ?_
 with_reducible refine (hier_chain.calls k _ _ l0_0 t337 a1 t338 t341 _ ?side1 ?side2 ?sideM A5.out).mono ?_
 (case sideM => exact (by repeat (first | (with_reducible first | exact HMP.out | apply MapSI.Is.set | apply MapSI.Is.alloc | apply MapSI.Is.drewN | apply MapSI.Is.drew) | exact HMP.out)))
 (case side1 => repeat (first | exact (Kd.C_below HR0_0.out HB.out) | (with_reducible refine Kd.C_alloc ?_ _) | (with_reducible refine Kd.C_drewN ?_ _) | (with_reducible refine Kd.C_drew ?_)))
 (case side2 => exact HC0_0.out)
 rintro e w10 ⟨v339, rfl, ho0, hb⟩
 refine ⟨_, rfl, ?_⟩
 have n0_ := Aside0.mk (Kd.R_lower ho0 (below_size (by repeat with_reducible first | exact HB.out | apply below_alloc | apply pw_below_drewN | apply below_drew1 | refine below_set ?_ GE335.out | refine below_set ?_ GE336.out)))
 have n1_ := Aside0.mk (blk_below (g := gb335) (o := .cells #[.slice A0_0 l0_0.length c0_0] 24 (0, 0)) (by (with_reducible repeat first | apply bn | apply bd | apply ba); exact BK335.out) hb)
 have n2_ := Aside0.mk (blk_below (g := gb336) (o := .cells #[.string (⟨#[]⟩ : ByteArray), .bool false, .slice none 0 0, .string (⟨#[]⟩ : ByteArray)] 37 (0, 0)) (by (with_reducible repeat first | apply bn | apply bd | apply ba); exact BK336.out) hb)
 have n3_ := Aside0.mk (below_step (by repeat with_reducible first | exact HB.out | apply below_alloc | apply pw_below_drewN | apply below_drew1 | refine below_set ?_ GE335.out | refine below_set ?_ GE336.out) hb)
 clear BK335
 clear BK336
 clear HB
 have HO340 := n0_
 have BK335 := n1_
 have BK336 := n2_
 have HB := n3_
 clear n0_ n1_ n2_ n3_
 (try clear hb)
 (try clear hb2)
 (try clear hk)
 (try clear hi)
 (try clear ho0)
 refine hK.out _ _ ((blk_cell BK335.out 0).trans rfl) (fun hHeld => ?_)
 clear hK K
 refine norm_ (a' := ?_) ?_ ?_
 rotate_left;focus(show Act.put _ (some 20) _ = _;simp only [Act.put, List.setIfInBounds_toArray, List.set_cons_zero, List.set_cons_succ, i64_w];rfl)
 refine pure_ (i := 5) (N := some 15) (v := ?_) (a' := ?_) #[true,true,true,true,true,true,false,false,false,false] rfl rfl (any_of HT_.out (by kernel_rfl)) (fun _ _ _ h => h) (Or.inl ⟨by rfl, ?_⟩) ?_ ?_
 rotate_left;focus(intro w';go_simp;with_reducible rfl)
 rotate_left;focus(simp only [Act.put, List.setIfInBounds_toArray, List.set_cons_zero, List.set_cons_succ, i64_w];rfl)
 refine pure_ (i := 6) (N := some 21) (v := ?_) (a' := ?_) #[true,true,true,true,true,true,true,false,false,false] rfl rfl (any_of HT_.out (by kernel_rfl)) (fun _ _ _ h => h) (Or.inl ⟨by rfl, ?_⟩) ?_ ?_
 rotate_left;focus(intro w';go_simp;with_reducible rfl)
 rotate_left;focus(simp only [Act.put, List.setIfInBounds_toArray, List.set_cons_zero, List.set_cons_succ, i64_w];rfl)
 refine pure_ (i := 7) (N := some 22) (v := ?_) (a' := ?_) #[true,true,true,true,true,true,true,true,false,false] rfl rfl (any_of HT_.out (by kernel_rfl)) (fun _ _ _ h => h) (Or.inl ⟨by rfl, ?_⟩) ?_ ?_
 rotate_left;focus(intro w';go_simp;with_reducible rfl)
 rotate_left;focus(simp only [Act.put, List.setIfInBounds_toArray, List.set_cons_zero, List.set_cons_succ, i64_w];rfl)
 refine pure_ (i := 8) (N := some 9) (v := ?_) (a' := ?_) #[true,true,true,true,true,true,true,true,true,false] rfl rfl (any_of HT_.out (by kernel_rfl)) (fun _ _ _ h => h) (Or.inl ⟨by rfl, ?_⟩) ?_ ?_
 rotate_left;focus(intro w';go_simp;with_reducible rfl)
 rotate_left;focus(simp only [Act.put, List.setIfInBounds_toArray, List.set_cons_zero, List.set_cons_succ, i64_w];rfl)
 refine pure_ (i := 9) (N := some 10) (v := ?_) (a' := ?_) #[true,true,true,true,true,true,true,true,true,true] rfl rfl (any_of HT_.out (by kernel_rfl)) (fun _ _ _ h => h) (Or.inl ⟨by rfl, ?_⟩) ?_ ?_
 rotate_left;focus(intro w';go_simp;with_reducible rfl)
 rotate_left;focus(simp only [Act.put, List.setIfInBounds_toArray, List.set_cons_zero, List.set_cons_succ, i64_w];rfl)
 refine done_ (done_of HT_.out (by kernel_rfl)) ?_
 obtain ⟨Ao11, co11, eo11⟩ := Kd.R_slice HO340.out
 subst eo11
 try go_wp2
 go_loopg [25] k (fun kq v25 w' => ∃ (x25_1 : Int) (x337000_1 : ByteArray) (x337001_1 : Bool) (x337003_1 : ByteArray), v25 = .int .i64 x25_1 ∧ Aside0 (hier_Lookup.l0 kq a2 t338 (t338.length : Int) x25_1 l0_0 = some (r1, r2, r3, r4, r5, r6)) ∧ Aside0 (kq ≤ k) ∧ Aside0 (Kd.R (Kd.int .i64) 3 w' w.heap.size (fun _ => True) (.slice Ao11 t338.length co11) t338) ∧ Aside0 (w'.heap[gb335]? = some (.cells #[(.slice A0_0 l0_0.length c0_0)] 24 (0, 0))) ∧ Aside0 (w'.heap[gb336]? = some (.cells #[.string x337000_1, .bool x337001_1, (.slice none 0 0), .string x337003_1] 37 (0, 0))) ∧ Aside0 (Below w.heap.size w w'))
 case atStart => exact ⟨(0), ((⟨#[]⟩ : ByteArray)), (false), ((⟨#[]⟩ : ByteArray)), (by first | rfl | (simp; done) | (simp [*]; done)), H', ⟨Nat.le_refl _⟩, ⟨by (with_reducible repeat first | apply Kd.R_alloc | apply Kd.R_drewN | apply Kd.R_drew); exact HO340.out⟩, ⟨by (with_reducible repeat first | apply bn | apply bd | apply ba); exact BK335.out⟩, ⟨by (with_reducible repeat first | apply bn | apply bd | apply ba); exact BK336.out⟩, ⟨by repeat with_reducible first | exact HB.out | apply below_alloc | apply pw_below_drewN | apply below_drew1 | refine below_set ?_ GE335.out | refine below_set ?_ GE336.out⟩⟩
 case round =>
  clear H'
  (try clear c1);(try clear c2);(try clear p2);(try clear c10)
  obtain ⟨x25_1, x337000_1, x337001_1, x337003_1, rfl, HA, HK1, HO_23, BK335, BK336, HB⟩ := hrel
  cases gk with
  | zero => exact absurd HA.out (by simp [hier_Lookup.l0])
  | succ k1 =>
   have H := HA.out
   clear HA
   simp only [hier_Lookup.l0] at H
   by_cases c12 : x25_1 < (t338.length : Int)
   ·rw [if_pos c12] at H
    have c12b0 : decide (x25_1 < (t338.length : Int)) = true := decide_eq_true c12
    clear c12
    by_cases c13 : 0 ≤ x25_1
    ·rw [if_pos c13] at H
     have c13b0 : decide (0 ≤ x25_1) = true := decide_eq_true c13
     clear c13
     by_cases c14 : x25_1 < (t338.length : Int)
     ·rw [if_pos c14] at H
      have c14b0 : decide (x25_1 < (t338.length : Int)) = true := decide_eq_true c14
      clear c14
      by_cases c15 : 0 ≤ (rd t338 x25_1)
      ·rw [if_pos c15] at H
       have c15b0 : decide (0 ≤ (rd t338 x25_1)) = true := decide_eq_true c15
       clear c15
       by_cases c16 : (rd t338 x25_1) < (l0_0.length : Int)
       ·rw [if_pos c16] at H
        have c16b0 : decide ((rd t338 x25_1) < (l0_0.length : Int)) = true := decide_eq_true c16
        clear c16
        have H' := Aside0.mk H
        clear H
        have p342 : 0 ≤ (x25_1 : Int) := of_decide_eq_true (by first | (with_reducible assumption) | assumption)
        have q342 : x25_1 < (t338.length : Int) := of_decide_eq_true (by first | (with_reducible assumption) | assumption)
        obtain ⟨ad342, e342, hx342_0⟩ := Kd.at_int (Kd.R_reads' HO_23.out).2.2 x25_1 p342 q342
        cases e342
        replace p342 := eq_true p342
        replace q342 := eq_true q342
        have hnb17 := NB335_336.out
        have hnc17 := NB336_335.out
        have hcz18_0 : wr.cell? ⟨gb335, 0, none⟩ = some (.slice A0_0 l0_0.length c0_0) := (blk_cell BK335.out 0).trans rfl
        have hfz18_0 := blk_frozen BK335.out 0
        have p343 : 0 ≤ ((rd t338 x25_1) : Int) := of_decide_eq_true (by first | (with_reducible assumption) | assumption)
        have q343 : (rd t338 x25_1) < (l0_0.length : Int) := of_decide_eq_true (by first | (with_reducible assumption) | assumption)
        obtain ⟨ad343, A343_2, c343_2, A343_3, c343_3, e343, hx343_0, hx343_1, hx343_2, hx343_3, hl343_2, hi343_2, hl343_3, hi343_3⟩ := at_T32 HR0_0.out (rd t338 x25_1) p343 q343
        cases e343
        replace hx343_0 := (HB.out.cell (World.block_lt_of_cell? w _ hx343_0)).trans hx343_0
        replace hx343_1 := (HB.out.cell (World.block_lt_of_cell? w _ hx343_1)).trans hx343_1
        replace hx343_2 := (HB.out.cell (World.block_lt_of_cell? w _ hx343_2)).trans hx343_2
        replace hx343_3 := (HB.out.cell (World.block_lt_of_cell? w _ hx343_3)).trans hx343_3
        have HR343_2 := Aside0.mk hi343_2
        have HC343_2 := Aside0.mk hl343_2
        clear hi343_2 hl343_2
        have HR343_3 := Aside0.mk hi343_3
        have HC343_3 := Aside0.mk hl343_3
        clear hi343_3 hl343_3
        replace p343 := eq_true p343
        replace q343 := eq_true q343
        go_wp2
        go_loopg [36] k1 (fun kq v36 w' => ∃ (x36_2 : Int) (x337000_2 : ByteArray) (x337001_2 : Bool) (x337003_2 : ByteArray), v36 = .int .i64 x36_2 ∧ Aside0 (hier_Lookup.l1 kq a2 (rd t338 x25_1) t338 (t338.length : Int) x25_1 ((rd_T32 l0_0 (rd t338 x25_1)).f3) (((rd_T32 l0_0 (rd t338 x25_1)).f3).length : Int) x36_2 l0_0 = some (r1, r2, r3, r4, r5, r6)) ∧ Aside0 (kq ≤ k1) ∧ Aside0 (Kd.R (Kd.int .i64) 3 w' w.heap.size (fun _ => True) (.slice (some ad342) t338.length co11) t338) ∧ Aside0 (w'.heap[gb335]? = some (.cells #[(.slice (some ad343) l0_0.length c0_0)] 24 (0, 0))) ∧ Aside0 (w'.heap[gb336]? = some (.cells #[.string x337000_2, .bool x337001_2, (.slice none 0 0), .string x337003_2] 37 (0, 0))) ∧ Aside0 (Below w.heap.size w w'))
        case atStart => exact ⟨(0), (x337000_1), (x337001_1), (x337003_1), (by first | rfl | (simp; done) | (simp [*]; done)), H', ⟨Nat.le_refl _⟩, ⟨by (with_reducible repeat first | apply Kd.R_alloc | apply Kd.R_drewN | apply Kd.R_drew); exact HO_23.out⟩, ⟨by (with_reducible repeat first | apply bn | apply bd | apply ba); exact BK335.out⟩, ⟨by (with_reducible repeat first | apply bn | apply bd | apply ba); exact BK336.out⟩, ⟨by repeat with_reducible first | exact HB.out | apply below_alloc | apply pw_below_drewN | apply below_drew1 | refine below_set ?_ GE335.out | refine below_set ?_ GE336.out⟩⟩
        case round =>
         clear H'
         (try clear c1);(try clear c2);(try clear p2);(try clear c3);(try clear p3);(try clear q3);(try clear hx3);(try clear c10);(try clear c12);(try clear c12b0);(try clear c13);(try clear c13b0);(try clear c14);(try clear c14b0);(try clear c15);(try clear c15b0);(try clear c16);(try clear c16b0);(try clear c17);(try clear hcz18_0);(try clear hfz18_0);(try clear hx342_0);(try clear hx343_0);(try clear hx343_1);(try clear hx343_2);(try clear hx343_3);(try clear p2);(try clear p342);(try clear p343);(try clear q342);(try clear q343)
         obtain ⟨x36_2, x337000_2, x337001_2, x337003_2, rfl, HA, HK2, HO_23, BK335, BK336, HB⟩ := hrel
         cases gk with
         | zero => exact absurd HA.out (by simp [hier_Lookup.l1])
         | succ k2 =>
          have H := HA.out
          clear HA
          simp only [hier_Lookup.l1] at H
          by_cases c19 : x36_2 < (((rd_T32 l0_0 (rd t338 x25_1)).f3).length : Int)
          ·rw [if_pos c19] at H
           have c19b0 : decide (x36_2 < (((rd_T32 l0_0 (rd t338 x25_1)).f3).length : Int)) = true := decide_eq_true c19
           clear c19
           by_cases c20 : 0 ≤ x36_2
           ·rw [if_pos c20] at H
            have c20b0 : decide (0 ≤ x36_2) = true := decide_eq_true c20
            clear c20
            by_cases c21 : x36_2 < (((rd_T32 l0_0 (rd t338 x25_1)).f3).length : Int)
            ·rw [if_pos c21] at H
             have c21b0 : decide (x36_2 < (((rd_T32 l0_0 (rd t338 x25_1)).f3).length : Int)) = true := decide_eq_true c21
             clear c21
             by_cases c22 : ((rd_T37 ((rd_T32 l0_0 (rd t338 x25_1)).f3) x36_2).f0).toList = a2.toList
             ·rw [if_pos c22] at H
              have c22b0 : (((rd_T37 ((rd_T32 l0_0 (rd t338 x25_1)).f3) x36_2).f0).toList == a2.toList) = true := beq_iff_eq.mpr c22
              have c22b1 : (((rd_T37 ((rd_T32 l0_0 (rd t338 x25_1)).f3) x36_2).f0).toList != a2.toList) = false := bne_eq_false_iff_eq.mpr c22
              clear c22
              by_cases c23 : 0 ≤ (rd t338 x25_1)
              ·rw [if_pos c23] at H
               have c23b0 : decide (0 ≤ (rd t338 x25_1)) = true := decide_eq_true c23
               clear c23
               by_cases c24 : (rd t338 x25_1) < (l0_0.length : Int)
               ·rw [if_pos c24] at H
                have c24b0 : decide ((rd t338 x25_1) < (l0_0.length : Int)) = true := decide_eq_true c24
                clear c24
                replace H := Option.bind_eq_some_iff.mp H
                obtain ⟨⟨t347, t348, t349, t352⟩, A250, H⟩ := H
                replace H : (some ((rd_T32 l0_0 (rd t338 x25_1)).f0, t347, t348, t349, t352, true)) = some (r1, r2, r3, r4, r5, r6) := H
                have A25 := Aside0.mk A250
                clear A250
                simp only [Option.some.injEq, Prod.mk.injEq] at H
                obtain ⟨rfl, rfl, rfl, rfl, rfl, rfl⟩ := H
                have p344 : 0 ≤ (x36_2 : Int) := of_decide_eq_true (by first | (with_reducible assumption) | assumption)
                have q344 : x36_2 < (((rd_T32 l0_0 (rd t338 x25_1)).f3).length : Int) := of_decide_eq_true (by first | (with_reducible assumption) | assumption)
                obtain ⟨ad344, A344_2, c344_2, e344, hx344_0, hx344_1, hx344_2, hx344_3, hl344_2, hi344_2⟩ := at_T37 HR343_3.out x36_2 p344 q344
                cases e344
                replace hx344_0 := (HB.out.cell (World.block_lt_of_cell? w _ hx344_0)).trans hx344_0
                replace hx344_1 := (HB.out.cell (World.block_lt_of_cell? w _ hx344_1)).trans hx344_1
                replace hx344_2 := (HB.out.cell (World.block_lt_of_cell? w _ hx344_2)).trans hx344_2
                replace hx344_3 := (HB.out.cell (World.block_lt_of_cell? w _ hx344_3)).trans hx344_3
                have HR344_2 := Aside0.mk hi344_2
                have HC344_2 := Aside0.mk hl344_2
                clear hi344_2 hl344_2
                replace p344 := eq_true p344
                replace q344 := eq_true q344
                try go_wp2_with (first | ((with_reducible refine gate_dst (N := 14) rfl ?_); refine box_event ?hg (N := 14) ?hd (cs := #[.string (⟨#[]⟩ : ByteArray), .bool false, .slice none 0 0, .string (⟨#[]⟩ : ByteArray)]) (t := 37) ?hr ?_; (case hd => rfl); (case hg => rfl); (case hr => first | (go_simp; done) | (go_simp; rfl)); intro gb345 hg w26 hbox hb; have n0_ := Aside0.mk (Kd.R_below (by (with_reducible repeat first | apply Kd.R_alloc | apply Kd.R_drewN | apply Kd.R_drew); exact HO_23.out) hb); have n1_ := Aside0.mk (blk_below (g := gb335) (o := .cells #[.slice (some ad343) l0_0.length c0_0] 24 (0, 0)) (by (with_reducible repeat first | apply bn | apply bd | apply ba); exact BK335.out) hb); have n2_ := Aside0.mk (blk_below (g := gb336) (o := .cells #[.string x337000_2, .bool x337001_2, .slice none 0 0, .string x337003_2] 37 (0, 0)) (by (with_reducible repeat first | apply bn | apply bd | apply ba); exact BK336.out) hb); have n3_ := Aside0.mk (below_step (by repeat with_reducible first | exact HB.out | apply below_alloc | apply pw_below_drewN | apply below_drew1 | refine below_set ?_ GE335.out | refine below_set ?_ GE336.out) hb); have n4_ := Aside0.mk (hbox); have n5_ := Aside0.mk ((by rw [hg]; exact (below_size (by repeat with_reducible first | exact HB.out | apply below_alloc | apply pw_below_drewN | apply below_drew1 | refine below_set ?_ GE335.out | refine below_set ?_ GE336.out)) : w.heap.size ≤ gb345)); have n6_ := Aside0.mk ((by rw [hg]; exact (below_size (by repeat with_reducible first | exact HB.out | apply below_alloc | apply pw_below_drewN | apply below_drew1 | refine below_set ?_ GE335.out | refine below_set ?_ GE336.out)) : w.heap.size ≤ gb345)); have n7_ := Aside0.mk ((by rw [hg]; exact Nat.ne_of_lt (blk_lt (g := gb335) (o := .cells #[.slice (some ad343) l0_0.length c0_0] 24 (0, 0)) (by (with_reducible repeat first | apply bn | apply bd | apply ba); exact BK335.out)) : gb335 ≠ gb345)); have n8_ := Aside0.mk ((by rw [hg]; exact Nat.ne_of_gt (blk_lt (g := gb335) (o := .cells #[.slice (some ad343) l0_0.length c0_0] 24 (0, 0)) (by (with_reducible repeat first | apply bn | apply bd | apply ba); exact BK335.out)) : gb345 ≠ gb335)); have n9_ := Aside0.mk ((by rw [hg]; exact Nat.ne_of_lt (blk_lt (g := gb336) (o := .cells #[.string x337000_2, .bool x337001_2, .slice none 0 0, .string x337003_2] 37 (0, 0)) (by (with_reducible repeat first | apply bn | apply bd | apply ba); exact BK336.out)) : gb336 ≠ gb345)); have n10_ := Aside0.mk ((by rw [hg]; exact Nat.ne_of_gt (blk_lt (g := gb336) (o := .cells #[.string x337000_2, .bool x337001_2, .slice none 0 0, .string x337003_2] 37 (0, 0)) (by (with_reducible repeat first | apply bn | apply bd | apply ba); exact BK336.out)) : gb345 ≠ gb336)); clear HO_23; clear BK335; clear BK336; clear HB; have HO_23 := n0_; have BK335 := n1_; have BK336 := n2_; have HB := n3_; have BK345 := n4_; have GW345 := n5_; have GE345 := n6_; have NB335_345 := n7_; have NB345_335 := n8_; have NB336_345 := n9_; have NB345_336 := n10_; clear n0_ n1_ n2_ n3_ n4_ n5_ n6_ n7_ n8_ n9_ n10_; clear hb hbox hg; have hnb27 := NB345_335.out; have hnc27 := NB335_345.out; have hnb28 := NB345_336.out; have hnc28 := NB336_345.out; have hcz29_0 : w26.cell? ⟨gb345, 0, none⟩ = some (.string (⟨#[]⟩ : ByteArray)) := (blk_cell BK345.out 0).trans rfl; have hcz29_1 : w26.cell? ⟨gb345, 1, none⟩ = some (.bool false) := (blk_cell BK345.out 1).trans rfl; have hcz29_2 : w26.cell? ⟨gb345, 2, none⟩ = some (.slice none 0 0) := (blk_cell BK345.out 2).trans rfl; have hcz29_3 : w26.cell? ⟨gb345, 3, none⟩ = some (.string (⟨#[]⟩ : ByteArray)) := (blk_cell BK345.out 3).trans rfl; have hfz29_0 := blk_frozen BK345.out 0; have hfz29_1 := blk_frozen BK345.out 1; have hfz29_2 := blk_frozen BK345.out 2; have hfz29_3 := blk_frozen BK345.out 3))
                have n0_ : Aside0 (Kd.R (Kd.int .i64) 3 ((((w26.setCell ⟨gb345, 0, none⟩ (.string ((rd_T37 ((rd_T32 l0_0 (rd t338 x25_1)).f3) x36_2).f0))).setCell ⟨gb345, 1, none⟩ (.bool ((rd_T37 ((rd_T32 l0_0 (rd t338 x25_1)).f3) x36_2).f1))).setCell ⟨gb345, 2, none⟩ (.slice A344_2 ((rd_T37 ((rd_T32 l0_0 (rd t338 x25_1)).f3) x36_2).f2).length c344_2)).setCell ⟨gb345, 3, none⟩ (.string ((rd_T37 ((rd_T32 l0_0 (rd t338 x25_1)).f3) x36_2).f3))) w.heap.size (fun _ => True) (.slice (some ad342) t338.length co11) t338) := ⟨by (with_reducible repeat first | apply Kd.R_alloc | apply Kd.R_drewN | apply Kd.R_drew); exact Kd.R_mono (Kd.R_far (p := ⟨gb345, 3, none⟩) (Kd.R_far (p := ⟨gb345, 2, none⟩) (Kd.R_far (p := ⟨gb345, 1, none⟩) (Kd.R_far (p := ⟨gb345, 0, none⟩) (Kd.R_types HO_23.out BK345.out (by decide)) (fun _ hk => hk.2) (.string ((rd_T37 ((rd_T32 l0_0 (rd t338 x25_1)).f3) x36_2).f0))) (fun _ hk => hk.2) (.bool ((rd_T37 ((rd_T32 l0_0 (rd t338 x25_1)).f3) x36_2).f1))) (fun _ hk => hk.2) (.slice A344_2 ((rd_T37 ((rd_T32 l0_0 (rd t338 x25_1)).f3) x36_2).f2).length c344_2)) (fun _ hk => hk.2) (.string ((rd_T37 ((rd_T32 l0_0 (rd t338 x25_1)).f3) x36_2).f3))) (fun _ hk => trivial)⟩
                have n1_ : Aside0 (((((w26.setCell ⟨gb345, 0, none⟩ (.string ((rd_T37 ((rd_T32 l0_0 (rd t338 x25_1)).f3) x36_2).f0))).setCell ⟨gb345, 1, none⟩ (.bool ((rd_T37 ((rd_T32 l0_0 (rd t338 x25_1)).f3) x36_2).f1))).setCell ⟨gb345, 2, none⟩ (.slice A344_2 ((rd_T37 ((rd_T32 l0_0 (rd t338 x25_1)).f3) x36_2).f2).length c344_2)).setCell ⟨gb345, 3, none⟩ (.string ((rd_T37 ((rd_T32 l0_0 (rd t338 x25_1)).f3) x36_2).f3))).heap[gb335]? = some (.cells #[.slice (some ad343) l0_0.length c0_0] 24 (0, 0))) := ⟨by (with_reducible repeat first | apply bn | apply bd | apply ba); refine blk_far ?_ NB335_345.out _; refine blk_far ?_ NB335_345.out _; refine blk_far ?_ NB335_345.out _; refine blk_far ?_ NB335_345.out _; (with_reducible repeat first | apply bn | apply bd | apply ba); exact BK335.out⟩
                have n2_ : Aside0 (((((w26.setCell ⟨gb345, 0, none⟩ (.string ((rd_T37 ((rd_T32 l0_0 (rd t338 x25_1)).f3) x36_2).f0))).setCell ⟨gb345, 1, none⟩ (.bool ((rd_T37 ((rd_T32 l0_0 (rd t338 x25_1)).f3) x36_2).f1))).setCell ⟨gb345, 2, none⟩ (.slice A344_2 ((rd_T37 ((rd_T32 l0_0 (rd t338 x25_1)).f3) x36_2).f2).length c344_2)).setCell ⟨gb345, 3, none⟩ (.string ((rd_T37 ((rd_T32 l0_0 (rd t338 x25_1)).f3) x36_2).f3))).heap[gb336]? = some (.cells #[.string x337000_2, .bool x337001_2, .slice none 0 0, .string x337003_2] 37 (0, 0))) := ⟨by (with_reducible repeat first | apply bn | apply bd | apply ba); refine blk_far ?_ NB336_345.out _; refine blk_far ?_ NB336_345.out _; refine blk_far ?_ NB336_345.out _; refine blk_far ?_ NB336_345.out _; (with_reducible repeat first | apply bn | apply bd | apply ba); exact BK336.out⟩
                have n3_ : Aside0 (((((w26.setCell ⟨gb345, 0, none⟩ (.string ((rd_T37 ((rd_T32 l0_0 (rd t338 x25_1)).f3) x36_2).f0))).setCell ⟨gb345, 1, none⟩ (.bool ((rd_T37 ((rd_T32 l0_0 (rd t338 x25_1)).f3) x36_2).f1))).setCell ⟨gb345, 2, none⟩ (.slice A344_2 ((rd_T37 ((rd_T32 l0_0 (rd t338 x25_1)).f3) x36_2).f2).length c344_2)).setCell ⟨gb345, 3, none⟩ (.string ((rd_T37 ((rd_T32 l0_0 (rd t338 x25_1)).f3) x36_2).f3))).heap[gb345]? = some (.cells #[.string ((rd_T37 ((rd_T32 l0_0 (rd t338 x25_1)).f3) x36_2).f0), .bool ((rd_T37 ((rd_T32 l0_0 (rd t338 x25_1)).f3) x36_2).f1), .slice A344_2 ((rd_T37 ((rd_T32 l0_0 (rd t338 x25_1)).f3) x36_2).f2).length c344_2, .string ((rd_T37 ((rd_T32 l0_0 (rd t338 x25_1)).f3) x36_2).f3)] 37 (0, 0))) := ⟨by (with_reducible repeat first | apply bn | apply bd | apply ba); refine blk_put (cs := #[.string ((rd_T37 ((rd_T32 l0_0 (rd t338 x25_1)).f3) x36_2).f0), .bool ((rd_T37 ((rd_T32 l0_0 (rd t338 x25_1)).f3) x36_2).f1), .slice A344_2 ((rd_T37 ((rd_T32 l0_0 (rd t338 x25_1)).f3) x36_2).f2).length c344_2, .string (⟨#[]⟩ : ByteArray)]) ?_ 3 _ rfl; refine blk_put (cs := #[.string ((rd_T37 ((rd_T32 l0_0 (rd t338 x25_1)).f3) x36_2).f0), .bool ((rd_T37 ((rd_T32 l0_0 (rd t338 x25_1)).f3) x36_2).f1), .slice none 0 0, .string (⟨#[]⟩ : ByteArray)]) ?_ 2 _ rfl; refine blk_put (cs := #[.string ((rd_T37 ((rd_T32 l0_0 (rd t338 x25_1)).f3) x36_2).f0), .bool false, .slice none 0 0, .string (⟨#[]⟩ : ByteArray)]) ?_ 1 _ rfl; refine blk_put (cs := #[.string (⟨#[]⟩ : ByteArray), .bool false, .slice none 0 0, .string (⟨#[]⟩ : ByteArray)]) ?_ 0 _ rfl; (with_reducible repeat first | apply bn | apply bd | apply ba); exact BK345.out⟩
                have n4_ : Aside0 (Below w.heap.size w ((((w26.setCell ⟨gb345, 0, none⟩ (.string ((rd_T37 ((rd_T32 l0_0 (rd t338 x25_1)).f3) x36_2).f0))).setCell ⟨gb345, 1, none⟩ (.bool ((rd_T37 ((rd_T32 l0_0 (rd t338 x25_1)).f3) x36_2).f1))).setCell ⟨gb345, 2, none⟩ (.slice A344_2 ((rd_T37 ((rd_T32 l0_0 (rd t338 x25_1)).f3) x36_2).f2).length c344_2)).setCell ⟨gb345, 3, none⟩ (.string ((rd_T37 ((rd_T32 l0_0 (rd t338 x25_1)).f3) x36_2).f3)))) := ⟨by repeat with_reducible first | exact HB.out | apply below_alloc | apply pw_below_drewN | apply below_drew1 | refine below_set ?_ GE335.out | refine below_set ?_ GE336.out | refine below_set ?_ GE345.out⟩
                (try clear HO_23)
                (try clear BK335)
                (try clear BK336)
                (try clear BK345)
                (try clear HB)
                generalize ((((w26.setCell ⟨gb345, 0, none⟩ (.string ((rd_T37 ((rd_T32 l0_0 (rd t338 x25_1)).f3) x36_2).f0))).setCell ⟨gb345, 1, none⟩ (.bool ((rd_T37 ((rd_T32 l0_0 (rd t338 x25_1)).f3) x36_2).f1))).setCell ⟨gb345, 2, none⟩ (.slice A344_2 ((rd_T37 ((rd_T32 l0_0 (rd t338 x25_1)).f3) x36_2).f2).length c344_2)).setCell ⟨gb345, 3, none⟩ (.string ((rd_T37 ((rd_T32 l0_0 (rd t338 x25_1)).f3) x36_2).f3))) = w30 at n0_ n1_ n2_ n3_ n4_ ⊢
                have HO_23 := n0_
                have BK335 := n1_
                have BK336 := n2_
                have BK345 := n3_
                have HB := n4_
                clear n0_ n1_ n2_ n3_ n4_
                have n0_ := Aside0.mk (Kd.R_drew HO_23.out)
                have n1_ := Aside0.mk (blk_drew BK335.out)
                have n2_ := Aside0.mk (blk_drew BK336.out)
                have n3_ := Aside0.mk (blk_drew BK345.out)
                have n4_ := Aside0.mk (below_drew1 HB.out)
                clear HO_23
                clear BK335
                clear BK336
                clear BK345
                clear HB
                have HO_23 := n0_
                have BK335 := n1_
                have BK336 := n2_
                have BK345 := n3_
                have HB := n4_
                clear n0_ n1_ n2_ n3_ n4_
                have p346 : 0 ≤ ((rd t338 x25_1) : Int) := of_decide_eq_true (by first | (with_reducible assumption) | assumption)
                have q346 : (rd t338 x25_1) < (l0_0.length : Int) := of_decide_eq_true (by first | (with_reducible assumption) | assumption)
                obtain ⟨ad346, A346_2, c346_2, A346_3, c346_3, e346, hx346_0, hx346_1, hx346_2, hx346_3, hl346_2, hi346_2, hl346_3, hi346_3⟩ := at_T32 HR0_0.out (rd t338 x25_1) p346 q346
                have hw346_3 := hx346_3
                have hw346_2 := hx346_2
                have hw346_1 := hx346_1
                have hw346_0 := hx346_0
                obtain rfl : ad343 = ad346 := (by injection e346)
                replace hx346_0 := (HB.out.cell (World.block_lt_of_cell? w _ hx346_0)).trans hx346_0
                replace hx346_1 := (HB.out.cell (World.block_lt_of_cell? w _ hx346_1)).trans hx346_1
                replace hx346_2 := (HB.out.cell (World.block_lt_of_cell? w _ hx346_2)).trans hx346_2
                replace hx346_3 := (HB.out.cell (World.block_lt_of_cell? w _ hx346_3)).trans hx346_3
                have HR346_2 := Aside0.mk hi346_2
                have HC346_2 := Aside0.mk hl346_2
                clear hi346_2 hl346_2
                have HR346_3 := Aside0.mk hi346_3
                have HC346_3 := Aside0.mk hl346_3
                clear hi346_3 hl346_3
                replace p346 := eq_true p346
                replace q346 := eq_true q346
                refine start_ (n := 11) (S := fun w' => w'.cell? ⟨gb335, 0, none⟩ = some (.slice (some ad343) l0_0.length c0_0) ∧ w'.cell? ⟨gb345, 0, none⟩ = some (.string ((rd_T37 ((rd_T32 l0_0 (rd t338 x25_1)).f3) x36_2).f0)) ∧ w'.cell? ⟨gb345, 1, none⟩ = some (.bool ((rd_T37 ((rd_T32 l0_0 (rd t338 x25_1)).f3) x36_2).f1)) ∧ w'.cell? ⟨gb345, 2, none⟩ = some (.slice A344_2 ((rd_T37 ((rd_T32 l0_0 (rd t338 x25_1)).f3) x36_2).f2).length c344_2) ∧ w'.cell? ⟨gb345, 3, none⟩ = some (.string ((rd_T37 ((rd_T32 l0_0 (rd t338 x25_1)).f3) x36_2).f3)) ∧ w'.cell? (ad343.add (((rd t338 x25_1)).toNat * 4)) = some (.string ((rd_T32 l0_0 (rd t338 x25_1)).f0)) ∧ w'.cell? ⟨(ad343.add (((rd t338 x25_1)).toNat * 4)).block, (ad343.add (((rd t338 x25_1)).toNat * 4)).off + 1, none⟩ = some (.string ((rd_T32 l0_0 (rd t338 x25_1)).f1)) ∧ w'.cell? ⟨(ad343.add (((rd t338 x25_1)).toNat * 4)).block, (ad343.add (((rd t338 x25_1)).toNat * 4)).off + 2, none⟩ = some (.slice A346_2 ((rd_T32 l0_0 (rd t338 x25_1)).f2).length c346_2) ∧ w'.cell? ⟨(ad343.add (((rd t338 x25_1)).toNat * 4)).block, (ad343.add (((rd t338 x25_1)).toNat * 4)).off + 3, none⟩ = some (.slice A346_3 ((rd_T32 l0_0 (rd t338 x25_1)).f3).length c346_3)) (ds := []) #[false,false,false,false,false,false,false,false,false,false,false] (by kernel_rfl) rfl rfl ⟨(blk_cell BK335.out 0).trans rfl, (blk_cell BK345.out 0).trans rfl, (blk_cell BK345.out 1).trans rfl, (blk_cell BK345.out 2).trans rfl, (blk_cell BK345.out 3).trans rfl, ((HB.out.cell (World.block_lt_of_cell? w _ hw346_0)).trans hw346_0), ((HB.out.cell (World.block_lt_of_cell? w _ hw346_1)).trans hw346_1), ((HB.out.cell (World.block_lt_of_cell? w _ hw346_2)).trans hw346_2), ((HB.out.cell (World.block_lt_of_cell? w _ hw346_3)).trans hw346_3)⟩ (fun hHeld => ?_); refine with_tabW hier_Lookup.tab9 hier_Lookup.bits9 (fun HT_ HW_ => ?_)
                generalize w30.drew = w31 at HO_23 BK335 BK336 BK345 HB HR346_2 HR346_3 hx346_0 hx346_1 hx346_2 hx346_3 hHeld ⊢
                refine pure_ (i := 0) (N := some 44) (v := ?_) (a' := ?_) #[true,false,false,false,false,false,false,false,false,false,false] rfl rfl (any_of HT_.out (by kernel_rfl)) (fun _ _ _ h => h) (Or.inl ⟨by rfl, ?_⟩) ?_ ?_
                rotate_left;focus(intro w';go_simp;with_reducible rfl)
                rotate_left;focus(simp only [Act.put, List.setIfInBounds_toArray, List.set_cons_zero, List.set_cons_succ, i64_w];rfl)
                refine pure_ (i := 2) (N := some 46) (v := ?_) (a' := ?_) #[true,false,true,false,false,false,false,false,false,false,false] rfl rfl (any_of HT_.out (by kernel_rfl)) (fun _ _ _ h => h) (Or.inl ⟨by rfl, ?_⟩) ?_ ?_
                rotate_left;focus(intro w';go_simp;with_reducible rfl)
                rotate_left;focus(simp only [Act.put, List.setIfInBounds_toArray, List.set_cons_zero, List.set_cons_succ, i64_w];rfl)
                refine take_ (i := 1) (N := some 45) (v := ?_) (a' := ?_) #[true,true,true,false,false,false,false,false,false,false,false] rfl rfl (take_ofW HT_.out HW_.out (by kernel_rfl)) (fun _ _ _ h => h) (Or.inl ⟨by rfl, ?_⟩) hHeld ?_ ?_
                rotate_left;focus(rintro w' ⟨s0, s1, s2, s3, s4, s5, s6, s7, s8⟩;go_simp;with_reducible rfl)
                rotate_left;focus(simp only [Act.put, List.setIfInBounds_toArray, List.set_cons_zero, List.set_cons_succ, i64_w];rfl)
                refine pure_ (i := 3) (N := some 47) (v := ?_) (a' := ?_) #[true,true,true,true,false,false,false,false,false,false,false] rfl rfl (any_of HT_.out (by kernel_rfl)) (fun _ _ _ h => h) (Or.inl ⟨by rfl, ?_⟩) ?_ ?_
                rotate_left;focus(intro w';go_simp;with_reducible rfl)
                rotate_left;focus(simp only [Act.put, List.setIfInBounds_toArray, List.set_cons_zero, List.set_cons_succ, i64_w];rfl)
                refine pure_ (i := 4) (N := some 48) (v := ?_) (a' := ?_) #[true,true,true,true,true,false,false,false,false,false,false] rfl rfl (any_of HT_.out (by kernel_rfl)) (fun _ _ _ h => h) (Or.inl ⟨by rfl, ?_⟩) ?_ ?_
                rotate_left;focus(intro w';go_simp;with_reducible rfl)
                rotate_left;focus(simp only [Act.put, List.setIfInBounds_toArray, List.set_cons_zero, List.set_cons_succ, i64_w];rfl)
                refine take_ (i := 5) (N := some 49) (v := ?_) (a' := ?_) #[true,true,true,true,true,true,false,false,false,false,false] rfl rfl (take_ofW HT_.out HW_.out (by kernel_rfl)) (fun _ _ _ h => h) (Or.inl ⟨by rfl, ?_⟩) hHeld ?_ ?_
                rotate_left;focus(rintro w' ⟨s0, s1, s2, s3, s4, s5, s6, s7, s8⟩;go_simp;with_reducible rfl)
                rotate_left;focus(simp only [Act.put, List.setIfInBounds_toArray, List.set_cons_zero, List.set_cons_succ, i64_w];rfl)
                refine take_ (i := 6) (N := some 50) (v := ?_) (a' := ?_) #[true,true,true,true,true,true,true,false,false,false,false] rfl rfl (take_ofW HT_.out HW_.out (by kernel_rfl)) (fun _ _ _ h => h) (Or.inl ⟨by rfl, ?_⟩) hHeld ?_ ?_
                rotate_left;focus(rintro w' ⟨s0, s1, s2, s3, s4, s5, s6, s7, s8⟩;go_simp;with_reducible rfl)
                rotate_left;focus(simp only [Act.put, List.setIfInBounds_toArray, List.set_cons_zero, List.set_cons_succ, i64_w];rfl)
                refine one_ (i := 7) (N := some 51) #[true,true,true,true,true,true,true,true,false,false,false] rfl rfl (one_of HT_.out (by kernel_rfl)) (by decide) (fun K hK => ?_)
                refine goes_ Tryd.func28 (by kernel_rfl) rfl #[.agg #[.string ((rd_T37 ((rd_T32 l0_0 (rd t338 x25_1)).f3) x36_2).f0), .bool ((rd_T37 ((rd_T32 l0_0 (rd t338 x25_1)).f3) x36_2).f1), .slice A344_2 ((rd_T37 ((rd_T32 l0_0 (rd t338 x25_1)).f3) x36_2).f2).length c344_2, .string ((rd_T37 ((rd_T32 l0_0 (rd t338 x25_1)).f3) x36_2).f3)]] (by rfl) rfl rfl (by (try simp only [List.map_toArray, List.map_cons, List.map_nil]); first | done | rfl) ?_
                with_reducible refine (hier_copySig.calls ((rd_T37 ((rd_T32 l0_0 (rd t338 x25_1)).f3) x36_2).f0) ((rd_T37 ((rd_T32 l0_0 (rd t338 x25_1)).f3) x36_2).f1) _ _ ((rd_T37 ((rd_T32 l0_0 (rd t338 x25_1)).f3) x36_2).f2) ((rd_T37 ((rd_T32 l0_0 (rd t338 x25_1)).f3) x36_2).f3) t347 t348 t349 t352 _ ?side1 ?side2 A25.out).mono ?_
                (case side1 => repeat (first | exact (Kd.C_below HR344_2.out HB.out) | (with_reducible refine Kd.C_alloc ?_ _) | (with_reducible refine Kd.C_drewN ?_ _) | (with_reducible refine Kd.C_drew ?_)))
                (case side2 => exact HC344_2.out)
                rintro e w32 ⟨v350, rfl, ho0, hb⟩
                refine ⟨_, rfl, ?_⟩
                have n0_ := Aside0.mk (Kd.R_below (by (with_reducible repeat first | apply Kd.R_alloc | apply Kd.R_drewN | apply Kd.R_drew); exact HO_23.out) hb)
                have n1_ := Aside0.mk (Kd.R_lower ho0 (below_size (by repeat with_reducible first | exact HB.out | apply below_alloc | apply pw_below_drewN | apply below_drew1 | refine below_set ?_ GE335.out | refine below_set ?_ GE336.out | refine below_set ?_ GE345.out)))
                have n2_ := Aside0.mk (blk_below (g := gb335) (o := .cells #[.slice (some ad343) l0_0.length c0_0] 24 (0, 0)) (by (with_reducible repeat first | apply bn | apply bd | apply ba); exact BK335.out) hb)
                have n3_ := Aside0.mk (blk_below (g := gb336) (o := .cells #[.string x337000_2, .bool x337001_2, .slice none 0 0, .string x337003_2] 37 (0, 0)) (by (with_reducible repeat first | apply bn | apply bd | apply ba); exact BK336.out) hb)
                have n4_ := Aside0.mk (blk_below (g := gb345) (o := .cells #[.string ((rd_T37 ((rd_T32 l0_0 (rd t338 x25_1)).f3) x36_2).f0), .bool ((rd_T37 ((rd_T32 l0_0 (rd t338 x25_1)).f3) x36_2).f1), .slice A344_2 ((rd_T37 ((rd_T32 l0_0 (rd t338 x25_1)).f3) x36_2).f2).length c344_2, .string ((rd_T37 ((rd_T32 l0_0 (rd t338 x25_1)).f3) x36_2).f3)] 37 (0, 0)) (by (with_reducible repeat first | apply bn | apply bd | apply ba); exact BK345.out) hb)
                have n5_ := Aside0.mk (below_step (by repeat with_reducible first | exact HB.out | apply below_alloc | apply pw_below_drewN | apply below_drew1 | refine below_set ?_ GE335.out | refine below_set ?_ GE336.out | refine below_set ?_ GE345.out) hb)
                clear HO_23
                clear BK335
                clear BK336
                clear BK345
                clear HB
                have HO_23 := n0_
                have HO351 := n1_
                have BK335 := n2_
                have BK336 := n3_
                have BK345 := n4_
                have HB := n5_
                clear n0_ n1_ n2_ n3_ n4_ n5_
                (try clear hb)
                (try clear hb2)
                (try clear hk)
                (try clear hi)
                (try clear ho0)
                obtain ⟨Ao35, co35, eo35⟩ := Kd.R_slice HO351.out
                (first | subst eo35 | (injection eo35 with f1_ f2_ f3_; have f4_ := f1_.symm; have f5_ := f3_.symm; clear f1_ f2_ f3_; subst f4_; subst f5_))
                refine hK.out _ _ ⟨(blk_cell BK335.out 0).trans rfl, (blk_cell BK345.out 0).trans rfl, (blk_cell BK345.out 1).trans rfl, (blk_cell BK345.out 2).trans rfl, (blk_cell BK345.out 3).trans rfl, ((HB.out.cell (World.block_lt_of_cell? w _ hw346_0)).trans hw346_0), ((HB.out.cell (World.block_lt_of_cell? w _ hw346_1)).trans hw346_1), ((HB.out.cell (World.block_lt_of_cell? w _ hw346_2)).trans hw346_2), ((HB.out.cell (World.block_lt_of_cell? w _ hw346_3)).trans hw346_3)⟩ (fun hHeld => ?_)
                clear hK K
                refine norm_ (a' := ?_) ?_ ?_
                rotate_left;focus(show Act.put _ (some 51) _ = _;simp only [Act.put, List.setIfInBounds_toArray, List.set_cons_zero, List.set_cons_succ, i64_w];rfl)
                refine pure_ (i := 8) (N := some 6) (v := ?_) (a' := ?_) #[true,true,true,true,true,true,true,true,true,false,false] rfl rfl (any_of HT_.out (by kernel_rfl)) (fun _ _ _ h => h) (Or.inl ⟨by rfl, ?_⟩) ?_ ?_
                rotate_left;focus(intro w';go_simp;with_reducible rfl)
                rotate_left;focus(simp only [Act.put, List.setIfInBounds_toArray, List.set_cons_zero, List.set_cons_succ, i64_w];rfl)
                refine one_ (i := 9) (N := none) #[true,true,true,true,true,true,true,true,true,true,false] rfl rfl (one_of HT_.out (by kernel_rfl)) (by decide) (fun K hK => ?_)
                have hs33 : w32.cell? ⟨gb336, 0, none⟩ = some (.string x337000_2) := (blk_cell BK336.out 0).trans rfl
                have hfs33 := blk_frozen BK336.out 0
                have hns33_0 := NB335_336.out
                have hns33_2 := NB345_336.out
                have hms33_0 := NB336_335.out
                have hms33_2 := NB336_345.out
                have hs34 : w32.cell? ⟨gb336, 1, none⟩ = some (.bool x337001_2) := (blk_cell BK336.out 1).trans rfl
                have hfs34 := blk_frozen BK336.out 1
                have hns34_0 := NB335_336.out
                have hns34_2 := NB345_336.out
                have hms34_0 := NB336_335.out
                have hms34_2 := NB336_345.out
                have hs36 : w32.cell? ⟨gb336, 2, none⟩ = some (.slice none 0 0) := (blk_cell BK336.out 2).trans rfl
                have hfs36 := blk_frozen BK336.out 2
                have hns36_0 := NB335_336.out
                have hns36_2 := NB345_336.out
                have hms36_0 := NB336_335.out
                have hms36_2 := NB336_345.out
                have hs37 : w32.cell? ⟨gb336, 3, none⟩ = some (.string x337003_2) := (blk_cell BK336.out 3).trans rfl
                have hfs37 := blk_frozen BK336.out 3
                have hns37_0 := NB335_336.out
                have hns37_2 := NB345_336.out
                have hms37_0 := NB336_335.out
                have hms37_2 := NB336_345.out
                refine skip_ (w1 := ?_) (by rfl) rfl ?_ ?_
                rotate_left;focus(go_simp;rfl)
                refine hK.out _ _ ⟨(far4 (g := gb336) NB335_336.out (hHeld.1)), (far4 (g := gb336) NB345_336.out (hHeld.2.1)), (far4 (g := gb336) NB345_336.out (hHeld.2.2.1)), (far4 (g := gb336) NB345_336.out (hHeld.2.2.2.1)), (far4 (g := gb336) NB345_336.out (hHeld.2.2.2.2.1)), (far4 (g := gb336) (ltw hw346_0 GW336.out) (hHeld.2.2.2.2.2.1)), (far4 (g := gb336) (ltw hw346_1 GW336.out) (hHeld.2.2.2.2.2.2.1)), (far4 (g := gb336) (ltw hw346_2 GW336.out) (hHeld.2.2.2.2.2.2.2.1)), (far4 (g := gb336) (ltw hw346_3 GW336.out) (hHeld.2.2.2.2.2.2.2.2))⟩ (fun hHeld => ?_)
                clear hK K
                refine pure_ (i := 10) (N := some 8) (v := ?_) (a' := ?_) #[true,true,true,true,true,true,true,true,true,true,true] rfl rfl (any_of HT_.out (by kernel_rfl)) (fun _ _ _ h => h) (Or.inl ⟨by rfl, ?_⟩) ?_ ?_
                rotate_left;focus(intro w';go_simp;with_reducible rfl)
                rotate_left;focus(simp only [Act.put, List.setIfInBounds_toArray, List.set_cons_zero, List.set_cons_succ, i64_w];rfl)
                refine done_ (done_of HT_.out (by kernel_rfl)) ?_
                try go_wp2
                refine bodyPost_ret (results_list (rs := [.tmp 6, .cell 7 37, .tmp 8]) rfl (by simp) (.tmp (.cell gb336 37 #[.string t347, .bool t348, .slice Ao35 t349.length co35, .string t352] (0, 0) _ rfl (by (with_reducible repeat first | apply bn | apply bd | apply ba); refine blk_put (cs := #[.string t347, .bool t348, .slice Ao35 t349.length co35, .string x337003_2]) ?_ 3 _ rfl; refine blk_put (cs := #[.string t347, .bool t348, .slice none 0 0, .string x337003_2]) ?_ 2 _ rfl; refine blk_put (cs := #[.string t347, .bool x337001_2, .slice none 0 0, .string x337003_2]) ?_ 1 _ rfl; refine blk_put (cs := #[.string x337000_2, .bool x337001_2, .slice none 0 0, .string x337003_2]) ?_ 0 _ rfl; (with_reducible repeat first | apply bn | apply bd | apply ba); exact BK336.out) Tryd.underlying37 rfl (by kernel_rfl) (.tmp .nil)))) rfl ?_
                exact ⟨_, by first | rfl | (simp [errW_none, errW_some] <;> rfl) | (simp [*, errW_none, errW_some] <;> rfl), by (with_reducible repeat first | apply Kd.R_alloc | apply Kd.R_drewN | apply Kd.R_drew); exact Kd.R_mono (Kd.R_far (p := ⟨gb336, 3, none⟩) (Kd.R_far (p := ⟨gb336, 2, none⟩) (Kd.R_far (p := ⟨gb336, 1, none⟩) (Kd.R_far (p := ⟨gb336, 0, none⟩) (Kd.R_types HO351.out BK336.out (by decide)) (fun _ hk => hk.2) (.string t347)) (fun _ hk => hk.2) (.bool t348)) (fun _ hk => hk.2) (.slice Ao35 t349.length co35)) (fun _ hk => hk.2) (.string t352)) (fun _ hk => trivial), by repeat with_reducible first | exact HB.out | apply below_alloc | apply pw_below_drewN | apply below_drew1 | refine below_set ?_ GE335.out | refine below_set ?_ GE336.out | refine below_set ?_ GE345.out⟩
               ·rw [if_neg c24] at H
                exact absurd H (by simp)
              ·rw [if_neg c23] at H
               exact absurd H (by simp)
             ·rw [if_neg c22] at H
              have c22b0 : (((rd_T37 ((rd_T32 l0_0 (rd t338 x25_1)).f3) x36_2).f0).toList == a2.toList) = false := beq_eq_false_iff_ne.mpr c22
              have c22b1 : (((rd_T37 ((rd_T32 l0_0 (rd t338 x25_1)).f3) x36_2).f0).toList != a2.toList) = true := bne_iff_ne.mpr c22
              have H' := Aside0.mk H
              clear H
              have p344 : 0 ≤ (x36_2 : Int) := of_decide_eq_true (by first | (with_reducible assumption) | assumption)
              have q344 : x36_2 < (((rd_T32 l0_0 (rd t338 x25_1)).f3).length : Int) := of_decide_eq_true (by first | (with_reducible assumption) | assumption)
              obtain ⟨ad344, A344_2, c344_2, e344, hx344_0, hx344_1, hx344_2, hx344_3, hl344_2, hi344_2⟩ := at_T37 HR343_3.out x36_2 p344 q344
              cases e344
              replace hx344_0 := (HB.out.cell (World.block_lt_of_cell? w _ hx344_0)).trans hx344_0
              replace hx344_1 := (HB.out.cell (World.block_lt_of_cell? w _ hx344_1)).trans hx344_1
              replace hx344_2 := (HB.out.cell (World.block_lt_of_cell? w _ hx344_2)).trans hx344_2
              replace hx344_3 := (HB.out.cell (World.block_lt_of_cell? w _ hx344_3)).trans hx344_3
              have HR344_2 := Aside0.mk hi344_2
              have HC344_2 := Aside0.mk hl344_2
              clear hi344_2 hl344_2
              replace p344 := eq_true p344
              replace q344 := eq_true q344
              go_wp2_with (first | ((with_reducible refine gate_dst (N := 14) rfl ?_); refine box_event ?hg (N := 14) ?hd (cs := #[.string (⟨#[]⟩ : ByteArray), .bool false, .slice none 0 0, .string (⟨#[]⟩ : ByteArray)]) (t := 37) ?hr ?_; (case hd => rfl); (case hg => rfl); (case hr => first | (go_simp; done) | (go_simp; rfl)); intro gb345 hg w38 hbox hb; have n0_ := Aside0.mk (Kd.R_below (by (with_reducible repeat first | apply Kd.R_alloc | apply Kd.R_drewN | apply Kd.R_drew); exact HO_23.out) hb); have n1_ := Aside0.mk (blk_below (g := gb335) (o := .cells #[.slice (some ad343) l0_0.length c0_0] 24 (0, 0)) (by (with_reducible repeat first | apply bn | apply bd | apply ba); exact BK335.out) hb); have n2_ := Aside0.mk (blk_below (g := gb336) (o := .cells #[.string x337000_2, .bool x337001_2, .slice none 0 0, .string x337003_2] 37 (0, 0)) (by (with_reducible repeat first | apply bn | apply bd | apply ba); exact BK336.out) hb); have n3_ := Aside0.mk (below_step (by repeat with_reducible first | exact HB.out | apply below_alloc | apply pw_below_drewN | apply below_drew1 | refine below_set ?_ GE335.out | refine below_set ?_ GE336.out) hb); have n4_ := Aside0.mk (hbox); have n5_ := Aside0.mk ((by rw [hg]; exact (below_size (by repeat with_reducible first | exact HB.out | apply below_alloc | apply pw_below_drewN | apply below_drew1 | refine below_set ?_ GE335.out | refine below_set ?_ GE336.out)) : w.heap.size ≤ gb345)); have n6_ := Aside0.mk ((by rw [hg]; exact (below_size (by repeat with_reducible first | exact HB.out | apply below_alloc | apply pw_below_drewN | apply below_drew1 | refine below_set ?_ GE335.out | refine below_set ?_ GE336.out)) : w.heap.size ≤ gb345)); have n7_ := Aside0.mk ((by rw [hg]; exact Nat.ne_of_lt (blk_lt (g := gb335) (o := .cells #[.slice (some ad343) l0_0.length c0_0] 24 (0, 0)) (by (with_reducible repeat first | apply bn | apply bd | apply ba); exact BK335.out)) : gb335 ≠ gb345)); have n8_ := Aside0.mk ((by rw [hg]; exact Nat.ne_of_gt (blk_lt (g := gb335) (o := .cells #[.slice (some ad343) l0_0.length c0_0] 24 (0, 0)) (by (with_reducible repeat first | apply bn | apply bd | apply ba); exact BK335.out)) : gb345 ≠ gb335)); have n9_ := Aside0.mk ((by rw [hg]; exact Nat.ne_of_lt (blk_lt (g := gb336) (o := .cells #[.string x337000_2, .bool x337001_2, .slice none 0 0, .string x337003_2] 37 (0, 0)) (by (with_reducible repeat first | apply bn | apply bd | apply ba); exact BK336.out)) : gb336 ≠ gb345)); have n10_ := Aside0.mk ((by rw [hg]; exact Nat.ne_of_gt (blk_lt (g := gb336) (o := .cells #[.string x337000_2, .bool x337001_2, .slice none 0 0, .string x337003_2] 37 (0, 0)) (by (with_reducible repeat first | apply bn | apply bd | apply ba); exact BK336.out)) : gb345 ≠ gb336)); clear HO_23; clear BK335; clear BK336; clear HB; have HO_23 := n0_; have BK335 := n1_; have BK336 := n2_; have HB := n3_; have BK345 := n4_; have GW345 := n5_; have GE345 := n6_; have NB335_345 := n7_; have NB345_335 := n8_; have NB336_345 := n9_; have NB345_336 := n10_; clear n0_ n1_ n2_ n3_ n4_ n5_ n6_ n7_ n8_ n9_ n10_; clear hb hbox hg; have hnb39 := NB345_335.out; have hnc39 := NB335_345.out; have hnb40 := NB345_336.out; have hnc40 := NB336_345.out; have hcz41_0 : w38.cell? ⟨gb345, 0, none⟩ = some (.string (⟨#[]⟩ : ByteArray)) := (blk_cell BK345.out 0).trans rfl; have hcz41_1 : w38.cell? ⟨gb345, 1, none⟩ = some (.bool false) := (blk_cell BK345.out 1).trans rfl; have hcz41_2 : w38.cell? ⟨gb345, 2, none⟩ = some (.slice none 0 0) := (blk_cell BK345.out 2).trans rfl; have hcz41_3 : w38.cell? ⟨gb345, 3, none⟩ = some (.string (⟨#[]⟩ : ByteArray)) := (blk_cell BK345.out 3).trans rfl; have hfz41_0 := blk_frozen BK345.out 0; have hfz41_1 := blk_frozen BK345.out 1; have hfz41_2 := blk_frozen BK345.out 2; have hfz41_3 := blk_frozen BK345.out 3))
              go_roundg k2
              case measure => have := HK1.out; have := HK2.out; omega
              case rel => exact ⟨(wrap64 (x36_2 + 1)), (x337000_2), (x337001_2), (x337003_2), (by first | rfl | (simp; done) | (simp [*]; done)), H', ⟨by have := HK1.out; have := HK2.out; omega⟩, ⟨by (with_reducible repeat first | apply Kd.R_alloc | apply Kd.R_drewN | apply Kd.R_drew); exact Kd.R_mono (Kd.R_far (p := ⟨gb345, 3, none⟩) (Kd.R_far (p := ⟨gb345, 2, none⟩) (Kd.R_far (p := ⟨gb345, 1, none⟩) (Kd.R_far (p := ⟨gb345, 0, none⟩) (Kd.R_types HO_23.out BK345.out (by decide)) (fun _ hk => hk.2) (.string ((rd_T37 ((rd_T32 l0_0 (rd t338 x25_1)).f3) x36_2).f0))) (fun _ hk => hk.2) (.bool ((rd_T37 ((rd_T32 l0_0 (rd t338 x25_1)).f3) x36_2).f1))) (fun _ hk => hk.2) (.slice A344_2 ((rd_T37 ((rd_T32 l0_0 (rd t338 x25_1)).f3) x36_2).f2).length c344_2)) (fun _ hk => hk.2) (.string ((rd_T37 ((rd_T32 l0_0 (rd t338 x25_1)).f3) x36_2).f3))) (fun _ hk => trivial)⟩, ⟨by (with_reducible repeat first | apply bn | apply bd | apply ba); refine blk_far ?_ NB335_345.out _; refine blk_far ?_ NB335_345.out _; refine blk_far ?_ NB335_345.out _; refine blk_far ?_ NB335_345.out _; (with_reducible repeat first | apply bn | apply bd | apply ba); exact BK335.out⟩, ⟨by (with_reducible repeat first | apply bn | apply bd | apply ba); refine blk_far ?_ NB336_345.out _; refine blk_far ?_ NB336_345.out _; refine blk_far ?_ NB336_345.out _; refine blk_far ?_ NB336_345.out _; (with_reducible repeat first | apply bn | apply bd | apply ba); exact BK336.out⟩, ⟨by repeat with_reducible first | exact HB.out | apply below_alloc | apply pw_below_drewN | apply below_drew1 | refine below_set ?_ GE335.out | refine below_set ?_ GE336.out | refine below_set ?_ GE345.out⟩⟩
            ·rw [if_neg c21] at H
             exact absurd H (by simp)
           ·rw [if_neg c20] at H
            exact absurd H (by simp)
          ·rw [if_neg c19] at H
           have c19b0 : decide (x36_2 < (((rd_T32 l0_0 (rd t338 x25_1)).f3).length : Int)) = false := decide_eq_false c19
           clear c19
           have H' := Aside0.mk H
           clear H
           go_wp2
           go_roundg k2
           case measure => have := HK1.out; have := HK2.out; omega
           case rel => exact ⟨(wrap64 (x25_1 + 1)), (x337000_2), (x337001_2), (x337003_2), (by first | rfl | (simp; done) | (simp [*]; done)), H', ⟨by have := HK1.out; have := HK2.out; omega⟩, ⟨by (with_reducible repeat first | apply Kd.R_alloc | apply Kd.R_drewN | apply Kd.R_drew); exact HO_23.out⟩, ⟨by (with_reducible repeat first | apply bn | apply bd | apply ba); exact BK335.out⟩, ⟨by (with_reducible repeat first | apply bn | apply bd | apply ba); exact BK336.out⟩, ⟨by repeat with_reducible first | exact HB.out | apply below_alloc | apply pw_below_drewN | apply below_drew1 | refine below_set ?_ GE335.out | refine below_set ?_ GE336.out⟩⟩
       ·rw [if_neg c16] at H
        exact absurd H (by simp)
      ·rw [if_neg c15] at H
       exact absurd H (by simp)
     ·rw [if_neg c14] at H
      exact absurd H (by simp)
    ·rw [if_neg c13] at H
     exact absurd H (by simp)
   ·rw [if_neg c12] at H
    have c12b0 : decide (x25_1 < (t338.length : Int)) = false := decide_eq_false c12
    clear c12
    simp only [Option.some.injEq, Prod.mk.injEq] at H
    obtain ⟨rfl, rfl, rfl, rfl, rfl, rfl⟩ := H
    have hnb42 := NB336_335.out
    have hnc42 := NB335_336.out
    have hcz43_0 : wr.cell? ⟨gb336, 0, none⟩ = some (.string x337000_1) := (blk_cell BK336.out 0).trans rfl
    have hcz43_1 : wr.cell? ⟨gb336, 1, none⟩ = some (.bool x337001_1) := (blk_cell BK336.out 1).trans rfl
    have hcz43_2 : wr.cell? ⟨gb336, 2, none⟩ = some (.slice none 0 0) := (blk_cell BK336.out 2).trans rfl
    have hcz43_3 : wr.cell? ⟨gb336, 3, none⟩ = some (.string x337003_1) := (blk_cell BK336.out 3).trans rfl
    have hfz43_0 := blk_frozen BK336.out 0
    have hfz43_1 := blk_frozen BK336.out 1
    have hfz43_2 := blk_frozen BK336.out 2
    have hfz43_3 := blk_frozen BK336.out 3
    go_wp2
    refine bodyPost_ret (results_list (rs := [.tmp 6, .cell 7 37, .tmp 8]) rfl (by simp) (.tmp (.cell gb336 37 #[.string (⟨#[]⟩ : ByteArray), .bool false, .slice none 0 0, .string (⟨#[]⟩ : ByteArray)] (0, 0) _ rfl (by (with_reducible repeat first | apply bn | apply bd | apply ba); refine blk_put (cs := #[.string (⟨#[]⟩ : ByteArray), .bool false, .slice none 0 0, .string x337003_1]) ?_ 3 _ rfl; refine blk_put (cs := #[.string (⟨#[]⟩ : ByteArray), .bool false, .slice none 0 0, .string x337003_1]) ?_ 2 _ rfl; refine blk_put (cs := #[.string (⟨#[]⟩ : ByteArray), .bool x337001_1, .slice none 0 0, .string x337003_1]) ?_ 1 _ rfl; refine blk_put (cs := #[.string x337000_1, .bool x337001_1, .slice none 0 0, .string x337003_1]) ?_ 0 _ rfl; (with_reducible repeat first | apply bn | apply bd | apply ba); exact BK336.out) Tryd.underlying37 rfl (by kernel_rfl) (.tmp .nil)))) rfl ?_
    exact ⟨_, by first | rfl | (simp [errW_none, errW_some] <;> rfl) | (simp [*, errW_none, errW_some] <;> rfl), by first | exact Kd.R_nil _ _ _ _ _ | exact Kd.N_nil _ _ _ _ _ | exact Kd.V_nil _ _ _ _ _ | exact Kd.Q_nil _ _ _ _ _ | exact Kd.S_nil _ _ _ _ _, by repeat with_reducible first | exact HB.out | apply below_alloc | apply pw_below_drewN | apply below_drew1 | refine below_set ?_ GE335.out | refine below_set ?_ GE336.out⟩

end Go.Proofs.YtkbclcecmcdlfaaDoor.PD
