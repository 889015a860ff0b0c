/- Printed by a program of this session out of the translation: plain functions with the answers of the Go functions, and the proofs that they have them. -/
import Derived.Test.YtkbclcecmcdlfaaPHx0
import Derived.Lib.SliceRun
namespace Go.Proofs.Ytkbclcecmcdlfaa.PH
open Go.RowKit Go.Proofs.YtkbclcecmcdlfaaW.PrintWords Go.Proofs.YtkbclcecmcdlfaaW.PrintLast Go.Proofs.YtkbclcecmcdlfaaW.PrintMore
attribute [local go_sem] max2_int min2_int max_two min_two max_three min_three max_four min_four   -- for this text's walks alone
set_option linter.unusedVariables false
set_option linter.unusedSimpArgs false

/-! ### api_Field: function 9 -/
def api_Field.f (l0 : List (S37)) : Option ((List (S37))) := (some (([] : List (S37)) : List (S37))).bind fun y126 => (if y126.length + l0.length < 4398046511104 then (some (y126 ++ l0)) else (none))
set_option maxHeartbeats 8000000 in
set_option maxRecDepth 100000 in
theorem api_Field.calls (A0 : Option Addr) (c0 : Nat) (l0 : List (S37)) (r : List (S37)) (w : World) (hr0 : Kd.C k37 w A0 l0.length l0) (hc0 : l0.length ≤ c0) (h : api_Field.f l0 = some r) :
  Calls Try.prog 9 #[.slice A0 l0.length c0] w fun e w' => ∃ v0_ : Value, e = .returned (v0_) ∧ Kd.R k37 37 w' w.heap.size (fun _ => True) v0_ r ∧ Below w.heap.size w w' := by
 have HR0 := Aside0.mk hr0
 have HC0 := Aside0.mk hc0
 clear hr0 hc0
 have HB := Aside0.mk (Below.refl w.heap.size w)
 have H : ((some (([] : List (S37)) : List (S37))).bind fun y126 => (if y126.length + l0.length < 4398046511104 then (some (y126 ++ l0)) else (none))) = some r := h
 clear h
 obtain ⟨y126, hy126⟩ : ∃ y_ : List (S37), y_ = (([] : List (S37))) := ⟨_, rfl⟩
 replace H : (if y126.length + l0.length < 4398046511104 then (some (y126 ++ l0)) else (none)) = some r := by first | (rw [hy126]; with_reducible exact H) | (have H2_ := (Option.bind_some _ _).symm.trans H; rw [hy126]; with_reducible exact H2_) | (have H2_ := (Option.bind_some _ _).symm.trans H; with_reducible exact H2_) | with_reducible exact H | (rw [hy126]; exact H) | exact H
 have Ny126 := Aside0.mk hy126
 clear hy126
 by_cases c2 : y126.length + l0.length < 4398046511104
 ·rw [if_pos c2] at H
  have LMc2 := Aside0.mk c2
  clear c2
  obtain ⟨y129, hy129⟩ : ∃ y_ : List (S37), y_ = (y126 ++ l0) := ⟨_, rfl⟩
  replace H : (some y129) = some r := by first | (rw [hy129]; with_reducible exact H) | (have H2_ := (Option.bind_some _ _).symm.trans H; rw [hy129]; with_reducible exact H2_) | (have H2_ := (Option.bind_some _ _).symm.trans H; with_reducible exact H2_) | with_reducible exact H | (rw [hy129]; exact H) | exact H
  have Ny129 := Aside0.mk hy129
  clear hy129
  obtain rfl := Option.some.inj H
  have q_ : ∀ (w : World) (a : Option Addr) (n c n' c' : Nat), (binOp .eql 32 (.slice a n c) (.slice none n' c')).run Try.prog w = .ok (.bool a.isNone) w := fun w a n c n' c' => Lib.run_eql_slice_nil w _ _ a n c n' c' Try.underlying32
  cases A0 with
  | none =>
   have hz_ : l0.length = 0 := by
    rcases Nat.eq_zero_or_pos l0.length with h | h
    ·exact h
    ·obtain ⟨ad, c, e, _⟩ := Kd.C_get HR0.out z37 0 (by omega) (by omega)
     cases e
   have hl_ : l0 = [] := List.eq_nil_of_length_eq_zero hz_
   subst hl_
   have hy_ : y129 = [] := by rw [Ny129.out, Ny126.out]; rfl
   rw [hy_]
   go_enter Try.func9, Try.ntmps9
   go_wp2
   go_ret
   exact ⟨_, rfl, by first | exact Kd.R_nil _ _ _ _ _ | exact Kd.V_nil _ _ _ _ _, HB.out⟩
  | some ad0 =>
   go_enter Try.func9, Try.ntmps9
   go_wp2_with (first | ((with_reducible refine gate_dst (N := 5) rfl ?_); refine Kd.R_lit k37 _ 37 ?hg (N := 5) ?hd (xs := ([] : List (S37))) (inner := []) (ok := fun _ => True) (okp := fun _ => True) ?hr ?hp (fun _ hk => hk) trivial (Below.refl _ _) (Nat.le_refl _) (by simp) ?_; (case hd => rfl); (case hg => rfl); (case hr => first | (go_simp; done) | (go_simp; rfl)); (case hp => exact (Reps.none _ _)); intro v127 w3 ho4 hb hg_ hnew_; clear hg_ hnew_; (first | rw [← Ny126.out] at ho4 | (simp only [Int.reduceToNat] at ho4; rw [← Ny126.out] at ho4)); have n0_ := Aside0.mk (Kd.R_lower ho4 (below_size (by repeat with_reducible first | exact HB.out | apply below_alloc | apply pw_below_drewN | apply below_drew1))); have n1_ := Aside0.mk (below_step (by repeat with_reducible first | exact HB.out | apply below_alloc | apply pw_below_drewN | apply below_drew1) hb); clear HB; have HO128 := n0_; have HB := n1_; clear n0_ n1_; clear hb ho4) | ((with_reducible refine gate_builtin (b := .append) (xs := #[.tmp 5, .tmp 6]) rfl ?_); at_builtin; refine Kd.R_append_rows k37 (w0 := w) w.heap.size rfl (.tmp 5) (.tmp 6) 32 37 (.agg #[(.string ⟨#[]⟩), (.string ⟨#[]⟩)]) 32 rfl Try.underlying32 info37 rfl (by decide) (by omega) v127 y126 l0 _ _ _ (fun _ => True) (fun _ => False) rfl rfl ?aO ?aR (fun _ _ h => h) (fun _ h => h.elim) ?aF ?aB ?aS ?aL ?_; (case aR => repeat (first | exact (Kd.C_below HR0.out HB.out) | (with_reducible refine Kd.C_alloc ?_ _) | (with_reducible refine Kd.C_drewN ?_ _) | (with_reducible refine Kd.C_drew ?_))); (case aB => exact (by repeat with_reducible first | exact HB.out | apply below_alloc | apply pw_below_drewN | apply below_drew1)); (case aF => exact (fun _ _ => trivial)); (case aO => exact (by (with_reducible repeat first | apply Kd.R_alloc | apply Kd.R_drewN | apply Kd.R_drew); exact HO128.out)); (case aS => exact (below_size (by repeat with_reducible first | exact HB.out | apply below_alloc | apply pw_below_drewN | apply below_drew1))); (case aL => have := LMc2.out; omega); intro v130 w5 ho hb hg hat; rw [← Ny129.out] at ho; have n0_ := Aside0.mk (hb); have n1_ := Aside0.mk (ho); clear HB; clear HO128; have HB := n0_; have HO131 := n1_; clear n0_ n1_; clear ho hb hg hat))
   go_ret
   exact ⟨_, by first | rfl | (simp [errW_none, errW_some] <;> rfl) | (simp [*, errW_none, errW_some] <;> rfl), by (with_reducible repeat first | apply Kd.R_alloc | apply Kd.R_drewN | apply Kd.R_drew); exact HO131.out, by repeat with_reducible first | exact HB.out | apply below_alloc | apply pw_below_drewN | apply below_drew1⟩
 ·rw [if_neg c2] at H
  exact absurd H (by simp)

/-! ### hier_Of: function 5 -/
mutual
def hier_Of.l0 : Nat → List (S44) → Int → Int → List (S35) → Option ((List (S35)))
 | 0, _, _, _, _ => none
 | k + 1, x13, x14, x15, x135000 => if x15 < x14 then (if 0 ≤ x15 then (if x15 < (x13.length : Int) then ((api_Field.f ((rd_T44 x13 x15).f2)).bind fun t137 => (hier_Of.l1 k x13 x14 x15 ((rd_T44 x13 x15).f3) (((rd_T44 x13 x15).f3).length : Int) 0 x135000 ((rd_T44 x13 x15).f0) ((rd_T44 x13 x15).f1) t137 ([] : List (S40)))) else (none)) else (none)) else (some x135000)
def hier_Of.l1 : Nat → List (S44) → Int → Int → List (S48) → Int → Int → List (S35) → ByteArray → ByteArray → List (S37) → List (S40) → Option ((List (S35)))
 | 0, _, _, _, _, _, _, _, _, _, _, _ => none
 | k + 1, x13, x14, x15, x28, x29, x30, x135000, x141000, x141001, x141002, x141003 => if x30 < x29 then (if 0 ≤ x30 then (if x30 < (x28.length : Int) then (hier_Of.l2 k x13 x14 x15 x28 x29 x30 ((rd_T48 x28 x30).f2) (((rd_T48 x28 x30).f2).length : Int) 0 x135000 x141000 x141001 x141002 x141003 ((rd_T48 x28 x30).f0) ((rd_T48 x28 x30).f1) ([] : List ByteArray) ((rd_T48 x28 x30).f3)) else (none)) else (none)) else (if x135000.length < 1759218604441 then (hier_Of.l0 k x13 x14 (wrap64 (x15 + 1)) (x135000 ++ [(⟨x141000, x141001, x141002, x141003⟩ : S35)])) else (none))
def hier_Of.l2 : Nat → List (S44) → Int → Int → List (S48) → Int → Int → List (S37) → Int → Int → List (S35) → ByteArray → ByteArray → List (S37) → List (S40) → ByteArray → Bool → List ByteArray → ByteArray → Option ((List (S35)))
 | 0, _, _, _, _, _, _, _, _, _, _, _, _, _, _, _, _, _, _ => none
 | k + 1, x13, x14, x15, x28, x29, x30, x42, x43, x44, x135000, x141000, x141001, x141002, x141003, x147000, x147001, x147002, x147003 => if x44 < x43 then (if 0 ≤ x44 then (if x44 < (x42.length : Int) then (if x147002.length < 8796093022208 then (hier_Of.l2 k x13 x14 x15 x28 x29 x30 x42 x43 (wrap64 (x44 + 1)) x135000 x141000 x141001 x141002 x141003 x147000 x147001 (x147002 ++ [(rd_T37 x42 x44).f1]) x147003) else (none)) else (none)) else (none)) else (if x141003.length < 2199023255552 then (hier_Of.l1 k x13 x14 x15 x28 x29 (wrap64 (x30 + 1)) x135000 x141000 x141001 x141002 (x141003 ++ [(⟨x147000, x147001, x147002, x147003⟩ : S40)])) else (none))
end
def hier_Of.f (k : Nat) (l0_0 : List (S44)) : Option ((List (S35))) := hier_Of.l0 k l0_0 (l0_0.length : Int) 0 ([] : List (S35))
theorem hier_Of.mono_l : ∀ k, (∀ y0 y1 y2 y3, LeO (hier_Of.l0 k y0 y1 y2 y3) (hier_Of.l0 (k + 1) y0 y1 y2 y3)) ∧ (∀ y0 y1 y2 y3 y4 y5 y6 y7 y8 y9 y10, LeO (hier_Of.l1 k y0 y1 y2 y3 y4 y5 y6 y7 y8 y9 y10) (hier_Of.l1 (k + 1) y0 y1 y2 y3 y4 y5 y6 y7 y8 y9 y10)) ∧ (∀ y0 y1 y2 y3 y4 y5 y6 y7 y8 y9 y10 y11 y12 y13 y14 y15 y16 y17, LeO (hier_Of.l2 k y0 y1 y2 y3 y4 y5 y6 y7 y8 y9 y10 y11 y12 y13 y14 y15 y16 y17) (hier_Of.l2 (k + 1) y0 y1 y2 y3 y4 y5 y6 y7 y8 y9 y10 y11 y12 y13 y14 y15 y16 y17))
 | 0 => ⟨fun _ _ _ _ r h => by simp [hier_Of.l0] at h, fun _ _ _ _ _ _ _ _ _ _ _ r h => by simp [hier_Of.l1] at h, fun _ _ _ _ _ _ _ _ _ _ _ _ _ _ _ _ _ _ r h => by simp [hier_Of.l2] at h⟩
 | k + 1 => by
  obtain ⟨ih0, ih1, ih2⟩ := hier_Of.mono_l k
  refine ⟨?_, ?_, ?_⟩
  ·intro y0 y1 y2 y3
   unfold hier_Of.l0
   repeat' first
   | (with_reducible exact ih0 _ _ _ _)
   | (with_reducible exact ih1 _ _ _ _ _ _ _ _ _ _ _)
   | (with_reducible exact ih2 _ _ _ _ _ _ _ _ _ _ _ _ _ _ _ _ _ _)
   | (with_reducible exact LeO.refl _)
   | (with_reducible exact LeO.none _)
   | (with_reducible refine LeO.ite ?_ ?_)
   | (with_reducible refine LeO.bind ?_ (fun _ => ?_))
   | exact ih0 _ _ _ _
   | exact ih1 _ _ _ _ _ _ _ _ _ _ _
   | exact ih2 _ _ _ _ _ _ _ _ _ _ _ _ _ _ _ _ _ _
   | exact LeO.none _
   | refine LeO.ite ?_ ?_
   | refine LeO.bind ?_ (fun _ => ?_)
  ·intro y0 y1 y2 y3 y4 y5 y6 y7 y8 y9 y10
   unfold hier_Of.l1
   repeat' first
   | (with_reducible exact ih0 _ _ _ _)
   | (with_reducible exact ih1 _ _ _ _ _ _ _ _ _ _ _)
   | (with_reducible exact ih2 _ _ _ _ _ _ _ _ _ _ _ _ _ _ _ _ _ _)
   | (with_reducible exact LeO.refl _)
   | (with_reducible exact LeO.none _)
   | (with_reducible refine LeO.ite ?_ ?_)
   | (with_reducible refine LeO.bind ?_ (fun _ => ?_))
   | exact ih0 _ _ _ _
   | exact ih1 _ _ _ _ _ _ _ _ _ _ _
   | exact ih2 _ _ _ _ _ _ _ _ _ _ _ _ _ _ _ _ _ _
   | exact LeO.none _
   | refine LeO.ite ?_ ?_
   | refine LeO.bind ?_ (fun _ => ?_)
  ·intro y0 y1 y2 y3 y4 y5 y6 y7 y8 y9 y10 y11 y12 y13 y14 y15 y16 y17
   unfold hier_Of.l2
   repeat' first
   | (with_reducible exact ih0 _ _ _ _)
   | (with_reducible exact ih1 _ _ _ _ _ _ _ _ _ _ _)
   | (with_reducible exact ih2 _ _ _ _ _ _ _ _ _ _ _ _ _ _ _ _ _ _)
   | (with_reducible exact LeO.refl _)
   | (with_reducible exact LeO.none _)
   | (with_reducible refine LeO.ite ?_ ?_)
   | (with_reducible refine LeO.bind ?_ (fun _ => ?_))
   | exact ih0 _ _ _ _
   | exact ih1 _ _ _ _ _ _ _ _ _ _ _
   | exact ih2 _ _ _ _ _ _ _ _ _ _ _ _ _ _ _ _ _ _
   | exact LeO.none _
   | refine LeO.ite ?_ ?_
   | refine LeO.bind ?_ (fun _ => ?_)
theorem hier_Of.mono : ∀ a0 k, LeO (hier_Of.f k a0) (hier_Of.f (k + 1) a0) := by
 intro a0 k
 obtain ⟨ih0, ih1, ih2⟩ := hier_Of.mono_l k
 unfold hier_Of.f
 repeat' first
   | (with_reducible exact ih0 _ _ _ _)
   | (with_reducible exact ih1 _ _ _ _ _ _ _ _ _ _ _)
   | (with_reducible exact ih2 _ _ _ _ _ _ _ _ _ _ _ _ _ _ _ _ _ _)
   | (with_reducible exact LeO.refl _)
   | (with_reducible exact LeO.none _)
   | (with_reducible refine LeO.ite ?_ ?_)
   | (with_reducible refine LeO.bind ?_ (fun _ => ?_))
   | exact ih0 _ _ _ _
   | exact ih1 _ _ _ _ _ _ _ _ _ _ _
   | exact ih2 _ _ _ _ _ _ _ _ _ _ _ _ _ _ _ _ _ _
   | exact LeO.none _
   | refine LeO.ite ?_ ?_
   | refine LeO.bind ?_ (fun _ => ?_)
def hier_Of.T5 : Bool × List (List Nat × List Nat) := (true, [([], []), ([0], [0]), ([], []), ([2], [2]), ([], []), ([4], [4]), ([5], [5]), ([1, 3, 6], [1, 3, 6]), ([], []), ([8, 7, 6, 0, 1, 2, 3, 4, 5, 6, 7, 8], [7, 8])])
def hier_Of.B5 : List Nat := [0, 1, 0, 4, 0, 16, 48, 127, 0, 511]
theorem hier_Of.tab5 : rtab .any (opsOf Try.f5 5) = hier_Of.T5 := by kernel_rfl
theorem hier_Of.bits5 : waitsOk hier_Of.T5.2 hier_Of.B5 = true := by kernel_rfl
set_option maxHeartbeats 8000000 in
set_option maxRecDepth 100000 in
theorem hier_Of.calls (k : Nat) (A0_0 : Option Addr) (c0_0 : Nat) (l0_0 : List (S44)) (r : List (S35)) (w : World) (hr0_0 : Kd.C k44 w A0_0 l0_0.length l0_0) (hc0_0 : l0_0.length ≤ c0_0) (h : hier_Of.f k l0_0 = some r) :
  Calls Try.prog 5 #[.agg #[.slice A0_0 l0_0.length c0_0]] w fun e w' => ∃ v0_ : Value, e = .returned (.agg #[v0_]) ∧ Kd.R k35 35 w' w.heap.size (fun _ => True) v0_ r ∧ Below w.heap.size w w' := by
 have hu24 := Try.underlying24
 have hu28 := Try.underlying28
 have hu44 := Try.underlying44
 have hu35 := Try.underlying35
 have hu48 := Try.underlying48
 have hu40 := Try.underlying40
 have hu37 := Try.underlying37
 have HR0_0 := Aside0.mk hr0_0
 have HC0_0 := Aside0.mk hc0_0
 clear hr0_0 hc0_0
 have HB := Aside0.mk (Below.refl w.heap.size w)
 have H : (hier_Of.l0 k l0_0 (l0_0.length : Int) 0 ([] : List (S35))) = some r := h
 clear h
 have H' := Aside0.mk H
 clear H
 go_enter Try.func5, Try.ntmps5
 go_wp2_with (first | ((with_reducible refine gate_dst (N := 1) rfl ?_); refine box_event ?hg (N := 1) ?hd (cs := #[.slice A0_0 l0_0.length c0_0]) (t := 24) ?hr ?_; (case hd => rfl); (case hg => rfl); (case hr => first | (go_simp; done) | (go_simp; rfl)); intro gb132 hg w2 hbox hb; have n0_ := Aside0.mk (below_step (by repeat with_reducible first | exact HB.out | apply below_alloc | apply pw_below_drewN | apply below_drew1) hb); have n1_ := Aside0.mk (hbox); have n2_ := Aside0.mk ((by rw [hg]; exact (below_size (by repeat with_reducible first | exact HB.out | apply below_alloc | apply pw_below_drewN | apply below_drew1)) : w.heap.size ≤ gb132)); have n3_ := Aside0.mk ((by rw [hg]; exact (below_size (by repeat with_reducible first | exact HB.out | apply below_alloc | apply pw_below_drewN | apply below_drew1)) : w.heap.size ≤ gb132)); clear HB; have HB := n0_; have BK132 := n1_; have GW132 := n2_; have GE132 := n3_; clear n0_ n1_ n2_ n3_; clear hb hbox hg) | ((with_reducible refine gate_dst (N := 2) rfl ?_); refine box_event ?hg (N := 2) ?hd (cs := #[.slice none 0 0]) (t := 28) ?hr ?_; (case hd => rfl); (case hg => rfl); (case hr => first | (go_simp; done) | (go_simp; rfl)); intro gb133 hg w3 hbox hb; have n0_ := Aside0.mk (blk_below (g := gb132) (o := .cells #[.slice A0_0 l0_0.length c0_0] 24 (0, 0)) (by (with_reducible repeat first | apply bn | apply bd | apply ba); exact BK132.out) hb); have n1_ := Aside0.mk (below_step (by repeat with_reducible first | exact HB.out | apply below_alloc | apply pw_below_drewN | apply below_drew1 | refine below_set ?_ GE132.out) hb); have n2_ := Aside0.mk (hbox); have n3_ := Aside0.mk ((by rw [hg]; exact (below_size (by repeat with_reducible first | exact HB.out | apply below_alloc | apply pw_below_drewN | apply below_drew1 | refine below_set ?_ GE132.out)) : w.heap.size ≤ gb133)); have n4_ := Aside0.mk ((by rw [hg]; exact (below_size (by repeat with_reducible first | exact HB.out | apply below_alloc | apply pw_below_drewN | apply below_drew1 | refine below_set ?_ GE132.out)) : w.heap.size ≤ gb133)); have n5_ := Aside0.mk ((by rw [hg]; exact Nat.ne_of_lt (blk_lt (g := gb132) (o := .cells #[.slice A0_0 l0_0.length c0_0] 24 (0, 0)) (by (with_reducible repeat first | apply bn | apply bd | apply ba); exact BK132.out)) : gb132 ≠ gb133)); have n6_ := Aside0.mk ((by rw [hg]; exact Nat.ne_of_gt (blk_lt (g := gb132) (o := .cells #[.slice A0_0 l0_0.length c0_0] 24 (0, 0)) (by (with_reducible repeat first | apply bn | apply bd | apply ba); exact BK132.out)) : gb133 ≠ gb132)); clear BK132; clear HB; have BK132 := n0_; have HB := n1_; have BK133 := n2_; have GW133 := n3_; have GE133 := n4_; have NB132_133 := n5_; have NB133_132 := n6_; clear n0_ n1_ n2_ n3_ n4_ n5_ n6_; clear hb hbox hg) | ((with_reducible refine gate_dst (N := 3) rfl ?_); refine box_event ?hg (N := 3) ?hd (cs := #[.slice none 0 0]) (t := 28) ?hr ?_; (case hd => rfl); (case hg => rfl); (case hr => first | (go_simp; done) | (go_simp; rfl)); intro gb134 hg w4 hbox hb; have n0_ := Aside0.mk (blk_below (g := gb132) (o := .cells #[.slice A0_0 l0_0.length c0_0] 24 (0, 0)) (by (with_reducible repeat first | apply bn | apply bd | apply ba); exact BK132.out) hb); have n1_ := Aside0.mk (blk_below (g := gb133) (o := .cells #[.slice none 0 0] 28 (0, 0)) (by (with_reducible repeat first | apply bn | apply bd | apply ba); exact BK133.out) hb); have n2_ := Aside0.mk (below_step (by repeat with_reducible first | exact HB.out | apply below_alloc | apply pw_below_drewN | apply below_drew1 | refine below_set ?_ GE132.out | refine below_set ?_ GE133.out) hb); have n3_ := Aside0.mk (hbox); have n4_ := Aside0.mk ((by rw [hg]; exact (below_size (by repeat with_reducible first | exact HB.out | apply below_alloc | apply pw_below_drewN | apply below_drew1 | refine below_set ?_ GE132.out | refine below_set ?_ GE133.out)) : w.heap.size ≤ gb134)); have n5_ := Aside0.mk ((by rw [hg]; exact (below_size (by repeat with_reducible first | exact HB.out | apply below_alloc | apply pw_below_drewN | apply below_drew1 | refine below_set ?_ GE132.out | refine below_set ?_ GE133.out)) : w.heap.size ≤ gb134)); have n6_ := Aside0.mk ((by rw [hg]; exact Nat.ne_of_lt (blk_lt (g := gb132) (o := .cells #[.slice A0_0 l0_0.length c0_0] 24 (0, 0)) (by (with_reducible repeat first | apply bn | apply bd | apply ba); exact BK132.out)) : gb132 ≠ gb134)); have n7_ := Aside0.mk ((by rw [hg]; exact Nat.ne_of_gt (blk_lt (g := gb132) (o := .cells #[.slice A0_0 l0_0.length c0_0] 24 (0, 0)) (by (with_reducible repeat first | apply bn | apply bd | apply ba); exact BK132.out)) : gb134 ≠ gb132)); have n8_ := Aside0.mk ((by rw [hg]; exact Nat.ne_of_lt (blk_lt (g := gb133) (o := .cells #[.slice none 0 0] 28 (0, 0)) (by (with_reducible repeat first | apply bn | apply bd | apply ba); exact BK133.out)) : gb133 ≠ gb134)); have n9_ := Aside0.mk ((by rw [hg]; exact Nat.ne_of_gt (blk_lt (g := gb133) (o := .cells #[.slice none 0 0] 28 (0, 0)) (by (with_reducible repeat first | apply bn | apply bd | apply ba); exact BK133.out)) : gb134 ≠ gb133)); clear BK132; clear BK133; clear HB; have BK132 := n0_; have BK133 := n1_; have HB := n2_; have BK134 := n3_; have GW134 := n4_; have GE134 := n5_; have NB132_134 := n6_; have NB134_132 := n7_; have NB133_134 := n8_; have NB134_133 := n9_; clear n0_ n1_ n2_ n3_ n4_ n5_ n6_ n7_ n8_ n9_; clear hb hbox hg; have hnb5 := NB132_133.out; have hnc5 := NB133_132.out; have hnb6 := NB132_134.out; have hnc6 := NB134_132.out; have hcz7_0 : w4.cell? ⟨gb132, 0, none⟩ = some (.slice A0_0 l0_0.length c0_0) := (blk_cell BK132.out 0).trans rfl; have hfz7_0 := blk_frozen BK132.out 0))
 go_loopg [15] k (fun kq v15 w' => ∃ (x15_1 : Int) (x135000_1 : List (S35)) (u135000 : Value), v15 = .int .i64 x15_1 ∧ Aside0 (hier_Of.l0 kq l0_0 (l0_0.length : Int) x15_1 x135000_1 = some r) ∧ Aside0 (kq ≤ k) ∧ Aside0 (Kd.R k35 35 w' w.heap.size (fun _ => True) u135000 x135000_1) ∧ Aside0 (w'.heap[gb132]? = some (.cells #[(.slice A0_0 l0_0.length c0_0)] 24 (0, 0))) ∧ Aside0 (w'.heap[gb133]? = some (.cells #[(.slice none 0 0)] 28 (0, 0))) ∧ Aside0 (w'.heap[gb134]? = some (.cells #[u135000] 28 (0, 0))) ∧ Aside0 (Below w.heap.size w w'))
 case atStart => exact ⟨(0), (([] : List (S35))), (.slice none 0 0), (by first | rfl | (simp; done) | (simp [*]; done)), H', ⟨Nat.le_refl _⟩, ⟨by first | exact Kd.R_nil _ _ _ _ _ | exact Kd.N_nil _ _ _ _ _ | exact Kd.V_nil _ _ _ _ _ | exact Kd.Q_nil _ _ _ _ _ | exact Kd.S_nil _ _ _ _ _⟩, ⟨by (with_reducible repeat first | apply bn | apply bd | apply ba); exact BK132.out⟩, ⟨by (with_reducible repeat first | apply bn | apply bd | apply ba); exact BK133.out⟩, ⟨by (with_reducible repeat first | apply bn | apply bd | apply ba); exact BK134.out⟩, ⟨by repeat with_reducible first | exact HB.out | apply below_alloc | apply pw_below_drewN | apply below_drew1 | refine below_set ?_ GE132.out | refine below_set ?_ GE133.out | refine below_set ?_ GE134.out⟩⟩
 case round =>
  clear H'
  try clear p2
  try clear c5
  try clear c6
  try clear hcz7_0
  try clear hfz7_0
  obtain ⟨x15_1, x135000_1, u135000, rfl, HA, HK1, HO_135000, BK132, BK133, BK134, HB⟩ := hrel
  cases gk with
  | zero => exact absurd HA.out (by simp [hier_Of.l0])
  | succ k1 =>
   have H := HA.out
   clear HA
   simp only [hier_Of.l0] at H
   by_cases c8 : x15_1 < (l0_0.length : Int)
   ·rw [if_pos c8] at H
    have c8b0 : decide (x15_1 < (l0_0.length : Int)) = true := decide_eq_true c8
    clear c8
    by_cases c9 : 0 ≤ x15_1
    ·rw [if_pos c9] at H
     have c9b0 : decide (0 ≤ x15_1) = true := decide_eq_true c9
     clear c9
     by_cases c10 : x15_1 < (l0_0.length : Int)
     ·rw [if_pos c10] at H
      have c10b0 : decide (x15_1 < (l0_0.length : Int)) = true := decide_eq_true c10
      clear c10
      replace H := Option.bind_eq_some_iff.mp H
      obtain ⟨t137, A110, H⟩ := H
      replace H : (hier_Of.l1 k1 l0_0 (l0_0.length : Int) x15_1 ((rd_T44 l0_0 x15_1).f3) (((rd_T44 l0_0 x15_1).f3).length : Int) 0 x135000_1 ((rd_T44 l0_0 x15_1).f0) ((rd_T44 l0_0 x15_1).f1) t137 ([] : List (S40))) = some r := H
      have A11 := Aside0.mk A110
      clear A110
      have H' := Aside0.mk H
      clear H
      have p135 : 0 ≤ (x15_1 : Int) := of_decide_eq_true (by first | (with_reducible assumption) | assumption)
      have q135 : x15_1 < (l0_0.length : Int) := of_decide_eq_true (by first | (with_reducible assumption) | assumption)
      obtain ⟨ad135, A135_2, c135_2, A135_3, c135_3, e135, hx135_0, hx135_1, hx135_2, hx135_3, hl135_2, hi135_2, hl135_3, hi135_3⟩ := at_T44 HR0_0.out x15_1 p135 q135
      cases e135
      replace hx135_0 := (HB.out.cell (World.block_lt_of_cell? w _ hx135_0)).trans hx135_0
      replace hx135_1 := (HB.out.cell (World.block_lt_of_cell? w _ hx135_1)).trans hx135_1
      replace hx135_2 := (HB.out.cell (World.block_lt_of_cell? w _ hx135_2)).trans hx135_2
      replace hx135_3 := (HB.out.cell (World.block_lt_of_cell? w _ hx135_3)).trans hx135_3
      have HR135_2 := Aside0.mk hi135_2
      have HC135_2 := Aside0.mk hl135_2
      clear hi135_2 hl135_2
      have HR135_3 := Aside0.mk hi135_3
      have HC135_3 := Aside0.mk hl135_3
      clear hi135_3 hl135_3
      replace p135 := eq_true p135
      replace q135 := eq_true q135
      try go_wp2_with (first | ((with_reducible refine gate_dst (N := 5) rfl ?_); refine box_event ?hg (N := 5) ?hd (cs := #[.string (⟨#[]⟩ : ByteArray), .string (⟨#[]⟩ : ByteArray), .slice none 0 0, .slice none 0 0]) (t := 44) ?hr ?_; (case hd => rfl); (case hg => rfl); (case hr => first | (go_simp; done) | (go_simp; rfl)); intro gb136 hg w12 hbox hb; have n0_ := Aside0.mk (Kd.R_below (by (with_reducible repeat first | apply Kd.R_alloc | apply Kd.R_drewN | apply Kd.R_drew); exact HO_135000.out) hb); have n1_ := Aside0.mk (blk_below (g := gb132) (o := .cells #[.slice (some ad135) l0_0.length c0_0] 24 (0, 0)) (by (with_reducible repeat first | apply bn | apply bd | apply ba); exact BK132.out) hb); have n2_ := Aside0.mk (blk_below (g := gb133) (o := .cells #[.slice none 0 0] 28 (0, 0)) (by (with_reducible repeat first | apply bn | apply bd | apply ba); exact BK133.out) hb); have n3_ := Aside0.mk (blk_below (g := gb134) (o := .cells #[u135000] 28 (0, 0)) (by (with_reducible repeat first | apply bn | apply bd | apply ba); exact BK134.out) hb); have n4_ := Aside0.mk (below_step (by repeat with_reducible first | exact HB.out | apply below_alloc | apply pw_below_drewN | apply below_drew1 | refine below_set ?_ GE132.out | refine below_set ?_ GE133.out | refine below_set ?_ GE134.out) hb); have n5_ := Aside0.mk (hbox); have n6_ := Aside0.mk ((by rw [hg]; exact (below_size (by repeat with_reducible first | exact HB.out | apply below_alloc | apply pw_below_drewN | apply below_drew1 | refine below_set ?_ GE132.out | refine below_set ?_ GE133.out | refine below_set ?_ GE134.out)) : w.heap.size ≤ gb136)); have n7_ := Aside0.mk ((by rw [hg]; exact (below_size (by repeat with_reducible first | exact HB.out | apply below_alloc | apply pw_below_drewN | apply below_drew1 | refine below_set ?_ GE132.out | refine below_set ?_ GE133.out | refine below_set ?_ GE134.out)) : w.heap.size ≤ gb136)); have n8_ := Aside0.mk ((by rw [hg]; exact Nat.ne_of_lt (blk_lt (g := gb132) (o := .cells #[.slice (some ad135) l0_0.length c0_0] 24 (0, 0)) (by (with_reducible repeat first | apply bn | apply bd | apply ba); exact BK132.out)) : gb132 ≠ gb136)); have n9_ := Aside0.mk ((by rw [hg]; exact Nat.ne_of_gt (blk_lt (g := gb132) (o := .cells #[.slice (some ad135) l0_0.length c0_0] 24 (0, 0)) (by (with_reducible repeat first | apply bn | apply bd | apply ba); exact BK132.out)) : gb136 ≠ gb132)); have n10_ := Aside0.mk ((by rw [hg]; exact Nat.ne_of_lt (blk_lt (g := gb133) (o := .cells #[.slice none 0 0] 28 (0, 0)) (by (with_reducible repeat first | apply bn | apply bd | apply ba); exact BK133.out)) : gb133 ≠ gb136)); have n11_ := Aside0.mk ((by rw [hg]; exact Nat.ne_of_gt (blk_lt (g := gb133) (o := .cells #[.slice none 0 0] 28 (0, 0)) (by (with_reducible repeat first | apply bn | apply bd | apply ba); exact BK133.out)) : gb136 ≠ gb133)); have n12_ := Aside0.mk ((by rw [hg]; exact Nat.ne_of_lt (blk_lt (g := gb134) (o := .cells #[u135000] 28 (0, 0)) (by (with_reducible repeat first | apply bn | apply bd | apply ba); exact BK134.out)) : gb134 ≠ gb136)); have n13_ := Aside0.mk ((by rw [hg]; exact Nat.ne_of_gt (blk_lt (g := gb134) (o := .cells #[u135000] 28 (0, 0)) (by (with_reducible repeat first | apply bn | apply bd | apply ba); exact BK134.out)) : gb136 ≠ gb134)); clear HO_135000; clear BK132; clear BK133; clear BK134; clear HB; have HO_135000 := n0_; have BK132 := n1_; have BK133 := n2_; have BK134 := n3_; have HB := n4_; have BK136 := n5_; have GW136 := n6_; have GE136 := n7_; have NB132_136 := n8_; have NB136_132 := n9_; have NB133_136 := n10_; have NB136_133 := n11_; have NB134_136 := n12_; have NB136_134 := n13_; clear n0_ n1_ n2_ n3_ n4_ n5_ n6_ n7_ n8_ n9_ n10_ n11_ n12_ n13_; clear hb hbox hg; have hnb13 := NB136_132.out; have hnc13 := NB132_136.out; have hnb14 := NB136_133.out; have hnc14 := NB133_136.out; have hnb15 := NB136_134.out; have hnc15 := NB134_136.out; have hcz16_0 : w12.cell? ⟨gb136, 0, none⟩ = some (.string (⟨#[]⟩ : ByteArray)) := (blk_cell BK136.out 0).trans rfl; have hcz16_1 : w12.cell? ⟨gb136, 1, none⟩ = some (.string (⟨#[]⟩ : ByteArray)) := (blk_cell BK136.out 1).trans rfl; have hcz16_2 : w12.cell? ⟨gb136, 2, none⟩ = some (.slice none 0 0) := (blk_cell BK136.out 2).trans rfl; have hcz16_3 : w12.cell? ⟨gb136, 3, none⟩ = some (.slice none 0 0) := (blk_cell BK136.out 3).trans rfl; have hfz16_0 := blk_frozen BK136.out 0; have hfz16_1 := blk_frozen BK136.out 1; have hfz16_2 := blk_frozen BK136.out 2; have hfz16_3 := blk_frozen BK136.out 3))
      have n0_ : Aside0 (Kd.R k35 35 ((((w12.setCell ⟨gb136, 0, none⟩ (.string ((rd_T44 l0_0 x15_1).f0))).setCell ⟨gb136, 1, none⟩ (.string ((rd_T44 l0_0 x15_1).f1))).setCell ⟨gb136, 2, none⟩ (.slice A135_2 ((rd_T44 l0_0 x15_1).f2).length c135_2)).setCell ⟨gb136, 3, none⟩ (.slice A135_3 ((rd_T44 l0_0 x15_1).f3).length c135_3)) w.heap.size (fun _ => True) u135000 x135000_1) := ⟨by (with_reducible repeat first | apply Kd.R_alloc | apply Kd.R_drewN | apply Kd.R_drew); exact Kd.R_mono (Kd.R_far (p := ⟨gb136, 3, none⟩) (Kd.R_far (p := ⟨gb136, 2, none⟩) (Kd.R_far (p := ⟨gb136, 1, none⟩) (Kd.R_far (p := ⟨gb136, 0, none⟩) (Kd.R_types HO_135000.out BK136.out (by decide)) (fun _ hk => hk.2) (.string ((rd_T44 l0_0 x15_1).f0))) (fun _ hk => hk.2) (.string ((rd_T44 l0_0 x15_1).f1))) (fun _ hk => hk.2) (.slice A135_2 ((rd_T44 l0_0 x15_1).f2).length c135_2)) (fun _ hk => hk.2) (.slice A135_3 ((rd_T44 l0_0 x15_1).f3).length c135_3)) (fun _ hk => trivial)⟩
      have n1_ : Aside0 (((((w12.setCell ⟨gb136, 0, none⟩ (.string ((rd_T44 l0_0 x15_1).f0))).setCell ⟨gb136, 1, none⟩ (.string ((rd_T44 l0_0 x15_1).f1))).setCell ⟨gb136, 2, none⟩ (.slice A135_2 ((rd_T44 l0_0 x15_1).f2).length c135_2)).setCell ⟨gb136, 3, none⟩ (.slice A135_3 ((rd_T44 l0_0 x15_1).f3).length c135_3)).heap[gb132]? = some (.cells #[.slice (some ad135) l0_0.length c0_0] 24 (0, 0))) := ⟨by (with_reducible repeat first | apply bn | apply bd | apply ba); refine blk_far ?_ NB132_136.out _; refine blk_far ?_ NB132_136.out _; refine blk_far ?_ NB132_136.out _; refine blk_far ?_ NB132_136.out _; (with_reducible repeat first | apply bn | apply bd | apply ba); exact BK132.out⟩
      have n2_ : Aside0 (((((w12.setCell ⟨gb136, 0, none⟩ (.string ((rd_T44 l0_0 x15_1).f0))).setCell ⟨gb136, 1, none⟩ (.string ((rd_T44 l0_0 x15_1).f1))).setCell ⟨gb136, 2, none⟩ (.slice A135_2 ((rd_T44 l0_0 x15_1).f2).length c135_2)).setCell ⟨gb136, 3, none⟩ (.slice A135_3 ((rd_T44 l0_0 x15_1).f3).length c135_3)).heap[gb133]? = some (.cells #[.slice none 0 0] 28 (0, 0))) := ⟨by (with_reducible repeat first | apply bn | apply bd | apply ba); refine blk_far ?_ NB133_136.out _; refine blk_far ?_ NB133_136.out _; refine blk_far ?_ NB133_136.out _; refine blk_far ?_ NB133_136.out _; (with_reducible repeat first | apply bn | apply bd | apply ba); exact BK133.out⟩
      have n3_ : Aside0 (((((w12.setCell ⟨gb136, 0, none⟩ (.string ((rd_T44 l0_0 x15_1).f0))).setCell ⟨gb136, 1, none⟩ (.string ((rd_T44 l0_0 x15_1).f1))).setCell ⟨gb136, 2, none⟩ (.slice A135_2 ((rd_T44 l0_0 x15_1).f2).length c135_2)).setCell ⟨gb136, 3, none⟩ (.slice A135_3 ((rd_T44 l0_0 x15_1).f3).length c135_3)).heap[gb134]? = some (.cells #[u135000] 28 (0, 0))) := ⟨by (with_reducible repeat first | apply bn | apply bd | apply ba); refine blk_far ?_ NB134_136.out _; refine blk_far ?_ NB134_136.out _; refine blk_far ?_ NB134_136.out _; refine blk_far ?_ NB134_136.out _; (with_reducible repeat first | apply bn | apply bd | apply ba); exact BK134.out⟩
      have n4_ : Aside0 (((((w12.setCell ⟨gb136, 0, none⟩ (.string ((rd_T44 l0_0 x15_1).f0))).setCell ⟨gb136, 1, none⟩ (.string ((rd_T44 l0_0 x15_1).f1))).setCell ⟨gb136, 2, none⟩ (.slice A135_2 ((rd_T44 l0_0 x15_1).f2).length c135_2)).setCell ⟨gb136, 3, none⟩ (.slice A135_3 ((rd_T44 l0_0 x15_1).f3).length c135_3)).heap[gb136]? = some (.cells #[.string ((rd_T44 l0_0 x15_1).f0), .string ((rd_T44 l0_0 x15_1).f1), .slice A135_2 ((rd_T44 l0_0 x15_1).f2).length c135_2, .slice A135_3 ((rd_T44 l0_0 x15_1).f3).length c135_3] 44 (0, 0))) := ⟨by (with_reducible repeat first | apply bn | apply bd | apply ba); refine blk_put (cs := #[.string ((rd_T44 l0_0 x15_1).f0), .string ((rd_T44 l0_0 x15_1).f1), .slice A135_2 ((rd_T44 l0_0 x15_1).f2).length c135_2, .slice none 0 0]) ?_ 3 _ rfl; refine blk_put (cs := #[.string ((rd_T44 l0_0 x15_1).f0), .string ((rd_T44 l0_0 x15_1).f1), .slice none 0 0, .slice none 0 0]) ?_ 2 _ rfl; refine blk_put (cs := #[.string ((rd_T44 l0_0 x15_1).f0), .string (⟨#[]⟩ : ByteArray), .slice none 0 0, .slice none 0 0]) ?_ 1 _ rfl; refine blk_put (cs := #[.string (⟨#[]⟩ : ByteArray), .string (⟨#[]⟩ : ByteArray), .slice none 0 0, .slice none 0 0]) ?_ 0 _ rfl; (with_reducible repeat first | apply bn | apply bd | apply ba); exact BK136.out⟩
      have n5_ : Aside0 (Below w.heap.size w ((((w12.setCell ⟨gb136, 0, none⟩ (.string ((rd_T44 l0_0 x15_1).f0))).setCell ⟨gb136, 1, none⟩ (.string ((rd_T44 l0_0 x15_1).f1))).setCell ⟨gb136, 2, none⟩ (.slice A135_2 ((rd_T44 l0_0 x15_1).f2).length c135_2)).setCell ⟨gb136, 3, none⟩ (.slice A135_3 ((rd_T44 l0_0 x15_1).f3).length c135_3))) := ⟨by repeat with_reducible first | exact HB.out | apply below_alloc | apply pw_below_drewN | apply below_drew1 | refine below_set ?_ GE132.out | refine below_set ?_ GE133.out | refine below_set ?_ GE134.out | refine below_set ?_ GE136.out⟩
      (try clear HO_135000)
      (try clear BK132)
      (try clear BK133)
      (try clear BK134)
      (try clear BK136)
      (try clear HB)
      generalize ((((w12.setCell ⟨gb136, 0, none⟩ (.string ((rd_T44 l0_0 x15_1).f0))).setCell ⟨gb136, 1, none⟩ (.string ((rd_T44 l0_0 x15_1).f1))).setCell ⟨gb136, 2, none⟩ (.slice A135_2 ((rd_T44 l0_0 x15_1).f2).length c135_2)).setCell ⟨gb136, 3, none⟩ (.slice A135_3 ((rd_T44 l0_0 x15_1).f3).length c135_3)) = w17 at n0_ n1_ n2_ n3_ n4_ n5_ ⊢
      have HO_135000 := n0_
      have BK132 := n1_
      have BK133 := n2_
      have BK134 := n3_
      have BK136 := n4_
      have HB := n5_
      clear n0_ n1_ n2_ n3_ n4_ n5_
      have n0_ := Aside0.mk (Kd.R_drew HO_135000.out)
      have n1_ := Aside0.mk (blk_drew BK132.out)
      have n2_ := Aside0.mk (blk_drew BK133.out)
      have n3_ := Aside0.mk (blk_drew BK134.out)
      have n4_ := Aside0.mk (blk_drew BK136.out)
      have n5_ := Aside0.mk (below_drew1 HB.out)
      clear HO_135000
      clear BK132
      clear BK133
      clear BK134
      clear BK136
      clear HB
      have HO_135000 := n0_
      have BK132 := n1_
      have BK133 := n2_
      have BK134 := n3_
      have BK136 := n4_
      have HB := n5_
      clear n0_ n1_ n2_ n3_ n4_ n5_
      refine start_ (n := 10) (S := fun w' => w'.cell? ⟨gb136, 0, none⟩ = some (.string ((rd_T44 l0_0 x15_1).f0)) ∧ w'.cell? ⟨gb136, 1, none⟩ = some (.string ((rd_T44 l0_0 x15_1).f1)) ∧ w'.cell? ⟨gb136, 2, none⟩ = some (.slice A135_2 ((rd_T44 l0_0 x15_1).f2).length c135_2) ∧ w'.cell? ⟨gb136, 3, none⟩ = some (.slice A135_3 ((rd_T44 l0_0 x15_1).f3).length c135_3)) (ds := []) #[false, false, false, false, false, false, false, false, false, false] (by kernel_rfl) rfl rfl ⟨(blk_cell BK136.out 0).trans rfl, (blk_cell BK136.out 1).trans rfl, (blk_cell BK136.out 2).trans rfl, (blk_cell BK136.out 3).trans rfl⟩ (fun hHeld => ?_); refine with_tabW hier_Of.tab5 hier_Of.bits5 (fun HT_ HW_ => ?_)
      generalize w17.drew = w18 at HO_135000 BK132 BK133 BK134 BK136 HB hHeld ⊢
      refine pure_ (i := 0) (N := some 19) (v := ?_) (a' := ?_) #[true, false, false, false, false, false, false, false, false, false] rfl rfl (any_of HT_.out (by kernel_rfl)) (fun _ _ _ h => h) (Or.inl ⟨by rfl, ?_⟩) ?_ ?_
      rotate_left
      ·intro w'
       go_simp
       with_reducible rfl
      rotate_left
      ·simp only [Act.put, List.setIfInBounds_toArray, List.set_cons_zero, List.set_cons_succ, i64_w]
       rfl
      refine pure_ (i := 2) (N := some 21) (v := ?_) (a' := ?_) #[true, false, true, false, false, false, false, false, false, false] rfl rfl (any_of HT_.out (by kernel_rfl)) (fun _ _ _ h => h) (Or.inl ⟨by rfl, ?_⟩) ?_ ?_
      rotate_left
      ·intro w'
       go_simp
       with_reducible rfl
      rotate_left
      ·simp only [Act.put, List.setIfInBounds_toArray, List.set_cons_zero, List.set_cons_succ, i64_w]
       rfl
      refine pure_ (i := 4) (N := some 23) (v := ?_) (a' := ?_) #[true, false, true, false, true, false, false, false, false, false] rfl rfl (any_of HT_.out (by kernel_rfl)) (fun _ _ _ h => h) (Or.inl ⟨by rfl, ?_⟩) ?_ ?_
      rotate_left
      ·intro w'
       go_simp
       with_reducible rfl
      rotate_left
      ·simp only [Act.put, List.setIfInBounds_toArray, List.set_cons_zero, List.set_cons_succ, i64_w]
       rfl
      refine take_ (i := 1) (N := some 20) (v := ?_) (a' := ?_) #[true, true, true, false, true, false, false, false, false, false] rfl rfl (take_ofW HT_.out HW_.out (by kernel_rfl)) (fun _ _ _ h => h) (Or.inl ⟨by rfl, ?_⟩) hHeld ?_ ?_
      rotate_left
      ·rintro w' ⟨s0, s1, s2, s3⟩
       go_simp
       with_reducible rfl
      rotate_left
      ·simp only [Act.put, List.setIfInBounds_toArray, List.set_cons_zero, List.set_cons_succ, i64_w]
       rfl
      refine take_ (i := 3) (N := some 22) (v := ?_) (a' := ?_) #[true, true, true, true, true, false, false, false, false, false] rfl rfl (take_ofW HT_.out HW_.out (by kernel_rfl)) (fun _ _ _ h => h) (Or.inl ⟨by rfl, ?_⟩) hHeld ?_ ?_
      rotate_left
      ·rintro w' ⟨s0, s1, s2, s3⟩
       go_simp
       with_reducible rfl
      rotate_left
      ·simp only [Act.put, List.setIfInBounds_toArray, List.set_cons_zero, List.set_cons_succ, i64_w]
       rfl
      refine take_ (i := 5) (N := some 24) (v := ?_) (a' := ?_) #[true, true, true, true, true, true, false, false, false, false] rfl rfl (take_ofW HT_.out HW_.out (by kernel_rfl)) (fun _ _ _ h => h) (Or.inl ⟨by rfl, ?_⟩) hHeld ?_ ?_
      rotate_left
      ·rintro w' ⟨s0, s1, s2, s3⟩
       go_simp
       with_reducible rfl
      rotate_left
      ·simp only [Act.put, List.setIfInBounds_toArray, List.set_cons_zero, List.set_cons_succ, i64_w]
       rfl
      refine join_ (σ := Value × Nat) 1 #[true, true, true, true, true, true, true, true, true, false] (fun s_ => [(25, s_.1), (6, .pointer (some ⟨s_.2, 0, none⟩)), (26, .agg #[.string ((rd_T44 l0_0 x15_1).f0), .string ((rd_T44 l0_0 x15_1).f1), s_.1, .slice none 0 0])]) (fun s_ w' => (w'.cell? ⟨gb136, 0, none⟩ = some (.string ((rd_T44 l0_0 x15_1).f0)) ∧ w'.cell? ⟨gb136, 1, none⟩ = some (.string ((rd_T44 l0_0 x15_1).f1)) ∧ w'.cell? ⟨gb136, 2, none⟩ = some (.slice A135_2 ((rd_T44 l0_0 x15_1).f2).length c135_2) ∧ w'.cell? ⟨gb136, 3, none⟩ = some (.slice A135_3 ((rd_T44 l0_0 x15_1).f3).length c135_3)) ∧ (Kd.R k37 37 w' w.heap.size (fun _ => True) s_.1 t137) ∧ (Kd.R k35 35 w' w.heap.size (fun k_ => some k_ ≠ (s_.1 : Value).ownBlock ∧ k_ ≠ s_.2) u135000 x135000_1) ∧ (w'.heap[gb132]? = some (.cells #[.slice (some ad135) l0_0.length c0_0] 24 (0, 0))) ∧ (w'.heap[gb133]? = some (.cells #[.slice none 0 0] 28 (0, 0))) ∧ (w'.heap[gb134]? = some (.cells #[u135000] 28 (0, 0))) ∧ (w'.heap[gb136]? = some (.cells #[.string ((rd_T44 l0_0 x15_1).f0), .string ((rd_T44 l0_0 x15_1).f1), .slice A135_2 ((rd_T44 l0_0 x15_1).f2).length c135_2, .slice A135_3 ((rd_T44 l0_0 x15_1).f3).length c135_3] 44 (0, 0))) ∧ (w'.heap[s_.2]? = some (.cells #[.string (⟨#[]⟩ : ByteArray), .string (⟨#[]⟩ : ByteArray), .slice none 0 0, .slice none 0 0] 35 (0, 0))) ∧ (w.heap.size ≤ s_.2) ∧ (w.heap.size ≤ s_.2) ∧ (gb132 ≠ s_.2) ∧ (s_.2 ≠ gb132) ∧ (gb133 ≠ s_.2) ∧ (s_.2 ≠ gb133) ∧ (gb134 ≠ s_.2) ∧ (s_.2 ≠ gb134) ∧ (gb136 ≠ s_.2) ∧ (s_.2 ≠ gb136) ∧ (Below w.heap.size w w')) ?_ ?_
      rotate_left
      ·intro hCont
       refine two_ (i := 6) (j := 8) (Ni := some 25) (Nj := some 6) #[true, true, true, true, true, true, true, false, false, false] #[true, true, true, true, true, true, false, false, true, false] rfl rfl rfl rfl (two_of HT_.out (by kernel_rfl)) (by decide) (by decide) (fun K hK => ?_) (fun K hK => ?_)
       ·skip
        refine goes_ Try.func9 (by kernel_rfl) rfl #[.slice A135_2 ((rd_T44 l0_0 x15_1).f2).length c135_2] (by rfl) rfl rfl (by (try simp only [List.map_toArray, List.map_cons, List.map_nil]); first | done | rfl) ?_
        with_reducible refine (api_Field.calls _ _ ((rd_T44 l0_0 x15_1).f2) t137 _ ?side1 ?side2 A11.out).mono ?_
        (case side1 => repeat (first | exact (Kd.C_below HR135_2.out HB.out) | (with_reducible refine Kd.C_alloc ?_ _) | (with_reducible refine Kd.C_drewN ?_ _) | (with_reducible refine Kd.C_drew ?_)))
        (case side2 => exact HC135_2.out)
        rintro e w19 ⟨v138, rfl, ho0, hb⟩
        refine ⟨_, rfl, ?_⟩
        have n0_ := Aside0.mk (Kd.R_elder' (by (with_reducible repeat first | apply Kd.R_alloc | apply Kd.R_drewN | apply Kd.R_drew); exact HO_135000.out) (Kd.R_base ho0) hb)
        have n1_ := Aside0.mk (Kd.R_lower ho0 (below_size (by repeat with_reducible first | exact HB.out | apply below_alloc | apply pw_below_drewN | apply below_drew1 | refine below_set ?_ GE132.out | refine below_set ?_ GE133.out | refine below_set ?_ GE134.out | refine below_set ?_ GE136.out)))
        have n2_ := Aside0.mk (blk_below (g := gb132) (o := .cells #[.slice (some ad135) l0_0.length c0_0] 24 (0, 0)) (by (with_reducible repeat first | apply bn | apply bd | apply ba); exact BK132.out) hb)
        have n3_ := Aside0.mk (blk_below (g := gb133) (o := .cells #[.slice none 0 0] 28 (0, 0)) (by (with_reducible repeat first | apply bn | apply bd | apply ba); exact BK133.out) hb)
        have n4_ := Aside0.mk (blk_below (g := gb134) (o := .cells #[u135000] 28 (0, 0)) (by (with_reducible repeat first | apply bn | apply bd | apply ba); exact BK134.out) hb)
        have n5_ := Aside0.mk (blk_below (g := gb136) (o := .cells #[.string ((rd_T44 l0_0 x15_1).f0), .string ((rd_T44 l0_0 x15_1).f1), .slice A135_2 ((rd_T44 l0_0 x15_1).f2).length c135_2, .slice A135_3 ((rd_T44 l0_0 x15_1).f3).length c135_3] 44 (0, 0)) (by (with_reducible repeat first | apply bn | apply bd | apply ba); exact BK136.out) hb)
        have n6_ := Aside0.mk (below_step (by repeat with_reducible first | exact HB.out | apply below_alloc | apply pw_below_drewN | apply below_drew1 | refine below_set ?_ GE132.out | refine below_set ?_ GE133.out | refine below_set ?_ GE134.out | refine below_set ?_ GE136.out) hb)
        clear HO_135000
        clear BK132
        clear BK133
        clear BK134
        clear BK136
        clear HB
        have HO_135000 := n0_
        have HO139 := n1_
        have BK132 := n2_
        have BK133 := n3_
        have BK134 := n4_
        have BK136 := n5_
        have HB := n6_
        clear n0_ n1_ n2_ n3_ n4_ n5_ n6_
        (try clear hb)
        (try clear hb2)
        (try clear hk)
        (try clear hi)
        (try clear ho0)
        obtain ⟨Ao20, co20, eo20⟩ := Kd.R_slice HO139.out
        (first | subst eo20 | (injection eo20 with f1_ f2_ f3_; have f4_ := f1_.symm; have f5_ := f3_.symm; clear f1_ f2_ f3_; subst f4_; subst f5_))
        refine hK.out _ _ ⟨(blk_cell BK136.out 0).trans rfl, (blk_cell BK136.out 1).trans rfl, (blk_cell BK136.out 2).trans rfl, (blk_cell BK136.out 3).trans rfl⟩ (fun hHeld => ?_)
        clear hK K
        refine norm_ (a' := ?_) ?_ ?_
        rotate_left
        ·show Act.put _ (some 25) _ = _
         simp only [Act.put, List.setIfInBounds_toArray, List.set_cons_zero, List.set_cons_succ, i64_w]
         rfl
        refine pure_ (i := 7) (N := some 26) (v := ?_) (a' := ?_) #[true, true, true, true, true, true, true, true, false, false] rfl rfl (any_of HT_.out (by kernel_rfl)) (fun _ _ _ h => h) (Or.inl ⟨by rfl, ?_⟩) ?_ ?_
        rotate_left
        ·intro w'
         go_simp
         with_reducible rfl
        rotate_left
        ·simp only [Act.put, List.setIfInBounds_toArray, List.set_cons_zero, List.set_cons_succ, i64_w]
         rfl
        refine one_ (i := 8) (N := some 6) #[true, true, true, true, true, true, true, true, true, false] rfl rfl (one_of HT_.out (by kernel_rfl)) (by decide) (fun K hK => ?_)
        refine box_step ?hg (N := 6) ?hd (cs := #[.string (⟨#[]⟩ : ByteArray), .string (⟨#[]⟩ : ByteArray), .slice none 0 0, .slice none 0 0]) (t := 35) ?hr ?_; (case hd => rfl); (case hg => rfl); (case hr => first | (go_simp; done) | (go_simp; rfl))
        intro gb140 hg w21 hbox hb
        have n0_ := Aside0.mk (Kd.R_below (Kd.R_elderB (by (with_reducible repeat first | apply Kd.R_alloc | apply Kd.R_drewN | apply Kd.R_drew); exact HO_135000.out) gb140 (Nat.le_of_eq hg.symm)) hb)
        have n1_ := Aside0.mk (Kd.R_below (by (with_reducible repeat first | apply Kd.R_alloc | apply Kd.R_drewN | apply Kd.R_drew); exact HO139.out) hb)
        have n2_ := Aside0.mk (blk_below (g := gb132) (o := .cells #[.slice (some ad135) l0_0.length c0_0] 24 (0, 0)) (by (with_reducible repeat first | apply bn | apply bd | apply ba); exact BK132.out) hb)
        have n3_ := Aside0.mk (blk_below (g := gb133) (o := .cells #[.slice none 0 0] 28 (0, 0)) (by (with_reducible repeat first | apply bn | apply bd | apply ba); exact BK133.out) hb)
        have n4_ := Aside0.mk (blk_below (g := gb134) (o := .cells #[u135000] 28 (0, 0)) (by (with_reducible repeat first | apply bn | apply bd | apply ba); exact BK134.out) hb)
        have n5_ := Aside0.mk (blk_below (g := gb136) (o := .cells #[.string ((rd_T44 l0_0 x15_1).f0), .string ((rd_T44 l0_0 x15_1).f1), .slice A135_2 ((rd_T44 l0_0 x15_1).f2).length c135_2, .slice A135_3 ((rd_T44 l0_0 x15_1).f3).length c135_3] 44 (0, 0)) (by (with_reducible repeat first | apply bn | apply bd | apply ba); exact BK136.out) hb)
        have n6_ := Aside0.mk (below_step (by repeat with_reducible first | exact HB.out | apply below_alloc | apply pw_below_drewN | apply below_drew1 | refine below_set ?_ GE132.out | refine below_set ?_ GE133.out | refine below_set ?_ GE134.out | refine below_set ?_ GE136.out) hb)
        have n7_ := Aside0.mk (hbox)
        have n8_ := Aside0.mk ((by rw [hg]; exact (below_size (by repeat with_reducible first | exact HB.out | apply below_alloc | apply pw_below_drewN | apply below_drew1 | refine below_set ?_ GE132.out | refine below_set ?_ GE133.out | refine below_set ?_ GE134.out | refine below_set ?_ GE136.out)) : w.heap.size ≤ gb140))
        have n9_ := Aside0.mk ((by rw [hg]; exact (below_size (by repeat with_reducible first | exact HB.out | apply below_alloc | apply pw_below_drewN | apply below_drew1 | refine below_set ?_ GE132.out | refine below_set ?_ GE133.out | refine below_set ?_ GE134.out | refine below_set ?_ GE136.out)) : w.heap.size ≤ gb140))
        have n10_ := Aside0.mk ((by rw [hg]; exact Nat.ne_of_lt (blk_lt (g := gb132) (o := .cells #[.slice (some ad135) l0_0.length c0_0] 24 (0, 0)) (by (with_reducible repeat first | apply bn | apply bd | apply ba); exact BK132.out)) : gb132 ≠ gb140))
        have n11_ := Aside0.mk ((by rw [hg]; exact Nat.ne_of_gt (blk_lt (g := gb132) (o := .cells #[.slice (some ad135) l0_0.length c0_0] 24 (0, 0)) (by (with_reducible repeat first | apply bn | apply bd | apply ba); exact BK132.out)) : gb140 ≠ gb132))
        have n12_ := Aside0.mk ((by rw [hg]; exact Nat.ne_of_lt (blk_lt (g := gb133) (o := .cells #[.slice none 0 0] 28 (0, 0)) (by (with_reducible repeat first | apply bn | apply bd | apply ba); exact BK133.out)) : gb133 ≠ gb140))
        have n13_ := Aside0.mk ((by rw [hg]; exact Nat.ne_of_gt (blk_lt (g := gb133) (o := .cells #[.slice none 0 0] 28 (0, 0)) (by (with_reducible repeat first | apply bn | apply bd | apply ba); exact BK133.out)) : gb140 ≠ gb133))
        have n14_ := Aside0.mk ((by rw [hg]; exact Nat.ne_of_lt (blk_lt (g := gb134) (o := .cells #[u135000] 28 (0, 0)) (by (with_reducible repeat first | apply bn | apply bd | apply ba); exact BK134.out)) : gb134 ≠ gb140))
        have n15_ := Aside0.mk ((by rw [hg]; exact Nat.ne_of_gt (blk_lt (g := gb134) (o := .cells #[u135000] 28 (0, 0)) (by (with_reducible repeat first | apply bn | apply bd | apply ba); exact BK134.out)) : gb140 ≠ gb134))
        have n16_ := Aside0.mk ((by rw [hg]; exact Nat.ne_of_lt (blk_lt (g := gb136) (o := .cells #[.string ((rd_T44 l0_0 x15_1).f0), .string ((rd_T44 l0_0 x15_1).f1), .slice A135_2 ((rd_T44 l0_0 x15_1).f2).length c135_2, .slice A135_3 ((rd_T44 l0_0 x15_1).f3).length c135_3] 44 (0, 0)) (by (with_reducible repeat first | apply bn | apply bd | apply ba); exact BK136.out)) : gb136 ≠ gb140))
        have n17_ := Aside0.mk ((by rw [hg]; exact Nat.ne_of_gt (blk_lt (g := gb136) (o := .cells #[.string ((rd_T44 l0_0 x15_1).f0), .string ((rd_T44 l0_0 x15_1).f1), .slice A135_2 ((rd_T44 l0_0 x15_1).f2).length c135_2, .slice A135_3 ((rd_T44 l0_0 x15_1).f3).length c135_3] 44 (0, 0)) (by (with_reducible repeat first | apply bn | apply bd | apply ba); exact BK136.out)) : gb140 ≠ gb136))
        clear HO_135000
        clear HO139
        clear BK132
        clear BK133
        clear BK134
        clear BK136
        clear HB
        have HO_135000 := n0_
        have HO139 := n1_
        have BK132 := n2_
        have BK133 := n3_
        have BK134 := n4_
        have BK136 := n5_
        have HB := n6_
        have BK140 := n7_
        have GW140 := n8_
        have GE140 := n9_
        have NB132_140 := n10_
        have NB140_132 := n11_
        have NB133_140 := n12_
        have NB140_133 := n13_
        have NB134_140 := n14_
        have NB140_134 := n15_
        have NB136_140 := n16_
        have NB140_136 := n17_
        clear n0_ n1_ n2_ n3_ n4_ n5_ n6_ n7_ n8_ n9_ n10_ n11_ n12_ n13_ n14_ n15_ n16_ n17_
        clear hb hbox hg
        refine hK.out _ _ ⟨(blk_cell BK136.out 0).trans rfl, (blk_cell BK136.out 1).trans rfl, (blk_cell BK136.out 2).trans rfl, (blk_cell BK136.out 3).trans rfl⟩ (fun hHeld => ?_)
        clear hK K
        refine norm_ (a' := ?_) ?_ ?_
        rotate_left
        ·show Act.put _ (some 6) _ = _
         simp only [Act.put, List.setIfInBounds_toArray, List.set_cons_zero, List.set_cons_succ, i64_w]
         rfl
        exact norm_ (by simp only [putAll, Act.put, List.setIfInBounds_toArray, List.set_cons_zero, List.set_cons_succ]) (hCont (.slice Ao20 t137.length co20, gb140) _ ⟨hHeld, (by (with_reducible repeat first | apply Kd.R_alloc | apply Kd.R_drewN | apply Kd.R_drew); exact HO139.out), (by (with_reducible repeat first | apply Kd.R_alloc | apply Kd.R_drewN | apply Kd.R_drew); exact Kd.R_mono HO_135000.out (fun _ hk => ⟨hk.1.2, hk.2⟩)), (by (with_reducible repeat first | apply bn | apply bd | apply ba); exact BK132.out), (by (with_reducible repeat first | apply bn | apply bd | apply ba); exact BK133.out), (by (with_reducible repeat first | apply bn | apply bd | apply ba); exact BK134.out), (by (with_reducible repeat first | apply bn | apply bd | apply ba); exact BK136.out), (by (with_reducible repeat first | apply bn | apply bd | apply ba); exact BK140.out), GW140.out, GE140.out, NB132_140.out, NB140_132.out, NB133_140.out, NB140_133.out, NB134_140.out, NB140_134.out, NB136_140.out, NB140_136.out, (by repeat with_reducible first | exact HB.out | apply below_alloc | apply pw_below_drewN | apply below_drew1 | refine below_set ?_ GE132.out | refine below_set ?_ GE133.out | refine below_set ?_ GE134.out | refine below_set ?_ GE136.out | refine below_set ?_ GE140.out)⟩)
       ·skip
        refine box_step ?hg (N := 6) ?hd (cs := #[.string (⟨#[]⟩ : ByteArray), .string (⟨#[]⟩ : ByteArray), .slice none 0 0, .slice none 0 0]) (t := 35) ?hr ?_; (case hd => rfl); (case hg => rfl); (case hr => first | (go_simp; done) | (go_simp; rfl))
        intro gb140 hg w19 hbox hb
        have n0_ := Aside0.mk (Kd.R_below (Kd.R_elderB (by (with_reducible repeat first | apply Kd.R_alloc | apply Kd.R_drewN | apply Kd.R_drew); exact HO_135000.out) gb140 (Nat.le_of_eq hg.symm)) hb)
        have n1_ := Aside0.mk (blk_below (g := gb132) (o := .cells #[.slice (some ad135) l0_0.length c0_0] 24 (0, 0)) (by (with_reducible repeat first | apply bn | apply bd | apply ba); exact BK132.out) hb)
        have n2_ := Aside0.mk (blk_below (g := gb133) (o := .cells #[.slice none 0 0] 28 (0, 0)) (by (with_reducible repeat first | apply bn | apply bd | apply ba); exact BK133.out) hb)
        have n3_ := Aside0.mk (blk_below (g := gb134) (o := .cells #[u135000] 28 (0, 0)) (by (with_reducible repeat first | apply bn | apply bd | apply ba); exact BK134.out) hb)
        have n4_ := Aside0.mk (blk_below (g := gb136) (o := .cells #[.string ((rd_T44 l0_0 x15_1).f0), .string ((rd_T44 l0_0 x15_1).f1), .slice A135_2 ((rd_T44 l0_0 x15_1).f2).length c135_2, .slice A135_3 ((rd_T44 l0_0 x15_1).f3).length c135_3] 44 (0, 0)) (by (with_reducible repeat first | apply bn | apply bd | apply ba); exact BK136.out) hb)
        have n5_ := Aside0.mk (below_step (by repeat with_reducible first | exact HB.out | apply below_alloc | apply pw_below_drewN | apply below_drew1 | refine below_set ?_ GE132.out | refine below_set ?_ GE133.out | refine below_set ?_ GE134.out | refine below_set ?_ GE136.out) hb)
        have n6_ := Aside0.mk (hbox)
        have n7_ := Aside0.mk ((by rw [hg]; exact (below_size (by repeat with_reducible first | exact HB.out | apply below_alloc | apply pw_below_drewN | apply below_drew1 | refine below_set ?_ GE132.out | refine below_set ?_ GE133.out | refine below_set ?_ GE134.out | refine below_set ?_ GE136.out)) : w.heap.size ≤ gb140))
        have n8_ := Aside0.mk ((by rw [hg]; exact (below_size (by repeat with_reducible first | exact HB.out | apply below_alloc | apply pw_below_drewN | apply below_drew1 | refine below_set ?_ GE132.out | refine below_set ?_ GE133.out | refine below_set ?_ GE134.out | refine below_set ?_ GE136.out)) : w.heap.size ≤ gb140))
        have n9_ := Aside0.mk ((by rw [hg]; exact Nat.ne_of_lt (blk_lt (g := gb132) (o := .cells #[.slice (some ad135) l0_0.length c0_0] 24 (0, 0)) (by (with_reducible repeat first | apply bn | apply bd | apply ba); exact BK132.out)) : gb132 ≠ gb140))
        have n10_ := Aside0.mk ((by rw [hg]; exact Nat.ne_of_gt (blk_lt (g := gb132) (o := .cells #[.slice (some ad135) l0_0.length c0_0] 24 (0, 0)) (by (with_reducible repeat first | apply bn | apply bd | apply ba); exact BK132.out)) : gb140 ≠ gb132))
        have n11_ := Aside0.mk ((by rw [hg]; exact Nat.ne_of_lt (blk_lt (g := gb133) (o := .cells #[.slice none 0 0] 28 (0, 0)) (by (with_reducible repeat first | apply bn | apply bd | apply ba); exact BK133.out)) : gb133 ≠ gb140))
        have n12_ := Aside0.mk ((by rw [hg]; exact Nat.ne_of_gt (blk_lt (g := gb133) (o := .cells #[.slice none 0 0] 28 (0, 0)) (by (with_reducible repeat first | apply bn | apply bd | apply ba); exact BK133.out)) : gb140 ≠ gb133))
        have n13_ := Aside0.mk ((by rw [hg]; exact Nat.ne_of_lt (blk_lt (g := gb134) (o := .cells #[u135000] 28 (0, 0)) (by (with_reducible repeat first | apply bn | apply bd | apply ba); exact BK134.out)) : gb134 ≠ gb140))
        have n14_ := Aside0.mk ((by rw [hg]; exact Nat.ne_of_gt (blk_lt (g := gb134) (o := .cells #[u135000] 28 (0, 0)) (by (with_reducible repeat first | apply bn | apply bd | apply ba); exact BK134.out)) : gb140 ≠ gb134))
        have n15_ := Aside0.mk ((by rw [hg]; exact Nat.ne_of_lt (blk_lt (g := gb136) (o := .cells #[.string ((rd_T44 l0_0 x15_1).f0), .string ((rd_T44 l0_0 x15_1).f1), .slice A135_2 ((rd_T44 l0_0 x15_1).f2).length c135_2, .slice A135_3 ((rd_T44 l0_0 x15_1).f3).length c135_3] 44 (0, 0)) (by (with_reducible repeat first | apply bn | apply bd | apply ba); exact BK136.out)) : gb136 ≠ gb140))
        have n16_ := Aside0.mk ((by rw [hg]; exact Nat.ne_of_gt (blk_lt (g := gb136) (o := .cells #[.string ((rd_T44 l0_0 x15_1).f0), .string ((rd_T44 l0_0 x15_1).f1), .slice A135_2 ((rd_T44 l0_0 x15_1).f2).length c135_2, .slice A135_3 ((rd_T44 l0_0 x15_1).f3).length c135_3] 44 (0, 0)) (by (with_reducible repeat first | apply bn | apply bd | apply ba); exact BK136.out)) : gb140 ≠ gb136))
        clear HO_135000
        clear BK132
        clear BK133
        clear BK134
        clear BK136
        clear HB
        have HO_135000 := n0_
        have BK132 := n1_
        have BK133 := n2_
        have BK134 := n3_
        have BK136 := n4_
        have HB := n5_
        have BK140 := n6_
        have GW140 := n7_
        have GE140 := n8_
        have NB132_140 := n9_
        have NB140_132 := n10_
        have NB133_140 := n11_
        have NB140_133 := n12_
        have NB134_140 := n13_
        have NB140_134 := n14_
        have NB136_140 := n15_
        have NB140_136 := n16_
        clear n0_ n1_ n2_ n3_ n4_ n5_ n6_ n7_ n8_ n9_ n10_ n11_ n12_ n13_ n14_ n15_ n16_
        clear hb hbox hg
        refine hK.out _ _ ⟨(blk_cell BK136.out 0).trans rfl, (blk_cell BK136.out 1).trans rfl, (blk_cell BK136.out 2).trans rfl, (blk_cell BK136.out 3).trans rfl⟩ (fun hHeld => ?_)
        clear hK K
        refine norm_ (a' := ?_) ?_ ?_
        rotate_left
        ·show Act.put _ (some 6) _ = _
         simp only [Act.put, List.setIfInBounds_toArray, List.set_cons_zero, List.set_cons_succ, i64_w]
         rfl
        refine one_ (i := 6) (N := some 25) #[true, true, true, true, true, true, true, false, true, false] rfl rfl (one_of HT_.out (by kernel_rfl)) (by decide) (fun K hK => ?_)
        refine goes_ Try.func9 (by kernel_rfl) rfl #[.slice A135_2 ((rd_T44 l0_0 x15_1).f2).length c135_2] (by rfl) rfl rfl (by (try simp only [List.map_toArray, List.map_cons, List.map_nil]); first | done | rfl) ?_
        with_reducible refine (api_Field.calls _ _ ((rd_T44 l0_0 x15_1).f2) t137 _ ?side1 ?side2 A11.out).mono ?_
        (case side1 => repeat (first | exact (Kd.C_below HR135_2.out HB.out) | (with_reducible refine Kd.C_alloc ?_ _) | (with_reducible refine Kd.C_drewN ?_ _) | (with_reducible refine Kd.C_drew ?_)))
        (case side2 => exact HC135_2.out)
        rintro e w20 ⟨v138, rfl, ho0, hb⟩
        refine ⟨_, rfl, ?_⟩
        have n0_ := Aside0.mk (Kd.R_elder' (by (with_reducible repeat first | apply Kd.R_alloc | apply Kd.R_drewN | apply Kd.R_drew); exact HO_135000.out) (Kd.R_base ho0) hb)
        have n1_ := Aside0.mk (Kd.R_lower ho0 (below_size (by repeat with_reducible first | exact HB.out | apply below_alloc | apply pw_below_drewN | apply below_drew1 | refine below_set ?_ GE132.out | refine below_set ?_ GE133.out | refine below_set ?_ GE134.out | refine below_set ?_ GE136.out | refine below_set ?_ GE140.out)))
        have n2_ := Aside0.mk (blk_below (g := gb132) (o := .cells #[.slice (some ad135) l0_0.length c0_0] 24 (0, 0)) (by (with_reducible repeat first | apply bn | apply bd | apply ba); exact BK132.out) hb)
        have n3_ := Aside0.mk (blk_below (g := gb133) (o := .cells #[.slice none 0 0] 28 (0, 0)) (by (with_reducible repeat first | apply bn | apply bd | apply ba); exact BK133.out) hb)
        have n4_ := Aside0.mk (blk_below (g := gb134) (o := .cells #[u135000] 28 (0, 0)) (by (with_reducible repeat first | apply bn | apply bd | apply ba); exact BK134.out) hb)
        have n5_ := Aside0.mk (blk_below (g := gb136) (o := .cells #[.string ((rd_T44 l0_0 x15_1).f0), .string ((rd_T44 l0_0 x15_1).f1), .slice A135_2 ((rd_T44 l0_0 x15_1).f2).length c135_2, .slice A135_3 ((rd_T44 l0_0 x15_1).f3).length c135_3] 44 (0, 0)) (by (with_reducible repeat first | apply bn | apply bd | apply ba); exact BK136.out) hb)
        have n6_ := Aside0.mk (blk_below (g := gb140) (o := .cells #[.string (⟨#[]⟩ : ByteArray), .string (⟨#[]⟩ : ByteArray), .slice none 0 0, .slice none 0 0] 35 (0, 0)) (by (with_reducible repeat first | apply bn | apply bd | apply ba); exact BK140.out) hb)
        have n7_ := Aside0.mk (below_step (by repeat with_reducible first | exact HB.out | apply below_alloc | apply pw_below_drewN | apply below_drew1 | refine below_set ?_ GE132.out | refine below_set ?_ GE133.out | refine below_set ?_ GE134.out | refine below_set ?_ GE136.out | refine below_set ?_ GE140.out) hb)
        clear HO_135000
        clear BK132
        clear BK133
        clear BK134
        clear BK136
        clear BK140
        clear HB
        have HO_135000 := n0_
        have HO139 := n1_
        have BK132 := n2_
        have BK133 := n3_
        have BK134 := n4_
        have BK136 := n5_
        have BK140 := n6_
        have HB := n7_
        clear n0_ n1_ n2_ n3_ n4_ n5_ n6_ n7_
        (try clear hb)
        (try clear hb2)
        (try clear hk)
        (try clear hi)
        (try clear ho0)
        obtain ⟨Ao21, co21, eo21⟩ := Kd.R_slice HO139.out
        (first | subst eo21 | (injection eo21 with f1_ f2_ f3_; have f4_ := f1_.symm; have f5_ := f3_.symm; clear f1_ f2_ f3_; subst f4_; subst f5_))
        refine hK.out _ _ ⟨(blk_cell BK136.out 0).trans rfl, (blk_cell BK136.out 1).trans rfl, (blk_cell BK136.out 2).trans rfl, (blk_cell BK136.out 3).trans rfl⟩ (fun hHeld => ?_)
        clear hK K
        refine norm_ (a' := ?_) ?_ ?_
        rotate_left
        ·show Act.put _ (some 25) _ = _
         simp only [Act.put, List.setIfInBounds_toArray, List.set_cons_zero, List.set_cons_succ, i64_w]
         rfl
        refine pure_ (i := 7) (N := some 26) (v := ?_) (a' := ?_) #[true, true, true, true, true, true, true, true, true, false] rfl rfl (any_of HT_.out (by kernel_rfl)) (fun _ _ _ h => h) (Or.inl ⟨by rfl, ?_⟩) ?_ ?_
        rotate_left
        ·intro w'
         go_simp
         with_reducible rfl
        rotate_left
        ·simp only [Act.put, List.setIfInBounds_toArray, List.set_cons_zero, List.set_cons_succ, i64_w]
         rfl
        exact norm_ (by simp only [putAll, Act.put, List.setIfInBounds_toArray, List.set_cons_zero, List.set_cons_succ]) (hCont (.slice Ao21 t137.length co21, gb140) _ ⟨hHeld, (by (with_reducible repeat first | apply Kd.R_alloc | apply Kd.R_drewN | apply Kd.R_drew); exact HO139.out), (by (with_reducible repeat first | apply Kd.R_alloc | apply Kd.R_drewN | apply Kd.R_drew); exact Kd.R_mono HO_135000.out (fun _ hk => ⟨hk.2, hk.1.2⟩)), (by (with_reducible repeat first | apply bn | apply bd | apply ba); exact BK132.out), (by (with_reducible repeat first | apply bn | apply bd | apply ba); exact BK133.out), (by (with_reducible repeat first | apply bn | apply bd | apply ba); exact BK134.out), (by (with_reducible repeat first | apply bn | apply bd | apply ba); exact BK136.out), (by (with_reducible repeat first | apply bn | apply bd | apply ba); exact BK140.out), GW140.out, GE140.out, NB132_140.out, NB140_132.out, NB133_140.out, NB140_133.out, NB134_140.out, NB140_134.out, NB136_140.out, NB140_136.out, (by repeat with_reducible first | exact HB.out | apply below_alloc | apply pw_below_drewN | apply below_drew1 | refine below_set ?_ GE132.out | refine below_set ?_ GE133.out | refine below_set ?_ GE134.out | refine below_set ?_ GE136.out | refine below_set ?_ GE140.out)⟩)
      rintro ⟨v138, gb140⟩ w22 ⟨hS_, h0_, h1_, h2_, h3_, h4_, h5_, h6_, h7_, h8_, h9_, h10_, h11_, h12_, h13_, h14_, h15_, h16_, h17_⟩
      have n0_ : Aside0 (Kd.R k37 37 w22 w.heap.size (fun _ => True) v138 t137) := ⟨h0_⟩
      have n1_ : Aside0 (Kd.R k35 35 w22 w.heap.size (fun k_ => some k_ ≠ (v138 : Value).ownBlock ∧ k_ ≠ gb140) u135000 x135000_1) := ⟨h1_⟩
      have n2_ : Aside0 (w22.heap[gb132]? = some (.cells #[.slice (some ad135) l0_0.length c0_0] 24 (0, 0))) := ⟨h2_⟩
      have n3_ : Aside0 (w22.heap[gb133]? = some (.cells #[.slice none 0 0] 28 (0, 0))) := ⟨h3_⟩
      have n4_ : Aside0 (w22.heap[gb134]? = some (.cells #[u135000] 28 (0, 0))) := ⟨h4_⟩
      have n5_ : Aside0 (w22.heap[gb136]? = some (.cells #[.string ((rd_T44 l0_0 x15_1).f0), .string ((rd_T44 l0_0 x15_1).f1), .slice A135_2 ((rd_T44 l0_0 x15_1).f2).length c135_2, .slice A135_3 ((rd_T44 l0_0 x15_1).f3).length c135_3] 44 (0, 0))) := ⟨h5_⟩
      have n6_ : Aside0 (w22.heap[gb140]? = some (.cells #[.string (⟨#[]⟩ : ByteArray), .string (⟨#[]⟩ : ByteArray), .slice none 0 0, .slice none 0 0] 35 (0, 0))) := ⟨h6_⟩
      have n7_ : Aside0 (w.heap.size ≤ gb140) := ⟨h7_⟩
      have n8_ : Aside0 (w.heap.size ≤ gb140) := ⟨h8_⟩
      have n9_ : Aside0 (gb132 ≠ gb140) := ⟨h9_⟩
      have n10_ : Aside0 (gb140 ≠ gb132) := ⟨h10_⟩
      have n11_ : Aside0 (gb133 ≠ gb140) := ⟨h11_⟩
      have n12_ : Aside0 (gb140 ≠ gb133) := ⟨h12_⟩
      have n13_ : Aside0 (gb134 ≠ gb140) := ⟨h13_⟩
      have n14_ : Aside0 (gb140 ≠ gb134) := ⟨h14_⟩
      have n15_ : Aside0 (gb136 ≠ gb140) := ⟨h15_⟩
      have n16_ : Aside0 (gb140 ≠ gb136) := ⟨h16_⟩
      have n17_ : Aside0 (Below w.heap.size w w22) := ⟨h17_⟩
      clear HO_135000
      clear BK132
      clear BK133
      clear BK134
      clear BK136
      clear HB
      clear h0_ h1_ h2_ h3_ h4_ h5_ h6_ h7_ h8_ h9_ h10_ h11_ h12_ h13_ h14_ h15_ h16_ h17_
      have HO139 := n0_
      have HO_135000 := n1_
      have BK132 := n2_
      have BK133 := n3_
      have BK134 := n4_
      have BK136 := n5_
      have BK140 := n6_
      have GW140 := n7_
      have GE140 := n8_
      have NB132_140 := n9_
      have NB140_132 := n10_
      have NB133_140 := n11_
      have NB140_133 := n12_
      have NB134_140 := n13_
      have NB140_134 := n14_
      have NB136_140 := n15_
      have NB140_136 := n16_
      have HB := n17_
      clear n0_ n1_ n2_ n3_ n4_ n5_ n6_ n7_ n8_ n9_ n10_ n11_ n12_ n13_ n14_ n15_ n16_ n17_
      have hHeld : w22.cell? ⟨gb136, 0, none⟩ = some (.string ((rd_T44 l0_0 x15_1).f0)) ∧ w22.cell? ⟨gb136, 1, none⟩ = some (.string ((rd_T44 l0_0 x15_1).f1)) ∧ w22.cell? ⟨gb136, 2, none⟩ = some (.slice A135_2 ((rd_T44 l0_0 x15_1).f2).length c135_2) ∧ w22.cell? ⟨gb136, 3, none⟩ = some (.slice A135_3 ((rd_T44 l0_0 x15_1).f3).length c135_3) := hS_
      obtain ⟨Ao23, co23, eo23⟩ := Kd.R_slice HO139.out
      (first | subst eo23 | (injection eo23 with f1_ f2_ f3_; have f4_ := f1_.symm; have f5_ := f3_.symm; clear f1_ f2_ f3_; subst f4_; subst f5_))
      refine norm_ (a' := ?_) ?_ ?_
      rotate_left
      ·simp only [putAll, Act.put, List.setIfInBounds_toArray, List.set_cons_zero, List.set_cons_succ]
       rfl
      refine one_ (i := 9) (N := none) #[true, true, true, true, true, true, true, true, true, true] rfl rfl (one_of HT_.out (by kernel_rfl)) (by decide) (fun K hK => ?_)
      have hs24 : w22.cell? ⟨gb140, 0, none⟩ = some (.string (⟨#[]⟩ : ByteArray)) := (blk_cell BK140.out 0).trans rfl
      have hfs24 := blk_frozen BK140.out 0
      have hns24_0 := NB132_140.out
      have hns24_1 := NB133_140.out
      have hns24_2 := NB134_140.out
      have hns24_3 := NB136_140.out
      have hms24_0 := NB140_132.out
      have hms24_1 := NB140_133.out
      have hms24_2 := NB140_134.out
      have hms24_3 := NB140_136.out
      have hs25 : w22.cell? ⟨gb140, 1, none⟩ = some (.string (⟨#[]⟩ : ByteArray)) := (blk_cell BK140.out 1).trans rfl
      have hfs25 := blk_frozen BK140.out 1
      have hns25_0 := NB132_140.out
      have hns25_1 := NB133_140.out
      have hns25_2 := NB134_140.out
      have hns25_3 := NB136_140.out
      have hms25_0 := NB140_132.out
      have hms25_1 := NB140_133.out
      have hms25_2 := NB140_134.out
      have hms25_3 := NB140_136.out
      have hs26 : w22.cell? ⟨gb140, 2, none⟩ = some (.slice none 0 0) := (blk_cell BK140.out 2).trans rfl
      have hfs26 := blk_frozen BK140.out 2
      have hns26_0 := NB132_140.out
      have hns26_1 := NB133_140.out
      have hns26_2 := NB134_140.out
      have hns26_3 := NB136_140.out
      have hms26_0 := NB140_132.out
      have hms26_1 := NB140_133.out
      have hms26_2 := NB140_134.out
      have hms26_3 := NB140_136.out
      have hs27 : w22.cell? ⟨gb140, 3, none⟩ = some (.slice none 0 0) := (blk_cell BK140.out 3).trans rfl
      have hfs27 := blk_frozen BK140.out 3
      have hns27_0 := NB132_140.out
      have hns27_1 := NB133_140.out
      have hns27_2 := NB134_140.out
      have hns27_3 := NB136_140.out
      have hms27_0 := NB140_132.out
      have hms27_1 := NB140_133.out
      have hms27_2 := NB140_134.out
      have hms27_3 := NB140_136.out
      refine skip_ (w1 := ?_) (by rfl) rfl ?_ ?_
      rotate_left
      ·go_simp
       rfl
      refine hK.out _ _ ⟨((cell_far (p := ⟨gb140, _, none⟩) NB136_140.out _).trans (((cell_far (p := ⟨gb140, _, none⟩) NB136_140.out _).trans (((cell_far (p := ⟨gb140, _, none⟩) NB136_140.out _).trans (((cell_far (p := ⟨gb140, _, none⟩) NB136_140.out _).trans (hHeld.1)))))))), ((cell_far (p := ⟨gb140, _, none⟩) NB136_140.out _).trans (((cell_far (p := ⟨gb140, _, none⟩) NB136_140.out _).trans (((cell_far (p := ⟨gb140, _, none⟩) NB136_140.out _).trans (((cell_far (p := ⟨gb140, _, none⟩) NB136_140.out _).trans (hHeld.2.1)))))))), ((cell_far (p := ⟨gb140, _, none⟩) NB136_140.out _).trans (((cell_far (p := ⟨gb140, _, none⟩) NB136_140.out _).trans (((cell_far (p := ⟨gb140, _, none⟩) NB136_140.out _).trans (((cell_far (p := ⟨gb140, _, none⟩) NB136_140.out _).trans (hHeld.2.2.1)))))))), ((cell_far (p := ⟨gb140, _, none⟩) NB136_140.out _).trans (((cell_far (p := ⟨gb140, _, none⟩) NB136_140.out _).trans (((cell_far (p := ⟨gb140, _, none⟩) NB136_140.out _).trans (((cell_far (p := ⟨gb140, _, none⟩) NB136_140.out _).trans (hHeld.2.2.2))))))))⟩ (fun hHeld => ?_)
      clear hK K
      refine done_ (done_of HT_.out (by kernel_rfl)) ?_
      have hnb28 := NB136_140.out
      have hnc28 := NB140_136.out
      have hcz29_0 : w22.cell? ⟨gb136, 0, none⟩ = some (.string ((rd_T44 l0_0 x15_1).f0)) := (blk_cell BK136.out 0).trans rfl
      have hcz29_1 : w22.cell? ⟨gb136, 1, none⟩ = some (.string ((rd_T44 l0_0 x15_1).f1)) := (blk_cell BK136.out 1).trans rfl
      have hcz29_2 : w22.cell? ⟨gb136, 2, none⟩ = some (.slice A135_2 ((rd_T44 l0_0 x15_1).f2).length c135_2) := (blk_cell BK136.out 2).trans rfl
      have hcz29_3 : w22.cell? ⟨gb136, 3, none⟩ = some (.slice A135_3 ((rd_T44 l0_0 x15_1).f3).length c135_3) := (blk_cell BK136.out 3).trans rfl
      have hfz29_0 := blk_frozen BK136.out 0
      have hfz29_1 := blk_frozen BK136.out 1
      have hfz29_2 := blk_frozen BK136.out 2
      have hfz29_3 := blk_frozen BK136.out 3
      try go_wp2
      go_loopg [30] k1 (fun kq v30 w' => ∃ (x30_2 : Int) (x141003_2 : List (S40)) (u141003 : Value), v30 = .int .i64 x30_2 ∧ Aside0 (hier_Of.l1 kq l0_0 (l0_0.length : Int) x15_1 ((rd_T44 l0_0 x15_1).f3) (((rd_T44 l0_0 x15_1).f3).length : Int) x30_2 x135000_1 ((rd_T44 l0_0 x15_1).f0) ((rd_T44 l0_0 x15_1).f1) t137 x141003_2 = some r) ∧ Aside0 (kq ≤ k1) ∧ Aside0 (Kd.R k35 35 w' w.heap.size (fun k_ => some k_ ≠ ((.slice Ao23 t137.length co23) : Value).ownBlock ∧ some k_ ≠ (u141003 : Value).ownBlock ∧ k_ ≠ gb140) u135000 x135000_1) ∧ Aside0 (Kd.R k37 37 w' w.heap.size (fun _ => True) (.slice Ao23 t137.length co23) t137) ∧ Aside0 (Kd.S k40 40 w' w.heap.size (fun _ => True) u141003 x141003_2) ∧ Aside0 (w'.heap[gb132]? = some (.cells #[(.slice (some ad135) l0_0.length c0_0)] 24 (0, 0))) ∧ Aside0 (w'.heap[gb133]? = some (.cells #[(.slice none 0 0)] 28 (0, 0))) ∧ Aside0 (w'.heap[gb134]? = some (.cells #[u135000] 28 (0, 0))) ∧ Aside0 (w'.heap[gb136]? = some (.cells #[.string ((rd_T44 l0_0 x15_1).f0), .string ((rd_T44 l0_0 x15_1).f1), (.slice A135_2 ((rd_T44 l0_0 x15_1).f2).length c135_2), (.slice A135_3 ((rd_T44 l0_0 x15_1).f3).length c135_3)] 44 (0, 0))) ∧ Aside0 (w'.heap[gb140]? = some (.cells #[.string ((rd_T44 l0_0 x15_1).f0), .string ((rd_T44 l0_0 x15_1).f1), (.slice Ao23 t137.length co23), u141003] 35 (0, 0))) ∧ Aside0 (Below w.heap.size w w'))
      case atStart => exact ⟨(0), (([] : List (S40))), (.slice none 0 0), (by first | rfl | (simp; done) | (simp [*]; done)), H', ⟨Nat.le_refl _⟩, ⟨by (with_reducible repeat first | apply Kd.R_alloc | apply Kd.R_drewN | apply Kd.R_drew); exact Kd.R_mono (Kd.R_far (p := ⟨gb140, 3, none⟩) (Kd.R_far (p := ⟨gb140, 2, none⟩) (Kd.R_far (p := ⟨gb140, 1, none⟩) (Kd.R_far (p := ⟨gb140, 0, none⟩) (Kd.R_mono HO_135000.out (fun k_ hk => (⟨hk, hk.2⟩ : _ ∧ k_ ≠ gb140))) (fun _ hk => hk.2) (.string ((rd_T44 l0_0 x15_1).f0))) (fun _ hk => hk.2) (.string ((rd_T44 l0_0 x15_1).f1))) (fun _ hk => hk.2) (.slice Ao23 t137.length co23)) (fun _ hk => hk.2) (.slice none 0 0)) (fun _ hk => ⟨hk.1.1, ⟨(by simp [Value.ownBlock]), hk.1.2⟩⟩)⟩, ⟨by (with_reducible repeat first | apply Kd.R_alloc | apply Kd.R_drewN | apply Kd.R_drew); exact Kd.R_mono (Kd.R_far (p := ⟨gb140, 3, none⟩) (Kd.R_far (p := ⟨gb140, 2, none⟩) (Kd.R_far (p := ⟨gb140, 1, none⟩) (Kd.R_far (p := ⟨gb140, 0, none⟩) (Kd.R_types HO139.out BK140.out (by decide)) (fun _ hk => hk.2) (.string ((rd_T44 l0_0 x15_1).f0))) (fun _ hk => hk.2) (.string ((rd_T44 l0_0 x15_1).f1))) (fun _ hk => hk.2) (.slice Ao23 t137.length co23)) (fun _ hk => hk.2) (.slice none 0 0)) (fun _ hk => trivial)⟩, ⟨by first | exact Kd.S_nil _ _ _ _ _ | exact Kd.N_nil _ _ _ _ _ | exact Kd.V_nil _ _ _ _ _ | exact Kd.Q_nil _ _ _ _ _ | exact Kd.R_nil _ _ _ _ _⟩, ⟨by (with_reducible repeat first | apply bn | apply bd | apply ba); refine blk_far ?_ NB132_140.out _; refine blk_far ?_ NB132_140.out _; refine blk_far ?_ NB132_140.out _; refine blk_far ?_ NB132_140.out _; (with_reducible repeat first | apply bn | apply bd | apply ba); exact BK132.out⟩, ⟨by (with_reducible repeat first | apply bn | apply bd | apply ba); refine blk_far ?_ NB133_140.out _; refine blk_far ?_ NB133_140.out _; refine blk_far ?_ NB133_140.out _; refine blk_far ?_ NB133_140.out _; (with_reducible repeat first | apply bn | apply bd | apply ba); exact BK133.out⟩, ⟨by (with_reducible repeat first | apply bn | apply bd | apply ba); refine blk_far ?_ NB134_140.out _; refine blk_far ?_ NB134_140.out _; refine blk_far ?_ NB134_140.out _; refine blk_far ?_ NB134_140.out _; (with_reducible repeat first | apply bn | apply bd | apply ba); exact BK134.out⟩, ⟨by (with_reducible repeat first | apply bn | apply bd | apply ba); refine blk_far ?_ NB136_140.out _; refine blk_far ?_ NB136_140.out _; refine blk_far ?_ NB136_140.out _; refine blk_far ?_ NB136_140.out _; (with_reducible repeat first | apply bn | apply bd | apply ba); exact BK136.out⟩, ⟨by (with_reducible repeat first | apply bn | apply bd | apply ba); refine blk_put (cs := #[.string ((rd_T44 l0_0 x15_1).f0), .string ((rd_T44 l0_0 x15_1).f1), .slice Ao23 t137.length co23, .slice none 0 0]) ?_ 3 _ rfl; refine blk_put (cs := #[.string ((rd_T44 l0_0 x15_1).f0), .string ((rd_T44 l0_0 x15_1).f1), .slice none 0 0, .slice none 0 0]) ?_ 2 _ rfl; refine blk_put (cs := #[.string ((rd_T44 l0_0 x15_1).f0), .string (⟨#[]⟩ : ByteArray), .slice none 0 0, .slice none 0 0]) ?_ 1 _ rfl; refine blk_put (cs := #[.string (⟨#[]⟩ : ByteArray), .string (⟨#[]⟩ : ByteArray), .slice none 0 0, .slice none 0 0]) ?_ 0 _ rfl; (with_reducible repeat first | apply bn | apply bd | apply ba); exact BK140.out⟩, ⟨by repeat with_reducible first | exact HB.out | apply below_alloc | apply pw_below_drewN | apply below_drew1 | refine below_set ?_ GE132.out | refine below_set ?_ GE133.out | refine below_set ?_ GE134.out | refine below_set ?_ GE136.out | refine below_set ?_ GE140.out⟩⟩
      case round =>
       clear H'
       try clear c1
       try clear p1
       try clear q1
       try clear hx1
       try clear c2
       try clear p2
       try clear c5
       try clear c6
       try clear c8
       try clear c8b0
       try clear c9
       try clear c9b0
       try clear c10
       try clear c10b0
       try clear c13
       try clear p13
       try clear q13
       try clear hx13
       try clear c14
       try clear c15
       try clear c28
       try clear hcz16_0
       try clear hcz16_1
       try clear hcz16_2
       try clear hcz16_3
       try clear hcz29_0
       try clear hcz29_1
       try clear hcz29_2
       try clear hcz29_3
       try clear hcz7_0
       try clear hfz16_0
       try clear hfz16_1
       try clear hfz16_2
       try clear hfz16_3
       try clear hfz29_0
       try clear hfz29_1
       try clear hfz29_2
       try clear hfz29_3
       try clear hfz7_0
       try clear hx135_0
       try clear hx135_1
       try clear hx135_2
       try clear hx135_3
       try clear p135
       try clear p2
       try clear q135
       obtain ⟨x30_2, x141003_2, u141003, rfl, HA, HK2, HO_135000, HO_141002, HO_141003, BK132, BK133, BK134, BK136, BK140, HB⟩ := hrel
       cases gk with
       | zero => exact absurd HA.out (by simp [hier_Of.l1])
       | succ k2 =>
        have H := HA.out
        clear HA
        simp only [hier_Of.l1] at H
        by_cases c30 : x30_2 < (((rd_T44 l0_0 x15_1).f3).length : Int)
        ·rw [if_pos c30] at H
         have c30b0 : decide (x30_2 < (((rd_T44 l0_0 x15_1).f3).length : Int)) = true := decide_eq_true c30
         clear c30
         by_cases c31 : 0 ≤ x30_2
         ·rw [if_pos c31] at H
          have c31b0 : decide (0 ≤ x30_2) = true := decide_eq_true c31
          clear c31
          by_cases c32 : x30_2 < (((rd_T44 l0_0 x15_1).f3).length : Int)
          ·rw [if_pos c32] at H
           have c32b0 : decide (x30_2 < (((rd_T44 l0_0 x15_1).f3).length : Int)) = true := decide_eq_true c32
           clear c32
           have H' := Aside0.mk H
           clear H
           have p144 : 0 ≤ (x30_2 : Int) := of_decide_eq_true (by first | (with_reducible assumption) | assumption)
           have q144 : x30_2 < (((rd_T44 l0_0 x15_1).f3).length : Int) := of_decide_eq_true (by first | (with_reducible assumption) | assumption)
           obtain ⟨ad144, A144_2, c144_2, A144_4, c144_4, e144, hx144_0, hx144_1, hx144_2, hx144_3, hx144_4, hl144_2, hi144_2, hl144_4, hi144_4⟩ := at_T48 HR135_3.out x30_2 p144 q144
           cases e144
           replace hx144_0 := (HB.out.cell (World.block_lt_of_cell? w _ hx144_0)).trans hx144_0
           replace hx144_1 := (HB.out.cell (World.block_lt_of_cell? w _ hx144_1)).trans hx144_1
           replace hx144_2 := (HB.out.cell (World.block_lt_of_cell? w _ hx144_2)).trans hx144_2
           replace hx144_3 := (HB.out.cell (World.block_lt_of_cell? w _ hx144_3)).trans hx144_3
           replace hx144_4 := (HB.out.cell (World.block_lt_of_cell? w _ hx144_4)).trans hx144_4
           have HR144_2 := Aside0.mk hi144_2
           have HC144_2 := Aside0.mk hl144_2
           clear hi144_2 hl144_2
           have HR144_4 := Aside0.mk hi144_4
           have HC144_4 := Aside0.mk hl144_4
           clear hi144_4 hl144_4
           replace p144 := eq_true p144
           replace q144 := eq_true q144
           go_wp2_with (first | ((with_reducible refine gate_dst (N := 8) rfl ?_); refine box_event ?hg (N := 8) ?hd (cs := #[.string (⟨#[]⟩ : ByteArray), .bool false, .slice none 0 0, .string (⟨#[]⟩ : ByteArray), .slice none 0 0]) (t := 48) ?hr ?_; (case hd => rfl); (case hg => rfl); (case hr => first | (go_simp; done) | (go_simp; rfl)); intro gb145 hg w33 hbox hb; have n0_ := Aside0.mk (Kd.R_below (by (with_reducible repeat first | apply Kd.R_alloc | apply Kd.R_drewN | apply Kd.R_drew); exact HO_135000.out) hb); have n1_ := Aside0.mk (Kd.R_below (by (with_reducible repeat first | apply Kd.R_alloc | apply Kd.R_drewN | apply Kd.R_drew); exact HO_141002.out) hb); have n2_ := Aside0.mk (Kd.S_below (by (with_reducible repeat first | apply Kd.S_alloc | apply Kd.S_drewN | apply Kd.S_drew); exact HO_141003.out) hb); have n3_ := Aside0.mk (blk_below (g := gb132) (o := .cells #[.slice (some ad135) l0_0.length c0_0] 24 (0, 0)) (by (with_reducible repeat first | apply bn | apply bd | apply ba); exact BK132.out) hb); have n4_ := Aside0.mk (blk_below (g := gb133) (o := .cells #[.slice none 0 0] 28 (0, 0)) (by (with_reducible repeat first | apply bn | apply bd | apply ba); exact BK133.out) hb); have n5_ := Aside0.mk (blk_below (g := gb134) (o := .cells #[u135000] 28 (0, 0)) (by (with_reducible repeat first | apply bn | apply bd | apply ba); exact BK134.out) hb); have n6_ := Aside0.mk (blk_below (g := gb136) (o := .cells #[.string ((rd_T44 l0_0 x15_1).f0), .string ((rd_T44 l0_0 x15_1).f1), .slice A135_2 ((rd_T44 l0_0 x15_1).f2).length c135_2, .slice (some ad144) ((rd_T44 l0_0 x15_1).f3).length c135_3] 44 (0, 0)) (by (with_reducible repeat first | apply bn | apply bd | apply ba); exact BK136.out) hb); have n7_ := Aside0.mk (blk_below (g := gb140) (o := .cells #[.string ((rd_T44 l0_0 x15_1).f0), .string ((rd_T44 l0_0 x15_1).f1), .slice Ao23 t137.length co23, u141003] 35 (0, 0)) (by (with_reducible repeat first | apply bn | apply bd | apply ba); exact BK140.out) hb); have n8_ := Aside0.mk (below_step (by repeat with_reducible first | exact HB.out | apply below_alloc | apply pw_below_drewN | apply below_drew1 | refine below_set ?_ GE132.out | refine below_set ?_ GE133.out | refine below_set ?_ GE134.out | refine below_set ?_ GE136.out | refine below_set ?_ GE140.out) hb); have n9_ := Aside0.mk (hbox); have n10_ := Aside0.mk ((by rw [hg]; exact (below_size (by repeat with_reducible first | exact HB.out | apply below_alloc | apply pw_below_drewN | apply below_drew1 | refine below_set ?_ GE132.out | refine below_set ?_ GE133.out | refine below_set ?_ GE134.out | refine below_set ?_ GE136.out | refine below_set ?_ GE140.out)) : w.heap.size ≤ gb145)); have n11_ := Aside0.mk ((by rw [hg]; exact (below_size (by repeat with_reducible first | exact HB.out | apply below_alloc | apply pw_below_drewN | apply below_drew1 | refine below_set ?_ GE132.out | refine below_set ?_ GE133.out | refine below_set ?_ GE134.out | refine below_set ?_ GE136.out | refine below_set ?_ GE140.out)) : w.heap.size ≤ gb145)); have n12_ := Aside0.mk ((by rw [hg]; exact Nat.ne_of_lt (blk_lt (g := gb132) (o := .cells #[.slice (some ad135) l0_0.length c0_0] 24 (0, 0)) (by (with_reducible repeat first | apply bn | apply bd | apply ba); exact BK132.out)) : gb132 ≠ gb145)); have n13_ := Aside0.mk ((by rw [hg]; exact Nat.ne_of_gt (blk_lt (g := gb132) (o := .cells #[.slice (some ad135) l0_0.length c0_0] 24 (0, 0)) (by (with_reducible repeat first | apply bn | apply bd | apply ba); exact BK132.out)) : gb145 ≠ gb132)); have n14_ := Aside0.mk ((by rw [hg]; exact Nat.ne_of_lt (blk_lt (g := gb133) (o := .cells #[.slice none 0 0] 28 (0, 0)) (by (with_reducible repeat first | apply bn | apply bd | apply ba); exact BK133.out)) : gb133 ≠ gb145)); have n15_ := Aside0.mk ((by rw [hg]; exact Nat.ne_of_gt (blk_lt (g := gb133) (o := .cells #[.slice none 0 0] 28 (0, 0)) (by (with_reducible repeat first | apply bn | apply bd | apply ba); exact BK133.out)) : gb145 ≠ gb133)); have n16_ := Aside0.mk ((by rw [hg]; exact Nat.ne_of_lt (blk_lt (g := gb134) (o := .cells #[u135000] 28 (0, 0)) (by (with_reducible repeat first | apply bn | apply bd | apply ba); exact BK134.out)) : gb134 ≠ gb145)); have n17_ := Aside0.mk ((by rw [hg]; exact Nat.ne_of_gt (blk_lt (g := gb134) (o := .cells #[u135000] 28 (0, 0)) (by (with_reducible repeat first | apply bn | apply bd | apply ba); exact BK134.out)) : gb145 ≠ gb134)); have n18_ := Aside0.mk ((by rw [hg]; exact Nat.ne_of_lt (blk_lt (g := gb136) (o := .cells #[.string ((rd_T44 l0_0 x15_1).f0), .string ((rd_T44 l0_0 x15_1).f1), .slice A135_2 ((rd_T44 l0_0 x15_1).f2).length c135_2, .slice (some ad144) ((rd_T44 l0_0 x15_1).f3).length c135_3] 44 (0, 0)) (by (with_reducible repeat first | apply bn | apply bd | apply ba); exact BK136.out)) : gb136 ≠ gb145)); have n19_ := Aside0.mk ((by rw [hg]; exact Nat.ne_of_gt (blk_lt (g := gb136) (o := .cells #[.string ((rd_T44 l0_0 x15_1).f0), .string ((rd_T44 l0_0 x15_1).f1), .slice A135_2 ((rd_T44 l0_0 x15_1).f2).length c135_2, .slice (some ad144) ((rd_T44 l0_0 x15_1).f3).length c135_3] 44 (0, 0)) (by (with_reducible repeat first | apply bn | apply bd | apply ba); exact BK136.out)) : gb145 ≠ gb136)); have n20_ := Aside0.mk ((by rw [hg]; exact Nat.ne_of_lt (blk_lt (g := gb140) (o := .cells #[.string ((rd_T44 l0_0 x15_1).f0), .string ((rd_T44 l0_0 x15_1).f1), .slice Ao23 t137.length co23, u141003] 35 (0, 0)) (by (with_reducible repeat first | apply bn | apply bd | apply ba); exact BK140.out)) : gb140 ≠ gb145)); have n21_ := Aside0.mk ((by rw [hg]; exact Nat.ne_of_gt (blk_lt (g := gb140) (o := .cells #[.string ((rd_T44 l0_0 x15_1).f0), .string ((rd_T44 l0_0 x15_1).f1), .slice Ao23 t137.length co23, u141003] 35 (0, 0)) (by (with_reducible repeat first | apply bn | apply bd | apply ba); exact BK140.out)) : gb145 ≠ gb140)); clear HO_135000; clear HO_141002; clear HO_141003; clear BK132; clear BK133; clear BK134; clear BK136; clear BK140; clear HB; have HO_135000 := n0_; have HO_141002 := n1_; have HO_141003 := n2_; have BK132 := n3_; have BK133 := n4_; have BK134 := n5_; have BK136 := n6_; have BK140 := n7_; have HB := n8_; have BK145 := n9_; have GW145 := n10_; have GE145 := n11_; have NB132_145 := n12_; have NB145_132 := n13_; have NB133_145 := n14_; have NB145_133 := n15_; have NB134_145 := n16_; have NB145_134 := n17_; have NB136_145 := n18_; have NB145_136 := n19_; have NB140_145 := n20_; have NB145_140 := n21_; clear n0_ n1_ n2_ n3_ n4_ n5_ n6_ n7_ n8_ n9_ n10_ n11_ n12_ n13_ n14_ n15_ n16_ n17_ n18_ n19_ n20_ n21_; clear hb hbox hg; have hnb34 := NB145_132.out; have hnc34 := NB132_145.out; have hnb35 := NB145_133.out; have hnc35 := NB133_145.out; have hnb36 := NB145_134.out; have hnc36 := NB134_145.out; have hnb37 := NB145_136.out; have hnc37 := NB136_145.out; have hnb38 := NB145_140.out; have hnc38 := NB140_145.out; have hcz39_0 : w33.cell? ⟨gb145, 0, none⟩ = some (.string (⟨#[]⟩ : ByteArray)) := (blk_cell BK145.out 0).trans rfl; have hcz39_1 : w33.cell? ⟨gb145, 1, none⟩ = some (.bool false) := (blk_cell BK145.out 1).trans rfl; have hcz39_2 : w33.cell? ⟨gb145, 2, none⟩ = some (.slice none 0 0) := (blk_cell BK145.out 2).trans rfl; have hcz39_3 : w33.cell? ⟨gb145, 3, none⟩ = some (.string (⟨#[]⟩ : ByteArray)) := (blk_cell BK145.out 3).trans rfl; have hcz39_4 : w33.cell? ⟨gb145, 4, none⟩ = some (.slice none 0 0) := (blk_cell BK145.out 4).trans rfl; have hfz39_0 := blk_frozen BK145.out 0; have hfz39_1 := blk_frozen BK145.out 1; have hfz39_2 := blk_frozen BK145.out 2; have hfz39_3 := blk_frozen BK145.out 3; have hfz39_4 := blk_frozen BK145.out 4) | ((with_reducible refine gate_dst (N := 9) rfl ?_); refine box_event ?hg (N := 9) ?hd (cs := #[.string (⟨#[]⟩ : ByteArray), .bool false, .slice none 0 0, .string (⟨#[]⟩ : ByteArray)]) (t := 40) ?hr ?_; (case hd => rfl); (case hg => rfl); (case hr => first | (go_simp; done) | (go_simp; rfl)); intro gb146 hg w40 hbox hb; have n0_ := Aside0.mk (Kd.R_below (Kd.R_elderB (by (with_reducible repeat first | apply Kd.R_alloc | apply Kd.R_drewN | apply Kd.R_drew); exact (Kd.R_mono (Kd.R_far (p := ⟨gb145, 4, none⟩) (Kd.R_far (p := ⟨gb145, 3, none⟩) (Kd.R_far (p := ⟨gb145, 2, none⟩) (Kd.R_far (p := ⟨gb145, 1, none⟩) (Kd.R_far (p := ⟨gb145, 0, none⟩) (Kd.R_types HO_135000.out BK145.out (by decide)) (fun _ hk => hk.2) (.string ((rd_T48 ((rd_T44 l0_0 x15_1).f3) x30_2).f0))) (fun _ hk => hk.2) (.bool ((rd_T48 ((rd_T44 l0_0 x15_1).f3) x30_2).f1))) (fun _ hk => hk.2) (.slice A144_2 ((rd_T48 ((rd_T44 l0_0 x15_1).f3) x30_2).f2).length c144_2)) (fun _ hk => hk.2) (.string ((rd_T48 ((rd_T44 l0_0 x15_1).f3) x30_2).f3))) (fun _ hk => hk.2) (.slice A144_4 ((rd_T48 ((rd_T44 l0_0 x15_1).f3) x30_2).f4).length c144_4)) (fun _ h_ => h_.1))) gb146 (Nat.le_of_eq hg.symm)) hb); have n1_ := Aside0.mk (Kd.R_below (by (with_reducible repeat first | apply Kd.R_alloc | apply Kd.R_drewN | apply Kd.R_drew); exact (Kd.R_mono (Kd.R_far (p := ⟨gb145, 4, none⟩) (Kd.R_far (p := ⟨gb145, 3, none⟩) (Kd.R_far (p := ⟨gb145, 2, none⟩) (Kd.R_far (p := ⟨gb145, 1, none⟩) (Kd.R_far (p := ⟨gb145, 0, none⟩) (Kd.R_types HO_141002.out BK145.out (by decide)) (fun _ hk => hk.2) (.string ((rd_T48 ((rd_T44 l0_0 x15_1).f3) x30_2).f0))) (fun _ hk => hk.2) (.bool ((rd_T48 ((rd_T44 l0_0 x15_1).f3) x30_2).f1))) (fun _ hk => hk.2) (.slice A144_2 ((rd_T48 ((rd_T44 l0_0 x15_1).f3) x30_2).f2).length c144_2)) (fun _ hk => hk.2) (.string ((rd_T48 ((rd_T44 l0_0 x15_1).f3) x30_2).f3))) (fun _ hk => hk.2) (.slice A144_4 ((rd_T48 ((rd_T44 l0_0 x15_1).f3) x30_2).f4).length c144_4)) (fun _ h_ => h_.1))) hb); have n2_ := Aside0.mk (Kd.S_below (Kd.S_elderB (by (with_reducible repeat first | apply Kd.S_alloc | apply Kd.S_drewN | apply Kd.S_drew); exact (Kd.S_mono (Kd.S_far (p := ⟨gb145, 4, none⟩) (Kd.S_far (p := ⟨gb145, 3, none⟩) (Kd.S_far (p := ⟨gb145, 2, none⟩) (Kd.S_far (p := ⟨gb145, 1, none⟩) (Kd.S_far (p := ⟨gb145, 0, none⟩) (Kd.S_types HO_141003.out BK145.out (by decide)) (fun _ hk => hk.2) (.string ((rd_T48 ((rd_T44 l0_0 x15_1).f3) x30_2).f0))) (fun _ hk => hk.2) (.bool ((rd_T48 ((rd_T44 l0_0 x15_1).f3) x30_2).f1))) (fun _ hk => hk.2) (.slice A144_2 ((rd_T48 ((rd_T44 l0_0 x15_1).f3) x30_2).f2).length c144_2)) (fun _ hk => hk.2) (.string ((rd_T48 ((rd_T44 l0_0 x15_1).f3) x30_2).f3))) (fun _ hk => hk.2) (.slice A144_4 ((rd_T48 ((rd_T44 l0_0 x15_1).f3) x30_2).f4).length c144_4)) (fun _ h_ => h_.1))) gb146 (Nat.le_of_eq hg.symm)) hb); have n3_ := Aside0.mk (blk_below (g := gb132) (o := .cells #[.slice (some ad135) l0_0.length c0_0] 24 (0, 0)) (by (with_reducible repeat first | apply bn | apply bd | apply ba); refine blk_far ?_ NB132_145.out _; refine blk_far ?_ NB132_145.out _; refine blk_far ?_ NB132_145.out _; refine blk_far ?_ NB132_145.out _; refine blk_far ?_ NB132_145.out _; (with_reducible repeat first | apply bn | apply bd | apply ba); exact BK132.out) hb); have n4_ := Aside0.mk (blk_below (g := gb133) (o := .cells #[.slice none 0 0] 28 (0, 0)) (by (with_reducible repeat first | apply bn | apply bd | apply ba); refine blk_far ?_ NB133_145.out _; refine blk_far ?_ NB133_145.out _; refine blk_far ?_ NB133_145.out _; refine blk_far ?_ NB133_145.out _; refine blk_far ?_ NB133_145.out _; (with_reducible repeat first | apply bn | apply bd | apply ba); exact BK133.out) hb); have n5_ := Aside0.mk (blk_below (g := gb134) (o := .cells #[u135000] 28 (0, 0)) (by (with_reducible repeat first | apply bn | apply bd | apply ba); refine blk_far ?_ NB134_145.out _; refine blk_far ?_ NB134_145.out _; refine blk_far ?_ NB134_145.out _; refine blk_far ?_ NB134_145.out _; refine blk_far ?_ NB134_145.out _; (with_reducible repeat first | apply bn | apply bd | apply ba); exact BK134.out) hb); have n6_ := Aside0.mk (blk_below (g := gb136) (o := .cells #[.string ((rd_T44 l0_0 x15_1).f0), .string ((rd_T44 l0_0 x15_1).f1), .slice A135_2 ((rd_T44 l0_0 x15_1).f2).length c135_2, .slice (some ad144) ((rd_T44 l0_0 x15_1).f3).length c135_3] 44 (0, 0)) (by (with_reducible repeat first | apply bn | apply bd | apply ba); refine blk_far ?_ NB136_145.out _; refine blk_far ?_ NB136_145.out _; refine blk_far ?_ NB136_145.out _; refine blk_far ?_ NB136_145.out _; refine blk_far ?_ NB136_145.out _; (with_reducible repeat first | apply bn | apply bd | apply ba); exact BK136.out) hb); have n7_ := Aside0.mk (blk_below (g := gb140) (o := .cells #[.string ((rd_T44 l0_0 x15_1).f0), .string ((rd_T44 l0_0 x15_1).f1), .slice Ao23 t137.length co23, u141003] 35 (0, 0)) (by (with_reducible repeat first | apply bn | apply bd | apply ba); refine blk_far ?_ NB140_145.out _; refine blk_far ?_ NB140_145.out _; refine blk_far ?_ NB140_145.out _; refine blk_far ?_ NB140_145.out _; refine blk_far ?_ NB140_145.out _; (with_reducible repeat first | apply bn | apply bd | apply ba); exact BK140.out) hb); have n8_ := Aside0.mk (blk_below (g := gb145) (o := .cells #[.string ((rd_T48 ((rd_T44 l0_0 x15_1).f3) x30_2).f0), .bool ((rd_T48 ((rd_T44 l0_0 x15_1).f3) x30_2).f1), .slice A144_2 ((rd_T48 ((rd_T44 l0_0 x15_1).f3) x30_2).f2).length c144_2, .string ((rd_T48 ((rd_T44 l0_0 x15_1).f3) x30_2).f3), .slice A144_4 ((rd_T48 ((rd_T44 l0_0 x15_1).f3) x30_2).f4).length c144_4] 48 (0, 0)) (by (with_reducible repeat first | apply bn | apply bd | apply ba); refine blk_put (cs := #[.string ((rd_T48 ((rd_T44 l0_0 x15_1).f3) x30_2).f0), .bool ((rd_T48 ((rd_T44 l0_0 x15_1).f3) x30_2).f1), .slice A144_2 ((rd_T48 ((rd_T44 l0_0 x15_1).f3) x30_2).f2).length c144_2, .string ((rd_T48 ((rd_T44 l0_0 x15_1).f3) x30_2).f3), .slice none 0 0]) ?_ 4 _ rfl; refine blk_put (cs := #[.string ((rd_T48 ((rd_T44 l0_0 x15_1).f3) x30_2).f0), .bool ((rd_T48 ((rd_T44 l0_0 x15_1).f3) x30_2).f1), .slice A144_2 ((rd_T48 ((rd_T44 l0_0 x15_1).f3) x30_2).f2).length c144_2, .string (⟨#[]⟩ : ByteArray), .slice none 0 0]) ?_ 3 _ rfl; refine blk_put (cs := #[.string ((rd_T48 ((rd_T44 l0_0 x15_1).f3) x30_2).f0), .bool ((rd_T48 ((rd_T44 l0_0 x15_1).f3) x30_2).f1), .slice none 0 0, .string (⟨#[]⟩ : ByteArray), .slice none 0 0]) ?_ 2 _ rfl; refine blk_put (cs := #[.string ((rd_T48 ((rd_T44 l0_0 x15_1).f3) x30_2).f0), .bool false, .slice none 0 0, .string (⟨#[]⟩ : ByteArray), .slice none 0 0]) ?_ 1 _ rfl; refine blk_put (cs := #[.string (⟨#[]⟩ : ByteArray), .bool false, .slice none 0 0, .string (⟨#[]⟩ : ByteArray), .slice none 0 0]) ?_ 0 _ rfl; (with_reducible repeat first | apply bn | apply bd | apply ba); exact BK145.out) hb); have n9_ := Aside0.mk (below_step (by repeat with_reducible first | exact HB.out | apply below_alloc | apply pw_below_drewN | apply below_drew1 | refine below_set ?_ GE132.out | refine below_set ?_ GE133.out | refine below_set ?_ GE134.out | refine below_set ?_ GE136.out | refine below_set ?_ GE140.out | refine below_set ?_ GE145.out) hb); have n10_ := Aside0.mk (hbox); have n11_ := Aside0.mk ((by rw [hg]; exact (below_size (by repeat with_reducible first | exact HB.out | apply below_alloc | apply pw_below_drewN | apply below_drew1 | refine below_set ?_ GE132.out | refine below_set ?_ GE133.out | refine below_set ?_ GE134.out | refine below_set ?_ GE136.out | refine below_set ?_ GE140.out | refine below_set ?_ GE145.out)) : w.heap.size ≤ gb146)); have n12_ := Aside0.mk ((by rw [hg]; exact (below_size (by repeat with_reducible first | exact HB.out | apply below_alloc | apply pw_below_drewN | apply below_drew1 | refine below_set ?_ GE132.out | refine below_set ?_ GE133.out | refine below_set ?_ GE134.out | refine below_set ?_ GE136.out | refine below_set ?_ GE140.out | refine below_set ?_ GE145.out)) : w.heap.size ≤ gb146)); have n13_ := Aside0.mk ((by rw [hg]; exact Nat.ne_of_lt (blk_lt (g := gb132) (o := .cells #[.slice (some ad135) l0_0.length c0_0] 24 (0, 0)) (by (with_reducible repeat first | apply bn | apply bd | apply ba); refine blk_far ?_ NB132_145.out _; refine blk_far ?_ NB132_145.out _; refine blk_far ?_ NB132_145.out _; refine blk_far ?_ NB132_145.out _; refine blk_far ?_ NB132_145.out _; (with_reducible repeat first | apply bn | apply bd | apply ba); exact BK132.out)) : gb132 ≠ gb146)); have n14_ := Aside0.mk ((by rw [hg]; exact Nat.ne_of_gt (blk_lt (g := gb132) (o := .cells #[.slice (some ad135) l0_0.length c0_0] 24 (0, 0)) (by (with_reducible repeat first | apply bn | apply bd | apply ba); refine blk_far ?_ NB132_145.out _; refine blk_far ?_ NB132_145.out _; refine blk_far ?_ NB132_145.out _; refine blk_far ?_ NB132_145.out _; refine blk_far ?_ NB132_145.out _; (with_reducible repeat first | apply bn | apply bd | apply ba); exact BK132.out)) : gb146 ≠ gb132)); have n15_ := Aside0.mk ((by rw [hg]; exact Nat.ne_of_lt (blk_lt (g := gb133) (o := .cells #[.slice none 0 0] 28 (0, 0)) (by (with_reducible repeat first | apply bn | apply bd | apply ba); refine blk_far ?_ NB133_145.out _; refine blk_far ?_ NB133_145.out _; refine blk_far ?_ NB133_145.out _; refine blk_far ?_ NB133_145.out _; refine blk_far ?_ NB133_145.out _; (with_reducible repeat first | apply bn | apply bd | apply ba); exact BK133.out)) : gb133 ≠ gb146)); have n16_ := Aside0.mk ((by rw [hg]; exact Nat.ne_of_gt (blk_lt (g := gb133) (o := .cells #[.slice none 0 0] 28 (0, 0)) (by (with_reducible repeat first | apply bn | apply bd | apply ba); refine blk_far ?_ NB133_145.out _; refine blk_far ?_ NB133_145.out _; refine blk_far ?_ NB133_145.out _; refine blk_far ?_ NB133_145.out _; refine blk_far ?_ NB133_145.out _; (with_reducible repeat first | apply bn | apply bd | apply ba); exact BK133.out)) : gb146 ≠ gb133)); have n17_ := Aside0.mk ((by rw [hg]; exact Nat.ne_of_lt (blk_lt (g := gb134) (o := .cells #[u135000] 28 (0, 0)) (by (with_reducible repeat first | apply bn | apply bd | apply ba); refine blk_far ?_ NB134_145.out _; refine blk_far ?_ NB134_145.out _; refine blk_far ?_ NB134_145.out _; refine blk_far ?_ NB134_145.out _; refine blk_far ?_ NB134_145.out _; (with_reducible repeat first | apply bn | apply bd | apply ba); exact BK134.out)) : gb134 ≠ gb146)); have n18_ := Aside0.mk ((by rw [hg]; exact Nat.ne_of_gt (blk_lt (g := gb134) (o := .cells #[u135000] 28 (0, 0)) (by (with_reducible repeat first | apply bn | apply bd | apply ba); refine blk_far ?_ NB134_145.out _; refine blk_far ?_ NB134_145.out _; refine blk_far ?_ NB134_145.out _; refine blk_far ?_ NB134_145.out _; refine blk_far ?_ NB134_145.out _; (with_reducible repeat first | apply bn | apply bd | apply ba); exact BK134.out)) : gb146 ≠ gb134)); have n19_ := Aside0.mk ((by rw [hg]; exact Nat.ne_of_lt (blk_lt (g := gb136) (o := .cells #[.string ((rd_T44 l0_0 x15_1).f0), .string ((rd_T44 l0_0 x15_1).f1), .slice A135_2 ((rd_T44 l0_0 x15_1).f2).length c135_2, .slice (some ad144) ((rd_T44 l0_0 x15_1).f3).length c135_3] 44 (0, 0)) (by (with_reducible repeat first | apply bn | apply bd | apply ba); refine blk_far ?_ NB136_145.out _; refine blk_far ?_ NB136_145.out _; refine blk_far ?_ NB136_145.out _; refine blk_far ?_ NB136_145.out _; refine blk_far ?_ NB136_145.out _; (with_reducible repeat first | apply bn | apply bd | apply ba); exact BK136.out)) : gb136 ≠ gb146)); have n20_ := Aside0.mk ((by rw [hg]; exact Nat.ne_of_gt (blk_lt (g := gb136) (o := .cells #[.string ((rd_T44 l0_0 x15_1).f0), .string ((rd_T44 l0_0 x15_1).f1), .slice A135_2 ((rd_T44 l0_0 x15_1).f2).length c135_2, .slice (some ad144) ((rd_T44 l0_0 x15_1).f3).length c135_3] 44 (0, 0)) (by (with_reducible repeat first | apply bn | apply bd | apply ba); refine blk_far ?_ NB136_145.out _; refine blk_far ?_ NB136_145.out _; refine blk_far ?_ NB136_145.out _; refine blk_far ?_ NB136_145.out _; refine blk_far ?_ NB136_145.out _; (with_reducible repeat first | apply bn | apply bd | apply ba); exact BK136.out)) : gb146 ≠ gb136)); have n21_ := Aside0.mk ((by rw [hg]; exact Nat.ne_of_lt (blk_lt (g := gb140) (o := .cells #[.string ((rd_T44 l0_0 x15_1).f0), .string ((rd_T44 l0_0 x15_1).f1), .slice Ao23 t137.length co23, u141003] 35 (0, 0)) (by (with_reducible repeat first | apply bn | apply bd | apply ba); refine blk_far ?_ NB140_145.out _; refine blk_far ?_ NB140_145.out _; refine blk_far ?_ NB140_145.out _; refine blk_far ?_ NB140_145.out _; refine blk_far ?_ NB140_145.out _; (with_reducible repeat first | apply bn | apply bd | apply ba); exact BK140.out)) : gb140 ≠ gb146)); have n22_ := Aside0.mk ((by rw [hg]; exact Nat.ne_of_gt (blk_lt (g := gb140) (o := .cells #[.string ((rd_T44 l0_0 x15_1).f0), .string ((rd_T44 l0_0 x15_1).f1), .slice Ao23 t137.length co23, u141003] 35 (0, 0)) (by (with_reducible repeat first | apply bn | apply bd | apply ba); refine blk_far ?_ NB140_145.out _; refine blk_far ?_ NB140_145.out _; refine blk_far ?_ NB140_145.out _; refine blk_far ?_ NB140_145.out _; refine blk_far ?_ NB140_145.out _; (with_reducible repeat first | apply bn | apply bd | apply ba); exact BK140.out)) : gb146 ≠ gb140)); have n23_ := Aside0.mk ((by rw [hg]; exact Nat.ne_of_lt (blk_lt (g := gb145) (o := .cells #[.string ((rd_T48 ((rd_T44 l0_0 x15_1).f3) x30_2).f0), .bool ((rd_T48 ((rd_T44 l0_0 x15_1).f3) x30_2).f1), .slice A144_2 ((rd_T48 ((rd_T44 l0_0 x15_1).f3) x30_2).f2).length c144_2, .string ((rd_T48 ((rd_T44 l0_0 x15_1).f3) x30_2).f3), .slice A144_4 ((rd_T48 ((rd_T44 l0_0 x15_1).f3) x30_2).f4).length c144_4] 48 (0, 0)) (by (with_reducible repeat first | apply bn | apply bd | apply ba); refine blk_put (cs := #[.string ((rd_T48 ((rd_T44 l0_0 x15_1).f3) x30_2).f0), .bool ((rd_T48 ((rd_T44 l0_0 x15_1).f3) x30_2).f1), .slice A144_2 ((rd_T48 ((rd_T44 l0_0 x15_1).f3) x30_2).f2).length c144_2, .string ((rd_T48 ((rd_T44 l0_0 x15_1).f3) x30_2).f3), .slice none 0 0]) ?_ 4 _ rfl; refine blk_put (cs := #[.string ((rd_T48 ((rd_T44 l0_0 x15_1).f3) x30_2).f0), .bool ((rd_T48 ((rd_T44 l0_0 x15_1).f3) x30_2).f1), .slice A144_2 ((rd_T48 ((rd_T44 l0_0 x15_1).f3) x30_2).f2).length c144_2, .string (⟨#[]⟩ : ByteArray), .slice none 0 0]) ?_ 3 _ rfl; refine blk_put (cs := #[.string ((rd_T48 ((rd_T44 l0_0 x15_1).f3) x30_2).f0), .bool ((rd_T48 ((rd_T44 l0_0 x15_1).f3) x30_2).f1), .slice none 0 0, .string (⟨#[]⟩ : ByteArray), .slice none 0 0]) ?_ 2 _ rfl; refine blk_put (cs := #[.string ((rd_T48 ((rd_T44 l0_0 x15_1).f3) x30_2).f0), .bool false, .slice none 0 0, .string (⟨#[]⟩ : ByteArray), .slice none 0 0]) ?_ 1 _ rfl; refine blk_put (cs := #[.string (⟨#[]⟩ : ByteArray), .bool false, .slice none 0 0, .string (⟨#[]⟩ : ByteArray), .slice none 0 0]) ?_ 0 _ rfl; (with_reducible repeat first | apply bn | apply bd | apply ba); exact BK145.out)) : gb145 ≠ gb146)); have n24_ := Aside0.mk ((by rw [hg]; exact Nat.ne_of_gt (blk_lt (g := gb145) (o := .cells #[.string ((rd_T48 ((rd_T44 l0_0 x15_1).f3) x30_2).f0), .bool ((rd_T48 ((rd_T44 l0_0 x15_1).f3) x30_2).f1), .slice A144_2 ((rd_T48 ((rd_T44 l0_0 x15_1).f3) x30_2).f2).length c144_2, .string ((rd_T48 ((rd_T44 l0_0 x15_1).f3) x30_2).f3), .slice A144_4 ((rd_T48 ((rd_T44 l0_0 x15_1).f3) x30_2).f4).length c144_4] 48 (0, 0)) (by (with_reducible repeat first | apply bn | apply bd | apply ba); refine blk_put (cs := #[.string ((rd_T48 ((rd_T44 l0_0 x15_1).f3) x30_2).f0), .bool ((rd_T48 ((rd_T44 l0_0 x15_1).f3) x30_2).f1), .slice A144_2 ((rd_T48 ((rd_T44 l0_0 x15_1).f3) x30_2).f2).length c144_2, .string ((rd_T48 ((rd_T44 l0_0 x15_1).f3) x30_2).f3), .slice none 0 0]) ?_ 4 _ rfl; refine blk_put (cs := #[.string ((rd_T48 ((rd_T44 l0_0 x15_1).f3) x30_2).f0), .bool ((rd_T48 ((rd_T44 l0_0 x15_1).f3) x30_2).f1), .slice A144_2 ((rd_T48 ((rd_T44 l0_0 x15_1).f3) x30_2).f2).length c144_2, .string (⟨#[]⟩ : ByteArray), .slice none 0 0]) ?_ 3 _ rfl; refine blk_put (cs := #[.string ((rd_T48 ((rd_T44 l0_0 x15_1).f3) x30_2).f0), .bool ((rd_T48 ((rd_T44 l0_0 x15_1).f3) x30_2).f1), .slice none 0 0, .string (⟨#[]⟩ : ByteArray), .slice none 0 0]) ?_ 2 _ rfl; refine blk_put (cs := #[.string ((rd_T48 ((rd_T44 l0_0 x15_1).f3) x30_2).f0), .bool false, .slice none 0 0, .string (⟨#[]⟩ : ByteArray), .slice none 0 0]) ?_ 1 _ rfl; refine blk_put (cs := #[.string (⟨#[]⟩ : ByteArray), .bool false, .slice none 0 0, .string (⟨#[]⟩ : ByteArray), .slice none 0 0]) ?_ 0 _ rfl; (with_reducible repeat first | apply bn | apply bd | apply ba); exact BK145.out)) : gb146 ≠ gb145)); clear HO_135000; clear HO_141002; clear HO_141003; clear BK132; clear BK133; clear BK134; clear BK136; clear BK140; clear BK145; clear HB; have HO_135000 := n0_; have HO_141002 := n1_; have HO_141003 := n2_; have BK132 := n3_; have BK133 := n4_; have BK134 := n5_; have BK136 := n6_; have BK140 := n7_; have BK145 := n8_; have HB := n9_; have BK146 := n10_; have GW146 := n11_; have GE146 := n12_; have NB132_146 := n13_; have NB146_132 := n14_; have NB133_146 := n15_; have NB146_133 := n16_; have NB134_146 := n17_; have NB146_134 := n18_; have NB136_146 := n19_; have NB146_136 := n20_; have NB140_146 := n21_; have NB146_140 := n22_; have NB145_146 := n23_; have NB146_145 := n24_; clear n0_ n1_ n2_ n3_ n4_ n5_ n6_ n7_ n8_ n9_ n10_ n11_ n12_ n13_ n14_ n15_ n16_ n17_ n18_ n19_ n20_ n21_ n22_ n23_ n24_; clear hb hbox hg; have hnb41 := NB146_132.out; have hnc41 := NB132_146.out; have hnb42 := NB146_133.out; have hnc42 := NB133_146.out; have hnb43 := NB146_134.out; have hnc43 := NB134_146.out; have hnb44 := NB146_136.out; have hnc44 := NB136_146.out; have hnb45 := NB146_140.out; have hnc45 := NB140_146.out; have hnb46 := NB146_145.out; have hnc46 := NB145_146.out; have hcz47_0 : w40.cell? ⟨gb146, 0, none⟩ = some (.string (⟨#[]⟩ : ByteArray)) := (blk_cell BK146.out 0).trans rfl; have hcz47_1 : w40.cell? ⟨gb146, 1, none⟩ = some (.bool false) := (blk_cell BK146.out 1).trans rfl; have hcz47_2 : w40.cell? ⟨gb146, 2, none⟩ = some (.slice none 0 0) := (blk_cell BK146.out 2).trans rfl; have hcz47_3 : w40.cell? ⟨gb146, 3, none⟩ = some (.string (⟨#[]⟩ : ByteArray)) := (blk_cell BK146.out 3).trans rfl; have hfz47_0 := blk_frozen BK146.out 0; have hfz47_1 := blk_frozen BK146.out 1; have hfz47_2 := blk_frozen BK146.out 2; have hfz47_3 := blk_frozen BK146.out 3; have hcz48_0 : w40.cell? ⟨gb145, 0, none⟩ = some (.string ((rd_T48 ((rd_T44 l0_0 x15_1).f3) x30_2).f0)) := (blk_cell BK145.out 0).trans rfl; have hcz48_1 : w40.cell? ⟨gb145, 1, none⟩ = some (.bool ((rd_T48 ((rd_T44 l0_0 x15_1).f3) x30_2).f1)) := (blk_cell BK145.out 1).trans rfl; have hcz48_2 : w40.cell? ⟨gb145, 2, none⟩ = some (.slice A144_2 ((rd_T48 ((rd_T44 l0_0 x15_1).f3) x30_2).f2).length c144_2) := (blk_cell BK145.out 2).trans rfl; have hcz48_3 : w40.cell? ⟨gb145, 3, none⟩ = some (.string ((rd_T48 ((rd_T44 l0_0 x15_1).f3) x30_2).f3)) := (blk_cell BK145.out 3).trans rfl; have hcz48_4 : w40.cell? ⟨gb145, 4, none⟩ = some (.slice A144_4 ((rd_T48 ((rd_T44 l0_0 x15_1).f3) x30_2).f4).length c144_4) := (blk_cell BK145.out 4).trans rfl; have hfz48_0 := blk_frozen BK145.out 0; have hfz48_1 := blk_frozen BK145.out 1; have hfz48_2 := blk_frozen BK145.out 2; have hfz48_3 := blk_frozen BK145.out 3; have hfz48_4 := blk_frozen BK145.out 4))
           go_loopg [44] k2 (fun kq v44 w' => ∃ (x44_3 : Int) (x147002_3 : List ByteArray) (u147002 : Value), v44 = .int .i64 x44_3 ∧ Aside0 (hier_Of.l2 kq l0_0 (l0_0.length : Int) x15_1 ((rd_T44 l0_0 x15_1).f3) (((rd_T44 l0_0 x15_1).f3).length : Int) x30_2 ((rd_T48 ((rd_T44 l0_0 x15_1).f3) x30_2).f2) (((rd_T48 ((rd_T44 l0_0 x15_1).f3) x30_2).f2).length : Int) x44_3 x135000_1 ((rd_T44 l0_0 x15_1).f0) ((rd_T44 l0_0 x15_1).f1) t137 x141003_2 ((rd_T48 ((rd_T44 l0_0 x15_1).f3) x30_2).f0) ((rd_T48 ((rd_T44 l0_0 x15_1).f3) x30_2).f1) x147002_3 ((rd_T48 ((rd_T44 l0_0 x15_1).f3) x30_2).f3) = some r) ∧ Aside0 (kq ≤ k2) ∧ Aside0 (Kd.R k35 35 w' w.heap.size (fun k_ => some k_ ≠ ((.slice Ao23 t137.length co23) : Value).ownBlock ∧ some k_ ≠ (u141003 : Value).ownBlock ∧ some k_ ≠ (u147002 : Value).ownBlock ∧ k_ ≠ gb140 ∧ k_ ≠ gb146) u135000 x135000_1) ∧ Aside0 (Kd.R k37 37 w' w.heap.size (fun _ => True) (.slice Ao23 t137.length co23) t137) ∧ Aside0 (Kd.S k40 40 w' w.heap.size (fun k_ => some k_ ≠ (u147002 : Value).ownBlock ∧ k_ ≠ gb146) u141003 x141003_2) ∧ Aside0 (Kd.R Kd.string 9 w' w.heap.size (fun _ => True) u147002 x147002_3) ∧ Aside0 (w'.heap[gb132]? = some (.cells #[(.slice (some ad135) l0_0.length c0_0)] 24 (0, 0))) ∧ Aside0 (w'.heap[gb133]? = some (.cells #[(.slice none 0 0)] 28 (0, 0))) ∧ Aside0 (w'.heap[gb134]? = some (.cells #[u135000] 28 (0, 0))) ∧ Aside0 (w'.heap[gb136]? = some (.cells #[.string ((rd_T44 l0_0 x15_1).f0), .string ((rd_T44 l0_0 x15_1).f1), (.slice A135_2 ((rd_T44 l0_0 x15_1).f2).length c135_2), (.slice (some ad144) ((rd_T44 l0_0 x15_1).f3).length c135_3)] 44 (0, 0))) ∧ Aside0 (w'.heap[gb140]? = some (.cells #[.string ((rd_T44 l0_0 x15_1).f0), .string ((rd_T44 l0_0 x15_1).f1), (.slice Ao23 t137.length co23), u141003] 35 (0, 0))) ∧ Aside0 (w'.heap[gb145]? = some (.cells #[.string ((rd_T48 ((rd_T44 l0_0 x15_1).f3) x30_2).f0), .bool ((rd_T48 ((rd_T44 l0_0 x15_1).f3) x30_2).f1), (.slice A144_2 ((rd_T48 ((rd_T44 l0_0 x15_1).f3) x30_2).f2).length c144_2), .string ((rd_T48 ((rd_T44 l0_0 x15_1).f3) x30_2).f3), (.slice A144_4 ((rd_T48 ((rd_T44 l0_0 x15_1).f3) x30_2).f4).length c144_4)] 48 (0, 0))) ∧ Aside0 (w'.heap[gb146]? = some (.cells #[.string ((rd_T48 ((rd_T44 l0_0 x15_1).f3) x30_2).f0), .bool ((rd_T48 ((rd_T44 l0_0 x15_1).f3) x30_2).f1), u147002, .string ((rd_T48 ((rd_T44 l0_0 x15_1).f3) x30_2).f3)] 40 (0, 0))) ∧ Aside0 (Below w.heap.size w w'))
           case atStart => exact ⟨(0), (([] : List ByteArray)), (.slice none 0 0), (by first | rfl | (simp; done) | (simp [*]; done)), H', ⟨Nat.le_refl _⟩, ⟨by (with_reducible repeat first | apply Kd.R_alloc | apply Kd.R_drewN | apply Kd.R_drew); exact Kd.R_mono (Kd.R_far (p := ⟨gb146, 3, none⟩) (Kd.R_far (p := ⟨gb146, 2, none⟩) (Kd.R_far (p := ⟨gb146, 1, none⟩) (Kd.R_far (p := ⟨gb146, 0, none⟩) (Kd.R_mono HO_135000.out (fun k_ hk => (⟨hk, hk.2⟩ : _ ∧ k_ ≠ gb146))) (fun _ hk => hk.2) (.string ((rd_T48 ((rd_T44 l0_0 x15_1).f3) x30_2).f0))) (fun _ hk => hk.2) (.bool ((rd_T48 ((rd_T44 l0_0 x15_1).f3) x30_2).f1))) (fun _ hk => hk.2) (.slice none 0 0)) (fun _ hk => hk.2) (.string ((rd_T48 ((rd_T44 l0_0 x15_1).f3) x30_2).f3))) (fun _ hk => ⟨hk.1.1.1, ⟨hk.1.1.2.1, ⟨(by simp [Value.ownBlock]), ⟨hk.1.1.2.2, hk.1.2⟩⟩⟩⟩)⟩, ⟨by (with_reducible repeat first | apply Kd.R_alloc | apply Kd.R_drewN | apply Kd.R_drew); exact Kd.R_mono (Kd.R_far (p := ⟨gb146, 3, none⟩) (Kd.R_far (p := ⟨gb146, 2, none⟩) (Kd.R_far (p := ⟨gb146, 1, none⟩) (Kd.R_far (p := ⟨gb146, 0, none⟩) (Kd.R_types HO_141002.out BK146.out (by decide)) (fun _ hk => hk.2) (.string ((rd_T48 ((rd_T44 l0_0 x15_1).f3) x30_2).f0))) (fun _ hk => hk.2) (.bool ((rd_T48 ((rd_T44 l0_0 x15_1).f3) x30_2).f1))) (fun _ hk => hk.2) (.slice none 0 0)) (fun _ hk => hk.2) (.string ((rd_T48 ((rd_T44 l0_0 x15_1).f3) x30_2).f3))) (fun _ hk => trivial)⟩, ⟨by (with_reducible repeat first | apply Kd.S_alloc | apply Kd.S_drewN | apply Kd.S_drew); exact Kd.S_mono (Kd.S_far (p := ⟨gb146, 3, none⟩) (Kd.S_far (p := ⟨gb146, 2, none⟩) (Kd.S_far (p := ⟨gb146, 1, none⟩) (Kd.S_far (p := ⟨gb146, 0, none⟩) (Kd.S_mono HO_141003.out (fun k_ hk => (⟨hk, hk.2⟩ : _ ∧ k_ ≠ gb146))) (fun _ hk => hk.2) (.string ((rd_T48 ((rd_T44 l0_0 x15_1).f3) x30_2).f0))) (fun _ hk => hk.2) (.bool ((rd_T48 ((rd_T44 l0_0 x15_1).f3) x30_2).f1))) (fun _ hk => hk.2) (.slice none 0 0)) (fun _ hk => hk.2) (.string ((rd_T48 ((rd_T44 l0_0 x15_1).f3) x30_2).f3))) (fun _ hk => ⟨(by simp [Value.ownBlock]), hk.1.2⟩)⟩, ⟨by first | exact Kd.R_nil _ _ _ _ _ | exact Kd.N_nil _ _ _ _ _ | exact Kd.V_nil _ _ _ _ _ | exact Kd.Q_nil _ _ _ _ _ | exact Kd.S_nil _ _ _ _ _⟩, ⟨by (with_reducible repeat first | apply bn | apply bd | apply ba); refine blk_far ?_ NB132_146.out _; refine blk_far ?_ NB132_146.out _; refine blk_far ?_ NB132_146.out _; refine blk_far ?_ NB132_146.out _; (with_reducible repeat first | apply bn | apply bd | apply ba); exact BK132.out⟩, ⟨by (with_reducible repeat first | apply bn | apply bd | apply ba); refine blk_far ?_ NB133_146.out _; refine blk_far ?_ NB133_146.out _; refine blk_far ?_ NB133_146.out _; refine blk_far ?_ NB133_146.out _; (with_reducible repeat first | apply bn | apply bd | apply ba); exact BK133.out⟩, ⟨by (with_reducible repeat first | apply bn | apply bd | apply ba); refine blk_far ?_ NB134_146.out _; refine blk_far ?_ NB134_146.out _; refine blk_far ?_ NB134_146.out _; refine blk_far ?_ NB134_146.out _; (with_reducible repeat first | apply bn | apply bd | apply ba); exact BK134.out⟩, ⟨by (with_reducible repeat first | apply bn | apply bd | apply ba); refine blk_far ?_ NB136_146.out _; refine blk_far ?_ NB136_146.out _; refine blk_far ?_ NB136_146.out _; refine blk_far ?_ NB136_146.out _; (with_reducible repeat first | apply bn | apply bd | apply ba); exact BK136.out⟩, ⟨by (with_reducible repeat first | apply bn | apply bd | apply ba); refine blk_far ?_ NB140_146.out _; refine blk_far ?_ NB140_146.out _; refine blk_far ?_ NB140_146.out _; refine blk_far ?_ NB140_146.out _; (with_reducible repeat first | apply bn | apply bd | apply ba); exact BK140.out⟩, ⟨by (with_reducible repeat first | apply bn | apply bd | apply ba); refine blk_far ?_ NB145_146.out _; refine blk_far ?_ NB145_146.out _; refine blk_far ?_ NB145_146.out _; refine blk_far ?_ NB145_146.out _; (with_reducible repeat first | apply bn | apply bd | apply ba); exact BK145.out⟩, ⟨by (with_reducible repeat first | apply bn | apply bd | apply ba); refine blk_put (cs := #[.string ((rd_T48 ((rd_T44 l0_0 x15_1).f3) x30_2).f0), .bool ((rd_T48 ((rd_T44 l0_0 x15_1).f3) x30_2).f1), .slice none 0 0, .string (⟨#[]⟩ : ByteArray)]) ?_ 3 _ rfl; refine blk_put (cs := #[.string ((rd_T48 ((rd_T44 l0_0 x15_1).f3) x30_2).f0), .bool ((rd_T48 ((rd_T44 l0_0 x15_1).f3) x30_2).f1), .slice none 0 0, .string (⟨#[]⟩ : ByteArray)]) ?_ 2 _ rfl; refine blk_put (cs := #[.string ((rd_T48 ((rd_T44 l0_0 x15_1).f3) x30_2).f0), .bool false, .slice none 0 0, .string (⟨#[]⟩ : ByteArray)]) ?_ 1 _ rfl; refine blk_put (cs := #[.string (⟨#[]⟩ : ByteArray), .bool false, .slice none 0 0, .string (⟨#[]⟩ : ByteArray)]) ?_ 0 _ rfl; (with_reducible repeat first | apply bn | apply bd | apply ba); exact BK146.out⟩, ⟨by repeat with_reducible first | exact HB.out | apply below_alloc | apply pw_below_drewN | apply below_drew1 | refine below_set ?_ GE132.out | refine below_set ?_ GE133.out | refine below_set ?_ GE134.out | refine below_set ?_ GE136.out | refine below_set ?_ GE140.out | refine below_set ?_ GE145.out | refine below_set ?_ GE146.out⟩⟩
           case round =>
            clear H'
            try clear c1
            try clear p1
            try clear q1
            try clear hx1
            try clear c2
            try clear p2
            try clear c3
            try clear c4
            try clear c5
            try clear c6
            try clear c8
            try clear c8b0
            try clear c9
            try clear c9b0
            try clear c10
            try clear c10b0
            try clear c13
            try clear p13
            try clear q13
            try clear hx13
            try clear c14
            try clear p14
            try clear q14
            try clear hx14
            try clear c15
            try clear c28
            try clear c30
            try clear c30b0
            try clear c31
            try clear c31b0
            try clear c32
            try clear c32b0
            try clear c34
            try clear c35
            try clear c36
            try clear c37
            try clear c38
            try clear c41
            try clear c42
            try clear c43
            try clear c44
            try clear c45
            try clear c46
            try clear hcz16_0
            try clear hcz16_1
            try clear hcz16_2
            try clear hcz16_3
            try clear hcz29_0
            try clear hcz29_1
            try clear hcz29_2
            try clear hcz29_3
            try clear hcz39_0
            try clear hcz39_1
            try clear hcz39_2
            try clear hcz39_3
            try clear hcz39_4
            try clear hcz47_0
            try clear hcz47_1
            try clear hcz47_2
            try clear hcz47_3
            try clear hcz48_0
            try clear hcz48_1
            try clear hcz48_2
            try clear hcz48_3
            try clear hcz48_4
            try clear hcz7_0
            try clear hfz16_0
            try clear hfz16_1
            try clear hfz16_2
            try clear hfz16_3
            try clear hfz29_0
            try clear hfz29_1
            try clear hfz29_2
            try clear hfz29_3
            try clear hfz39_0
            try clear hfz39_1
            try clear hfz39_2
            try clear hfz39_3
            try clear hfz39_4
            try clear hfz47_0
            try clear hfz47_1
            try clear hfz47_2
            try clear hfz47_3
            try clear hfz48_0
            try clear hfz48_1
            try clear hfz48_2
            try clear hfz48_3
            try clear hfz48_4
            try clear hfz7_0
            try clear hx135_0
            try clear hx135_1
            try clear hx135_2
            try clear hx135_3
            try clear hx144_0
            try clear hx144_1
            try clear hx144_2
            try clear hx144_3
            try clear hx144_4
            try clear p1
            try clear p13
            try clear p135
            try clear p144
            try clear p2
            try clear q1
            try clear q13
            try clear q135
            try clear q144
            obtain ⟨x44_3, x147002_3, u147002, rfl, HA, HK3, HO_135000, HO_141002, HO_141003, HO_147002, BK132, BK133, BK134, BK136, BK140, BK145, BK146, HB⟩ := hrel
            cases gk with
            | zero => exact absurd HA.out (by simp [hier_Of.l2])
            | succ k3 =>
             have H := HA.out
             clear HA
             simp only [hier_Of.l2] at H
             by_cases c49 : x44_3 < (((rd_T48 ((rd_T44 l0_0 x15_1).f3) x30_2).f2).length : Int)
             ·rw [if_pos c49] at H
              have c49b0 : decide (x44_3 < (((rd_T48 ((rd_T44 l0_0 x15_1).f3) x30_2).f2).length : Int)) = true := decide_eq_true c49
              clear c49
              by_cases c50 : 0 ≤ x44_3
              ·rw [if_pos c50] at H
               have c50b0 : decide (0 ≤ x44_3) = true := decide_eq_true c50
               clear c50
               by_cases c51 : x44_3 < (((rd_T48 ((rd_T44 l0_0 x15_1).f3) x30_2).f2).length : Int)
               ·rw [if_pos c51] at H
                have c51b0 : decide (x44_3 < (((rd_T48 ((rd_T44 l0_0 x15_1).f3) x30_2).f2).length : Int)) = true := decide_eq_true c51
                clear c51
                by_cases c52 : x147002_3.length < 8796093022208
                ·rw [if_pos c52] at H
                 have LMc52 := Aside0.mk c52
                 clear c52
                 obtain ⟨y149, hy149⟩ : ∃ y_ : List ByteArray, y_ = (x147002_3 ++ [(rd_T37 ((rd_T48 ((rd_T44 l0_0 x15_1).f3) x30_2).f2) x44_3).f1]) := ⟨_, rfl⟩
                 replace H : (hier_Of.l2 k3 l0_0 (l0_0.length : Int) x15_1 ((rd_T44 l0_0 x15_1).f3) (((rd_T44 l0_0 x15_1).f3).length : Int) x30_2 ((rd_T48 ((rd_T44 l0_0 x15_1).f3) x30_2).f2) (((rd_T48 ((rd_T44 l0_0 x15_1).f3) x30_2).f2).length : Int) (wrap64 (x44_3 + 1)) x135000_1 ((rd_T44 l0_0 x15_1).f0) ((rd_T44 l0_0 x15_1).f1) t137 x141003_2 ((rd_T48 ((rd_T44 l0_0 x15_1).f3) x30_2).f0) ((rd_T48 ((rd_T44 l0_0 x15_1).f3) x30_2).f1) y149 ((rd_T48 ((rd_T44 l0_0 x15_1).f3) x30_2).f3)) = some r := by first | (rw [hy149]; with_reducible exact H) | (have H2_ := (Option.bind_some _ _).symm.trans H; rw [hy149]; with_reducible exact H2_) | (have H2_ := (Option.bind_some _ _).symm.trans H; with_reducible exact H2_) | with_reducible exact H | (rw [hy149]; exact H) | exact H
                 have Ny149 := Aside0.mk hy149
                 clear hy149
                 have H' := Aside0.mk H
                 clear H
                 have p147 : 0 ≤ (x44_3 : Int) := of_decide_eq_true (by first | (with_reducible assumption) | assumption)
                 have q147 : x44_3 < (((rd_T48 ((rd_T44 l0_0 x15_1).f3) x30_2).f2).length : Int) := of_decide_eq_true (by first | (with_reducible assumption) | assumption)
                 obtain ⟨ad147, e147, hx147_0, hx147_1⟩ := at_T37 HR144_2.out x44_3 p147 q147
                 cases e147
                 replace hx147_0 := (HB.out.cell (World.block_lt_of_cell? w _ hx147_0)).trans hx147_0
                 replace hx147_1 := (HB.out.cell (World.block_lt_of_cell? w _ hx147_1)).trans hx147_1
                 replace p147 := eq_true p147
                 replace q147 := eq_true q147
                 go_wp2_with (first | ((with_reducible refine gate_dst (N := 11) rfl ?_); refine box_event ?hg (N := 11) ?hd (cs := #[.string (⟨#[]⟩ : ByteArray), .string (⟨#[]⟩ : ByteArray)]) (t := 37) ?hr ?_; (case hd => rfl); (case hg => rfl); (case hr => first | (go_simp; done) | (go_simp; rfl)); intro gb148 hg w53 hbox hb; have n0_ := Aside0.mk (Kd.R_below (Kd.R_elderB (by (with_reducible repeat first | apply Kd.R_alloc | apply Kd.R_drewN | apply Kd.R_drew); exact HO_135000.out) gb148 (Nat.le_of_eq hg.symm)) hb); have n1_ := Aside0.mk (Kd.R_below (Kd.R_elderB (by (with_reducible repeat first | apply Kd.R_alloc | apply Kd.R_drewN | apply Kd.R_drew); exact HO_141002.out) gb148 (Nat.le_of_eq hg.symm)) hb); have n2_ := Aside0.mk (Kd.S_below (by (with_reducible repeat first | apply Kd.S_alloc | apply Kd.S_drewN | apply Kd.S_drew); exact HO_141003.out) hb); have n3_ := Aside0.mk (Kd.R_below (by (with_reducible repeat first | apply Kd.R_alloc | apply Kd.R_drewN | apply Kd.R_drew); exact HO_147002.out) hb); have n4_ := Aside0.mk (blk_below (g := gb132) (o := .cells #[.slice (some ad135) l0_0.length c0_0] 24 (0, 0)) (by (with_reducible repeat first | apply bn | apply bd | apply ba); exact BK132.out) hb); have n5_ := Aside0.mk (blk_below (g := gb133) (o := .cells #[.slice none 0 0] 28 (0, 0)) (by (with_reducible repeat first | apply bn | apply bd | apply ba); exact BK133.out) hb); have n6_ := Aside0.mk (blk_below (g := gb134) (o := .cells #[u135000] 28 (0, 0)) (by (with_reducible repeat first | apply bn | apply bd | apply ba); exact BK134.out) hb); have n7_ := Aside0.mk (blk_below (g := gb136) (o := .cells #[.string ((rd_T44 l0_0 x15_1).f0), .string ((rd_T44 l0_0 x15_1).f1), .slice A135_2 ((rd_T44 l0_0 x15_1).f2).length c135_2, .slice (some ad144) ((rd_T44 l0_0 x15_1).f3).length c135_3] 44 (0, 0)) (by (with_reducible repeat first | apply bn | apply bd | apply ba); exact BK136.out) hb); have n8_ := Aside0.mk (blk_below (g := gb140) (o := .cells #[.string ((rd_T44 l0_0 x15_1).f0), .string ((rd_T44 l0_0 x15_1).f1), .slice Ao23 t137.length co23, u141003] 35 (0, 0)) (by (with_reducible repeat first | apply bn | apply bd | apply ba); exact BK140.out) hb); have n9_ := Aside0.mk (blk_below (g := gb145) (o := .cells #[.string ((rd_T48 ((rd_T44 l0_0 x15_1).f3) x30_2).f0), .bool ((rd_T48 ((rd_T44 l0_0 x15_1).f3) x30_2).f1), .slice (some ad147) ((rd_T48 ((rd_T44 l0_0 x15_1).f3) x30_2).f2).length c144_2, .string ((rd_T48 ((rd_T44 l0_0 x15_1).f3) x30_2).f3), .slice A144_4 ((rd_T48 ((rd_T44 l0_0 x15_1).f3) x30_2).f4).length c144_4] 48 (0, 0)) (by (with_reducible repeat first | apply bn | apply bd | apply ba); exact BK145.out) hb); have n10_ := Aside0.mk (blk_below (g := gb146) (o := .cells #[.string ((rd_T48 ((rd_T44 l0_0 x15_1).f3) x30_2).f0), .bool ((rd_T48 ((rd_T44 l0_0 x15_1).f3) x30_2).f1), u147002, .string ((rd_T48 ((rd_T44 l0_0 x15_1).f3) x30_2).f3)] 40 (0, 0)) (by (with_reducible repeat first | apply bn | apply bd | apply ba); exact BK146.out) hb); have n11_ := Aside0.mk (below_step (by repeat with_reducible first | exact HB.out | apply below_alloc | apply pw_below_drewN | apply below_drew1 | refine below_set ?_ GE132.out | refine below_set ?_ GE133.out | refine below_set ?_ GE134.out | refine below_set ?_ GE136.out | refine below_set ?_ GE140.out | refine below_set ?_ GE145.out | refine below_set ?_ GE146.out) hb); have n12_ := Aside0.mk (hbox); have n13_ := Aside0.mk ((by rw [hg]; exact (below_size (by repeat with_reducible first | exact HB.out | apply below_alloc | apply pw_below_drewN | apply below_drew1 | refine below_set ?_ GE132.out | refine below_set ?_ GE133.out | refine below_set ?_ GE134.out | refine below_set ?_ GE136.out | refine below_set ?_ GE140.out | refine below_set ?_ GE145.out | refine below_set ?_ GE146.out)) : w.heap.size ≤ gb148)); have n14_ := Aside0.mk ((by rw [hg]; exact (below_size (by repeat with_reducible first | exact HB.out | apply below_alloc | apply pw_below_drewN | apply below_drew1 | refine below_set ?_ GE132.out | refine below_set ?_ GE133.out | refine below_set ?_ GE134.out | refine below_set ?_ GE136.out | refine below_set ?_ GE140.out | refine below_set ?_ GE145.out | refine below_set ?_ GE146.out)) : w.heap.size ≤ gb148)); have n15_ := Aside0.mk ((by rw [hg]; exact Nat.ne_of_lt (blk_lt (g := gb132) (o := .cells #[.slice (some ad135) l0_0.length c0_0] 24 (0, 0)) (by (with_reducible repeat first | apply bn | apply bd | apply ba); exact BK132.out)) : gb132 ≠ gb148)); have n16_ := Aside0.mk ((by rw [hg]; exact Nat.ne_of_gt (blk_lt (g := gb132) (o := .cells #[.slice (some ad135) l0_0.length c0_0] 24 (0, 0)) (by (with_reducible repeat first | apply bn | apply bd | apply ba); exact BK132.out)) : gb148 ≠ gb132)); have n17_ := Aside0.mk ((by rw [hg]; exact Nat.ne_of_lt (blk_lt (g := gb133) (o := .cells #[.slice none 0 0] 28 (0, 0)) (by (with_reducible repeat first | apply bn | apply bd | apply ba); exact BK133.out)) : gb133 ≠ gb148)); have n18_ := Aside0.mk ((by rw [hg]; exact Nat.ne_of_gt (blk_lt (g := gb133) (o := .cells #[.slice none 0 0] 28 (0, 0)) (by (with_reducible repeat first | apply bn | apply bd | apply ba); exact BK133.out)) : gb148 ≠ gb133)); have n19_ := Aside0.mk ((by rw [hg]; exact Nat.ne_of_lt (blk_lt (g := gb134) (o := .cells #[u135000] 28 (0, 0)) (by (with_reducible repeat first | apply bn | apply bd | apply ba); exact BK134.out)) : gb134 ≠ gb148)); have n20_ := Aside0.mk ((by rw [hg]; exact Nat.ne_of_gt (blk_lt (g := gb134) (o := .cells #[u135000] 28 (0, 0)) (by (with_reducible repeat first | apply bn | apply bd | apply ba); exact BK134.out)) : gb148 ≠ gb134)); have n21_ := Aside0.mk ((by rw [hg]; exact Nat.ne_of_lt (blk_lt (g := gb136) (o := .cells #[.string ((rd_T44 l0_0 x15_1).f0), .string ((rd_T44 l0_0 x15_1).f1), .slice A135_2 ((rd_T44 l0_0 x15_1).f2).length c135_2, .slice (some ad144) ((rd_T44 l0_0 x15_1).f3).length c135_3] 44 (0, 0)) (by (with_reducible repeat first | apply bn | apply bd | apply ba); exact BK136.out)) : gb136 ≠ gb148)); have n22_ := Aside0.mk ((by rw [hg]; exact Nat.ne_of_gt (blk_lt (g := gb136) (o := .cells #[.string ((rd_T44 l0_0 x15_1).f0), .string ((rd_T44 l0_0 x15_1).f1), .slice A135_2 ((rd_T44 l0_0 x15_1).f2).length c135_2, .slice (some ad144) ((rd_T44 l0_0 x15_1).f3).length c135_3] 44 (0, 0)) (by (with_reducible repeat first | apply bn | apply bd | apply ba); exact BK136.out)) : gb148 ≠ gb136)); have n23_ := Aside0.mk ((by rw [hg]; exact Nat.ne_of_lt (blk_lt (g := gb140) (o := .cells #[.string ((rd_T44 l0_0 x15_1).f0), .string ((rd_T44 l0_0 x15_1).f1), .slice Ao23 t137.length co23, u141003] 35 (0, 0)) (by (with_reducible repeat first | apply bn | apply bd | apply ba); exact BK140.out)) : gb140 ≠ gb148)); have n24_ := Aside0.mk ((by rw [hg]; exact Nat.ne_of_gt (blk_lt (g := gb140) (o := .cells #[.string ((rd_T44 l0_0 x15_1).f0), .string ((rd_T44 l0_0 x15_1).f1), .slice Ao23 t137.length co23, u141003] 35 (0, 0)) (by (with_reducible repeat first | apply bn | apply bd | apply ba); exact BK140.out)) : gb148 ≠ gb140)); have n25_ := Aside0.mk ((by rw [hg]; exact Nat.ne_of_lt (blk_lt (g := gb145) (o := .cells #[.string ((rd_T48 ((rd_T44 l0_0 x15_1).f3) x30_2).f0), .bool ((rd_T48 ((rd_T44 l0_0 x15_1).f3) x30_2).f1), .slice (some ad147) ((rd_T48 ((rd_T44 l0_0 x15_1).f3) x30_2).f2).length c144_2, .string ((rd_T48 ((rd_T44 l0_0 x15_1).f3) x30_2).f3), .slice A144_4 ((rd_T48 ((rd_T44 l0_0 x15_1).f3) x30_2).f4).length c144_4] 48 (0, 0)) (by (with_reducible repeat first | apply bn | apply bd | apply ba); exact BK145.out)) : gb145 ≠ gb148)); have n26_ := Aside0.mk ((by rw [hg]; exact Nat.ne_of_gt (blk_lt (g := gb145) (o := .cells #[.string ((rd_T48 ((rd_T44 l0_0 x15_1).f3) x30_2).f0), .bool ((rd_T48 ((rd_T44 l0_0 x15_1).f3) x30_2).f1), .slice (some ad147) ((rd_T48 ((rd_T44 l0_0 x15_1).f3) x30_2).f2).length c144_2, .string ((rd_T48 ((rd_T44 l0_0 x15_1).f3) x30_2).f3), .slice A144_4 ((rd_T48 ((rd_T44 l0_0 x15_1).f3) x30_2).f4).length c144_4] 48 (0, 0)) (by (with_reducible repeat first | apply bn | apply bd | apply ba); exact BK145.out)) : gb148 ≠ gb145)); have n27_ := Aside0.mk ((by rw [hg]; exact Nat.ne_of_lt (blk_lt (g := gb146) (o := .cells #[.string ((rd_T48 ((rd_T44 l0_0 x15_1).f3) x30_2).f0), .bool ((rd_T48 ((rd_T44 l0_0 x15_1).f3) x30_2).f1), u147002, .string ((rd_T48 ((rd_T44 l0_0 x15_1).f3) x30_2).f3)] 40 (0, 0)) (by (with_reducible repeat first | apply bn | apply bd | apply ba); exact BK146.out)) : gb146 ≠ gb148)); have n28_ := Aside0.mk ((by rw [hg]; exact Nat.ne_of_gt (blk_lt (g := gb146) (o := .cells #[.string ((rd_T48 ((rd_T44 l0_0 x15_1).f3) x30_2).f0), .bool ((rd_T48 ((rd_T44 l0_0 x15_1).f3) x30_2).f1), u147002, .string ((rd_T48 ((rd_T44 l0_0 x15_1).f3) x30_2).f3)] 40 (0, 0)) (by (with_reducible repeat first | apply bn | apply bd | apply ba); exact BK146.out)) : gb148 ≠ gb146)); clear HO_135000; clear HO_141002; clear HO_141003; clear HO_147002; clear BK132; clear BK133; clear BK134; clear BK136; clear BK140; clear BK145; clear BK146; clear HB; have HO_135000 := n0_; have HO_141002 := n1_; have HO_141003 := n2_; have HO_147002 := n3_; have BK132 := n4_; have BK133 := n5_; have BK134 := n6_; have BK136 := n7_; have BK140 := n8_; have BK145 := n9_; have BK146 := n10_; have HB := n11_; have BK148 := n12_; have GW148 := n13_; have GE148 := n14_; have NB132_148 := n15_; have NB148_132 := n16_; have NB133_148 := n17_; have NB148_133 := n18_; have NB134_148 := n19_; have NB148_134 := n20_; have NB136_148 := n21_; have NB148_136 := n22_; have NB140_148 := n23_; have NB148_140 := n24_; have NB145_148 := n25_; have NB148_145 := n26_; have NB146_148 := n27_; have NB148_146 := n28_; clear n0_ n1_ n2_ n3_ n4_ n5_ n6_ n7_ n8_ n9_ n10_ n11_ n12_ n13_ n14_ n15_ n16_ n17_ n18_ n19_ n20_ n21_ n22_ n23_ n24_ n25_ n26_ n27_ n28_; clear hb hbox hg; have hnb54 := NB148_132.out; have hnc54 := NB132_148.out; have hnb55 := NB148_133.out; have hnc55 := NB133_148.out; have hnb56 := NB148_134.out; have hnc56 := NB134_148.out; have hnb57 := NB148_136.out; have hnc57 := NB136_148.out; have hnb58 := NB148_140.out; have hnc58 := NB140_148.out; have hnb59 := NB148_145.out; have hnc59 := NB145_148.out; have hnb60 := NB148_146.out; have hnc60 := NB146_148.out; have hcz61_0 : w53.cell? ⟨gb148, 0, none⟩ = some (.string (⟨#[]⟩ : ByteArray)) := (blk_cell BK148.out 0).trans rfl; have hcz61_1 : w53.cell? ⟨gb148, 1, none⟩ = some (.string (⟨#[]⟩ : ByteArray)) := (blk_cell BK148.out 1).trans rfl; have hfz61_0 := blk_frozen BK148.out 0; have hfz61_1 := blk_frozen BK148.out 1; have hnb62 := NB146_132.out; have hnc62 := NB132_146.out; have hnb63 := NB146_133.out; have hnc63 := NB133_146.out; have hnb64 := NB146_134.out; have hnc64 := NB134_146.out; have hnb65 := NB146_136.out; have hnc65 := NB136_146.out; have hnb66 := NB146_140.out; have hnc66 := NB140_146.out; have hnb67 := NB146_145.out; have hnc67 := NB145_146.out; have hcz68_0 : w53.cell? ⟨gb146, 0, none⟩ = some (.string ((rd_T48 ((rd_T44 l0_0 x15_1).f3) x30_2).f0)) := (blk_cell BK146.out 0).trans rfl; have hcz68_1 : w53.cell? ⟨gb146, 1, none⟩ = some (.bool ((rd_T48 ((rd_T44 l0_0 x15_1).f3) x30_2).f1)) := (blk_cell BK146.out 1).trans rfl; have hcz68_2 : w53.cell? ⟨gb146, 2, none⟩ = some (u147002) := (blk_cell BK146.out 2).trans rfl; have hcz68_3 : w53.cell? ⟨gb146, 3, none⟩ = some (.string ((rd_T48 ((rd_T44 l0_0 x15_1).f3) x30_2).f3)) := (blk_cell BK146.out 3).trans rfl; have hfz68_0 := blk_frozen BK146.out 0; have hfz68_1 := blk_frozen BK146.out 1; have hfz68_2 := blk_frozen BK146.out 2; have hfz68_3 := blk_frozen BK146.out 3) | ((with_reducible refine gate_builtin (b := .append) (xs := #[.tmp 49, .tmp 52]) rfl ?_); at_builtin; refine Kd.R_append Kd.string (w0 := w) w.heap.size rfl (.tmp 49) (.tmp 52) 38 9 (.string ⟨#[]⟩) 16 rfl Try.underlying38 info9 rfl (by decide) (by omega) u147002 x147002_3 ((rd_T37 ((rd_T48 ((rd_T44 l0_0 x15_1).f3) x30_2).f2) x44_3).f1) [.string ((rd_T37 ((rd_T48 ((rd_T44 l0_0 x15_1).f3) x30_2).f2) x44_3).f1)] (fun _ => True) (fun _ => False) rfl (by first | (go_simp; done) | (go_simp; rfl)) ?aP (fun _ hk => hk.elim) ?aF ?aO ?aB ?aS ?aL ?_; (case aP => exact rfl); (case aB => exact (by repeat with_reducible first | exact HB.out | apply below_alloc | apply pw_below_drewN | apply below_drew1 | refine below_set ?_ GE132.out | refine below_set ?_ GE133.out | refine below_set ?_ GE134.out | refine below_set ?_ GE136.out | refine below_set ?_ GE140.out | refine below_set ?_ GE145.out | refine below_set ?_ GE146.out | refine below_set ?_ GE148.out)); (case aF => exact (fun _ _ => trivial)); (case aO => exact (by (with_reducible repeat first | apply Kd.R_alloc | apply Kd.R_drewN | apply Kd.R_drew); exact Kd.R_mono (Kd.R_far (p := ⟨gb148, 1, none⟩) (Kd.R_far (p := ⟨gb148, 0, none⟩) (Kd.R_types HO_147002.out BK148.out (by decide)) (fun _ hk => hk.2) (.string ((rd_T37 ((rd_T48 ((rd_T44 l0_0 x15_1).f3) x30_2).f2) x44_3).f0))) (fun _ hk => hk.2) (.string ((rd_T37 ((rd_T48 ((rd_T44 l0_0 x15_1).f3) x30_2).f2) x44_3).f1))) (fun _ hk => trivial))); (case aS => exact (below_size (by repeat with_reducible first | exact HB.out | apply below_alloc | apply pw_below_drewN | apply below_drew1 | refine below_set ?_ GE132.out | refine below_set ?_ GE133.out | refine below_set ?_ GE134.out | refine below_set ?_ GE136.out | refine below_set ?_ GE140.out | refine below_set ?_ GE145.out | refine below_set ?_ GE146.out | refine below_set ?_ GE148.out))); (case aL => have := LMc52.out; omega); intro v150 w69 ho hb hg hat; rw [← Ny149.out] at ho; have n0_ := Aside0.mk (Kd.R_after (ok := (fun k_ => some k_ ≠ (.slice Ao23 t137.length co23 : Value).ownBlock ∧ some k_ ≠ (u141003 : Value).ownBlock ∧ k_ ≠ gb140 ∧ k_ ≠ gb146 ∧ k_ ≠ gb148)) (by (with_reducible repeat first | apply Kd.R_alloc | apply Kd.R_drewN | apply Kd.R_drew); exact Kd.R_mono (Kd.R_far (p := ⟨gb148, 1, none⟩) (Kd.R_far (p := ⟨gb148, 0, none⟩) (Kd.R_mono HO_135000.out (fun k_ hk => (⟨hk, hk.2⟩ : _ ∧ k_ ≠ gb148))) (fun _ hk => hk.2) (.string ((rd_T37 ((rd_T48 ((rd_T44 l0_0 x15_1).f3) x30_2).f2) x44_3).f0))) (fun _ hk => hk.2) (.string ((rd_T37 ((rd_T48 ((rd_T44 l0_0 x15_1).f3) x30_2).f2) x44_3).f1))) (fun _ hk => ⟨⟨hk.1.1.1, ⟨hk.1.1.2.1, ⟨hk.1.1.2.2.2.1, ⟨hk.1.1.2.2.2.2, hk.1.2⟩⟩⟩⟩, hk.1.1.2.2.1⟩)) hg hat); have n1_ := Aside0.mk (Kd.R_over' (by (with_reducible repeat first | apply Kd.R_alloc | apply Kd.R_drewN | apply Kd.R_drew); exact (Kd.R_mono (Kd.R_far (p := ⟨gb148, 1, none⟩) (Kd.R_far (p := ⟨gb148, 0, none⟩) (Kd.R_mono HO_141002.out (fun k_ hk => (⟨hk, hk.2⟩ : _ ∧ k_ ≠ gb148))) (fun _ hk => hk.2) (.string ((rd_T37 ((rd_T48 ((rd_T44 l0_0 x15_1).f3) x30_2).f2) x44_3).f0))) (fun _ hk => hk.2) (.string ((rd_T37 ((rd_T48 ((rd_T44 l0_0 x15_1).f3) x30_2).f2) x44_3).f1))) (fun _ h_ => h_.1))) (Kd.R_typed (by (with_reducible repeat first | apply Kd.R_alloc | apply Kd.R_drewN | apply Kd.R_drew); exact (Kd.R_mono (Kd.R_far (p := ⟨gb148, 1, none⟩) (Kd.R_far (p := ⟨gb148, 0, none⟩) (Kd.R_types HO_147002.out BK148.out (by decide)) (fun _ hk => hk.2) (.string ((rd_T37 ((rd_T48 ((rd_T44 l0_0 x15_1).f3) x30_2).f2) x44_3).f0))) (fun _ hk => hk.2) (.string ((rd_T37 ((rd_T48 ((rd_T44 l0_0 x15_1).f3) x30_2).f2) x44_3).f1))) (fun _ h_ => h_.1)))) (by decide) hg); have n2_ := Aside0.mk (Kd.S_after (ok := (fun k_ => k_ ≠ gb146)) (by (with_reducible repeat first | apply Kd.S_alloc | apply Kd.S_drewN | apply Kd.S_drew); exact Kd.S_mono (Kd.S_far (p := ⟨gb148, 1, none⟩) (Kd.S_far (p := ⟨gb148, 0, none⟩) (Kd.S_types HO_141003.out BK148.out (by decide)) (fun _ hk => hk.2) (.string ((rd_T37 ((rd_T48 ((rd_T44 l0_0 x15_1).f3) x30_2).f2) x44_3).f0))) (fun _ hk => hk.2) (.string ((rd_T37 ((rd_T48 ((rd_T44 l0_0 x15_1).f3) x30_2).f2) x44_3).f1))) (fun _ hk => ⟨hk.1.2, hk.1.1⟩)) hg hat); have n3_ := Aside0.mk (blk_grown (g := gb132) (o := .cells #[.slice (some ad135) l0_0.length c0_0] 24 (0, 0)) (by (with_reducible repeat first | apply bn | apply bd | apply ba); refine blk_far ?_ NB132_148.out _; refine blk_far ?_ NB132_148.out _; (with_reducible repeat first | apply bn | apply bd | apply ba); exact BK132.out) hg (Kd.R_ne HO_147002.out BK132.out (by decide))); have n4_ := Aside0.mk (blk_grown (g := gb133) (o := .cells #[.slice none 0 0] 28 (0, 0)) (by (with_reducible repeat first | apply bn | apply bd | apply ba); refine blk_far ?_ NB133_148.out _; refine blk_far ?_ NB133_148.out _; (with_reducible repeat first | apply bn | apply bd | apply ba); exact BK133.out) hg (Kd.R_ne HO_147002.out BK133.out (by decide))); have n5_ := Aside0.mk (blk_grown (g := gb134) (o := .cells #[u135000] 28 (0, 0)) (by (with_reducible repeat first | apply bn | apply bd | apply ba); refine blk_far ?_ NB134_148.out _; refine blk_far ?_ NB134_148.out _; (with_reducible repeat first | apply bn | apply bd | apply ba); exact BK134.out) hg (Kd.R_ne HO_147002.out BK134.out (by decide))); have n6_ := Aside0.mk (blk_grown (g := gb136) (o := .cells #[.string ((rd_T44 l0_0 x15_1).f0), .string ((rd_T44 l0_0 x15_1).f1), .slice A135_2 ((rd_T44 l0_0 x15_1).f2).length c135_2, .slice (some ad144) ((rd_T44 l0_0 x15_1).f3).length c135_3] 44 (0, 0)) (by (with_reducible repeat first | apply bn | apply bd | apply ba); refine blk_far ?_ NB136_148.out _; refine blk_far ?_ NB136_148.out _; (with_reducible repeat first | apply bn | apply bd | apply ba); exact BK136.out) hg (Kd.R_ne HO_147002.out BK136.out (by decide))); have n7_ := Aside0.mk (blk_grown (g := gb140) (o := .cells #[.string ((rd_T44 l0_0 x15_1).f0), .string ((rd_T44 l0_0 x15_1).f1), .slice Ao23 t137.length co23, u141003] 35 (0, 0)) (by (with_reducible repeat first | apply bn | apply bd | apply ba); refine blk_far ?_ NB140_148.out _; refine blk_far ?_ NB140_148.out _; (with_reducible repeat first | apply bn | apply bd | apply ba); exact BK140.out) hg (Kd.R_ne HO_147002.out BK140.out (by decide))); have n8_ := Aside0.mk (blk_grown (g := gb145) (o := .cells #[.string ((rd_T48 ((rd_T44 l0_0 x15_1).f3) x30_2).f0), .bool ((rd_T48 ((rd_T44 l0_0 x15_1).f3) x30_2).f1), .slice (some ad147) ((rd_T48 ((rd_T44 l0_0 x15_1).f3) x30_2).f2).length c144_2, .string ((rd_T48 ((rd_T44 l0_0 x15_1).f3) x30_2).f3), .slice A144_4 ((rd_T48 ((rd_T44 l0_0 x15_1).f3) x30_2).f4).length c144_4] 48 (0, 0)) (by (with_reducible repeat first | apply bn | apply bd | apply ba); refine blk_far ?_ NB145_148.out _; refine blk_far ?_ NB145_148.out _; (with_reducible repeat first | apply bn | apply bd | apply ba); exact BK145.out) hg (Kd.R_ne HO_147002.out BK145.out (by decide))); have n9_ := Aside0.mk (blk_grown (g := gb146) (o := .cells #[.string ((rd_T48 ((rd_T44 l0_0 x15_1).f3) x30_2).f0), .bool ((rd_T48 ((rd_T44 l0_0 x15_1).f3) x30_2).f1), u147002, .string ((rd_T48 ((rd_T44 l0_0 x15_1).f3) x30_2).f3)] 40 (0, 0)) (by (with_reducible repeat first | apply bn | apply bd | apply ba); refine blk_far ?_ NB146_148.out _; refine blk_far ?_ NB146_148.out _; (with_reducible repeat first | apply bn | apply bd | apply ba); exact BK146.out) hg (Kd.R_ne HO_147002.out BK146.out (by decide))); have n10_ := Aside0.mk (blk_grown (g := gb148) (o := .cells #[.string ((rd_T37 ((rd_T48 ((rd_T44 l0_0 x15_1).f3) x30_2).f2) x44_3).f0), .string ((rd_T37 ((rd_T48 ((rd_T44 l0_0 x15_1).f3) x30_2).f2) x44_3).f1)] 37 (0, 0)) (by (with_reducible repeat first | apply bn | apply bd | apply ba); refine blk_put (cs := #[.string ((rd_T37 ((rd_T48 ((rd_T44 l0_0 x15_1).f3) x30_2).f2) x44_3).f0), .string (⟨#[]⟩ : ByteArray)]) ?_ 1 _ rfl; refine blk_put (cs := #[.string (⟨#[]⟩ : ByteArray), .string (⟨#[]⟩ : ByteArray)]) ?_ 0 _ rfl; (with_reducible repeat first | apply bn | apply bd | apply ba); exact BK148.out) hg (Kd.R_ne HO_147002.out BK148.out (by decide))); have n11_ := Aside0.mk (hb); have n12_ := Aside0.mk (ho); clear HO_135000; clear HO_141002; clear HO_141003; clear BK132; clear BK133; clear BK134; clear BK136; clear BK140; clear BK145; clear BK146; clear BK148; clear HB; clear HO_147002; have HO_135000 := n0_; have HO_141002 := n1_; have HO_141003 := n2_; have BK132 := n3_; have BK133 := n4_; have BK134 := n5_; have BK136 := n6_; have BK140 := n7_; have BK145 := n8_; have BK146 := n9_; have BK148 := n10_; have HB := n11_; have HO151 := n12_; clear n0_ n1_ n2_ n3_ n4_ n5_ n6_ n7_ n8_ n9_ n10_ n11_ n12_; clear ho hb hg hat; obtain ⟨Ao70, co70, eo70⟩ := Kd.R_slice HO151.out; subst eo70; have hcz71_0 : w69.cell? ⟨gb146, 0, none⟩ = some (.string ((rd_T48 ((rd_T44 l0_0 x15_1).f3) x30_2).f0)) := (blk_cell BK146.out 0).trans rfl; have hcz71_1 : w69.cell? ⟨gb146, 1, none⟩ = some (.bool ((rd_T48 ((rd_T44 l0_0 x15_1).f3) x30_2).f1)) := (blk_cell BK146.out 1).trans rfl; have hcz71_2 : w69.cell? ⟨gb146, 2, none⟩ = some (u147002) := (blk_cell BK146.out 2).trans rfl; have hcz71_3 : w69.cell? ⟨gb146, 3, none⟩ = some (.string ((rd_T48 ((rd_T44 l0_0 x15_1).f3) x30_2).f3)) := (blk_cell BK146.out 3).trans rfl; have hfz71_0 := blk_frozen BK146.out 0; have hfz71_1 := blk_frozen BK146.out 1; have hfz71_2 := blk_frozen BK146.out 2; have hfz71_3 := blk_frozen BK146.out 3))
                 go_roundg k3
                 case measure => have := HK1.out; have := HK2.out; have := HK3.out; omega
                 case rel => exact ⟨(wrap64 (x44_3 + 1)), (y149), (.slice Ao70 y149.length co70), (by first | rfl | (simp; done) | (simp [*]; done)), H', ⟨by have := HK1.out; have := HK2.out; have := HK3.out; omega⟩, ⟨by (with_reducible repeat first | apply Kd.R_alloc | apply Kd.R_drewN | apply Kd.R_drew); exact Kd.R_mono (Kd.R_far (p := ⟨gb146, 2, none⟩) (Kd.R_mono HO_135000.out (fun k_ hk => (⟨hk, hk.1.2.2.2.1⟩ : _ ∧ k_ ≠ gb146))) (fun _ hk => hk.2) (.slice Ao70 y149.length co70)) (fun _ hk => ⟨hk.1.1.1, ⟨hk.1.1.2.1, ⟨hk.1.2, ⟨hk.1.1.2.2.1, hk.1.1.2.2.2.1⟩⟩⟩⟩)⟩, ⟨by (with_reducible repeat first | apply Kd.R_alloc | apply Kd.R_drewN | apply Kd.R_drew); exact Kd.R_mono (Kd.R_far (p := ⟨gb146, 2, none⟩) (Kd.R_types HO_141002.out BK146.out (by decide)) (fun _ hk => hk.2) (.slice Ao70 y149.length co70)) (fun _ hk => trivial)⟩, ⟨by (with_reducible repeat first | apply Kd.S_alloc | apply Kd.S_drewN | apply Kd.S_drew); exact Kd.S_mono (Kd.S_far (p := ⟨gb146, 2, none⟩) (Kd.S_mono HO_141003.out (fun k_ hk => (⟨hk, hk.1⟩ : _ ∧ k_ ≠ gb146))) (fun _ hk => hk.2) (.slice Ao70 y149.length co70)) (fun _ hk => ⟨hk.1.2, hk.1.1⟩)⟩, ⟨by (with_reducible repeat first | apply Kd.R_alloc | apply Kd.R_drewN | apply Kd.R_drew); exact Kd.R_mono (Kd.R_far (p := ⟨gb146, 2, none⟩) (Kd.R_types HO151.out BK146.out (by decide)) (fun _ hk => hk.2) (.slice Ao70 y149.length co70)) (fun _ hk => trivial)⟩, ⟨by (with_reducible repeat first | apply bn | apply bd | apply ba); refine blk_far ?_ NB132_146.out _; (with_reducible repeat first | apply bn | apply bd | apply ba); exact BK132.out⟩, ⟨by (with_reducible repeat first | apply bn | apply bd | apply ba); refine blk_far ?_ NB133_146.out _; (with_reducible repeat first | apply bn | apply bd | apply ba); exact BK133.out⟩, ⟨by (with_reducible repeat first | apply bn | apply bd | apply ba); refine blk_far ?_ NB134_146.out _; (with_reducible repeat first | apply bn | apply bd | apply ba); exact BK134.out⟩, ⟨by (with_reducible repeat first | apply bn | apply bd | apply ba); refine blk_far ?_ NB136_146.out _; (with_reducible repeat first | apply bn | apply bd | apply ba); exact BK136.out⟩, ⟨by (with_reducible repeat first | apply bn | apply bd | apply ba); refine blk_far ?_ NB140_146.out _; (with_reducible repeat first | apply bn | apply bd | apply ba); exact BK140.out⟩, ⟨by (with_reducible repeat first | apply bn | apply bd | apply ba); refine blk_far ?_ NB145_146.out _; (with_reducible repeat first | apply bn | apply bd | apply ba); exact BK145.out⟩, ⟨by (with_reducible repeat first | apply bn | apply bd | apply ba); refine blk_put (cs := #[.string ((rd_T48 ((rd_T44 l0_0 x15_1).f3) x30_2).f0), .bool ((rd_T48 ((rd_T44 l0_0 x15_1).f3) x30_2).f1), u147002, .string ((rd_T48 ((rd_T44 l0_0 x15_1).f3) x30_2).f3)]) ?_ 2 _ rfl; (with_reducible repeat first | apply bn | apply bd | apply ba); exact BK146.out⟩, ⟨by repeat with_reducible first | exact HB.out | apply below_alloc | apply pw_below_drewN | apply below_drew1 | refine below_set ?_ GE132.out | refine below_set ?_ GE133.out | refine below_set ?_ GE134.out | refine below_set ?_ GE136.out | refine below_set ?_ GE140.out | refine below_set ?_ GE145.out | refine below_set ?_ GE146.out | refine below_set ?_ GE148.out⟩⟩
                ·rw [if_neg c52] at H
                 exact absurd H (by simp)
               ·rw [if_neg c51] at H
                exact absurd H (by simp)
              ·rw [if_neg c50] at H
               exact absurd H (by simp)
             ·rw [if_neg c49] at H
              have c49b0 : decide (x44_3 < (((rd_T48 ((rd_T44 l0_0 x15_1).f3) x30_2).f2).length : Int)) = false := decide_eq_false c49
              clear c49
              by_cases c72 : x141003_2.length < 2199023255552
              ·rw [if_pos c72] at H
               have LMc72 := Aside0.mk c72
               clear c72
               obtain ⟨y152, hy152⟩ : ∃ y_ : List (S40), y_ = (x141003_2 ++ [(⟨((rd_T48 ((rd_T44 l0_0 x15_1).f3) x30_2).f0), ((rd_T48 ((rd_T44 l0_0 x15_1).f3) x30_2).f1), x147002_3, ((rd_T48 ((rd_T44 l0_0 x15_1).f3) x30_2).f3)⟩ : S40)]) := ⟨_, rfl⟩
               replace H : (hier_Of.l1 k3 l0_0 (l0_0.length : Int) x15_1 ((rd_T44 l0_0 x15_1).f3) (((rd_T44 l0_0 x15_1).f3).length : Int) (wrap64 (x30_2 + 1)) x135000_1 ((rd_T44 l0_0 x15_1).f0) ((rd_T44 l0_0 x15_1).f1) t137 y152) = some r := by first | (rw [hy152]; with_reducible exact H) | (have H2_ := (Option.bind_some _ _).symm.trans H; rw [hy152]; with_reducible exact H2_) | (have H2_ := (Option.bind_some _ _).symm.trans H; with_reducible exact H2_) | with_reducible exact H | (rw [hy152]; exact H) | exact H
               have Ny152 := Aside0.mk hy152
               clear hy152
               have H' := Aside0.mk H
               clear H
               have hnb73 := NB140_132.out
               have hnc73 := NB132_140.out
               have hnb74 := NB140_133.out
               have hnc74 := NB133_140.out
               have hnb75 := NB140_134.out
               have hnc75 := NB134_140.out
               have hnb76 := NB140_136.out
               have hnc76 := NB136_140.out
               have hnb77 := NB140_145.out
               have hnc77 := NB145_140.out
               have hnb78 := NB140_146.out
               have hnc78 := NB146_140.out
               have hcz79_0 : wr.cell? ⟨gb140, 0, none⟩ = some (.string ((rd_T44 l0_0 x15_1).f0)) := (blk_cell BK140.out 0).trans rfl
               have hcz79_1 : wr.cell? ⟨gb140, 1, none⟩ = some (.string ((rd_T44 l0_0 x15_1).f1)) := (blk_cell BK140.out 1).trans rfl
               have hcz79_2 : wr.cell? ⟨gb140, 2, none⟩ = some (.slice Ao23 t137.length co23) := (blk_cell BK140.out 2).trans rfl
               have hcz79_3 : wr.cell? ⟨gb140, 3, none⟩ = some (u141003) := (blk_cell BK140.out 3).trans rfl
               have hfz79_0 := blk_frozen BK140.out 0
               have hfz79_1 := blk_frozen BK140.out 1
               have hfz79_2 := blk_frozen BK140.out 2
               have hfz79_3 := blk_frozen BK140.out 3
               have hnb80 := NB146_132.out
               have hnc80 := NB132_146.out
               have hnb81 := NB146_133.out
               have hnc81 := NB133_146.out
               have hnb82 := NB146_134.out
               have hnc82 := NB134_146.out
               have hnb83 := NB146_136.out
               have hnc83 := NB136_146.out
               have hnb84 := NB146_145.out
               have hnc84 := NB145_146.out
               have hcz85_0 : wr.cell? ⟨gb146, 0, none⟩ = some (.string ((rd_T48 ((rd_T44 l0_0 x15_1).f3) x30_2).f0)) := (blk_cell BK146.out 0).trans rfl
               have hcz85_1 : wr.cell? ⟨gb146, 1, none⟩ = some (.bool ((rd_T48 ((rd_T44 l0_0 x15_1).f3) x30_2).f1)) := (blk_cell BK146.out 1).trans rfl
               have hcz85_2 : wr.cell? ⟨gb146, 2, none⟩ = some (u147002) := (blk_cell BK146.out 2).trans rfl
               have hcz85_3 : wr.cell? ⟨gb146, 3, none⟩ = some (.string ((rd_T48 ((rd_T44 l0_0 x15_1).f3) x30_2).f3)) := (blk_cell BK146.out 3).trans rfl
               have hfz85_0 := blk_frozen BK146.out 0
               have hfz85_1 := blk_frozen BK146.out 1
               have hfz85_2 := blk_frozen BK146.out 2
               have hfz85_3 := blk_frozen BK146.out 3
               obtain ⟨Ao87, co87, eo87⟩ := Kd.R_slice HO_147002.out
               subst eo87
               go_wp2_with (first | ((with_reducible refine gate_builtin (b := .append) (xs := #[.tmp 57, .tmp 59]) rfl ?_); at_builtin; refine Kd.S_append k40 (w0 := w) w.heap.size rfl (.tmp 57) (.tmp 59) 33 40 (.agg #[(.string ⟨#[]⟩), (.bool false), (.slice none 0 0), (.string ⟨#[]⟩)]) 64 rfl Try.underlying33 info40 rfl (by decide) (by omega) u141003 x141003_2 (⟨((rd_T48 ((rd_T44 l0_0 x15_1).f3) x30_2).f0), ((rd_T48 ((rd_T44 l0_0 x15_1).f3) x30_2).f1), x147002_3, ((rd_T48 ((rd_T44 l0_0 x15_1).f3) x30_2).f3)⟩ : S40) [.string ((rd_T48 ((rd_T44 l0_0 x15_1).f3) x30_2).f0), .bool ((rd_T48 ((rd_T44 l0_0 x15_1).f3) x30_2).f1), .slice Ao87 x147002_3.length co87, .string ((rd_T48 ((rd_T44 l0_0 x15_1).f3) x30_2).f3)] (fun k_ => k_ ≠ gb146) (fun k_ => some k_ = (.slice Ao87 x147002_3.length co87 : Value).ownBlock) rfl rfl ?aP (fun k_ hk_ => ((Kd.R_mono (ok' := fun k_ => ((fun k_ => k_ ≠ gb146)) k_ ∧ some k_ ≠ (u141003 : Value).ownBlock) (Kd.R_types (Kd.R_apart' (HO_147002.out) (Kd.S_typed HO_141003.out) (by decide)) BK146.out (by decide)) (fun k_ hk => ⟨hk.2, hk.1.2⟩))).1 k_ hk_.symm) ?aF ?aO ?aB ?aS ?aL ?_; (case aP => exact k40_mkM _ _ _ (⟨((rd_T48 ((rd_T44 l0_0 x15_1).f3) x30_2).f0), ((rd_T48 ((rd_T44 l0_0 x15_1).f3) x30_2).f1), x147002_3, ((rd_T48 ((rd_T44 l0_0 x15_1).f3) x30_2).f3)⟩ : S40) (Kd.R_mono (Kd.R_tight rfl (Kd.R_mono (ok' := fun k_ => ((fun k_ => k_ ≠ gb146)) k_ ∧ some k_ ≠ (u141003 : Value).ownBlock) (Kd.R_types (Kd.R_apart' (HO_147002.out) (Kd.S_typed HO_141003.out) (by decide)) BK146.out (by decide)) (fun k_ hk => ⟨hk.2, hk.1.2⟩))) (fun _ h_ => h_))); (case aB => exact (by repeat with_reducible first | exact HB.out | apply below_alloc | apply pw_below_drewN | apply below_drew1 | refine below_set ?_ GE132.out | refine below_set ?_ GE133.out | refine below_set ?_ GE134.out | refine below_set ?_ GE136.out | refine below_set ?_ GE140.out | refine below_set ?_ GE145.out | refine below_set ?_ GE146.out)); (case aF => exact (fun k_ hk => Kd.freshB (g := gb146) (o := .cells #[.string ((rd_T48 ((rd_T44 l0_0 x15_1).f3) x30_2).f0), .bool ((rd_T48 ((rd_T44 l0_0 x15_1).f3) x30_2).f1), .slice Ao87 x147002_3.length co87, .string ((rd_T48 ((rd_T44 l0_0 x15_1).f3) x30_2).f3)] 40 (0, 0)) (by (with_reducible repeat first | apply bn | apply bd | apply ba); exact BK146.out) k_ hk)); (case aO => exact (by (with_reducible repeat first | apply Kd.S_alloc | apply Kd.S_drewN | apply Kd.S_drew); exact Kd.S_mono HO_141003.out (fun k_ hk => ⟨hk.2, fun e_ => hk.1 e_⟩))); (case aS => exact (below_size (by repeat with_reducible first | exact HB.out | apply below_alloc | apply pw_below_drewN | apply below_drew1 | refine below_set ?_ GE132.out | refine below_set ?_ GE133.out | refine below_set ?_ GE134.out | refine below_set ?_ GE136.out | refine below_set ?_ GE140.out | refine below_set ?_ GE145.out | refine below_set ?_ GE146.out))); (case aL => have := LMc72.out; omega); intro v153 w86 ho hb hg hat; rw [← Ny152.out] at ho; have n0_ := Aside0.mk (Kd.R_after (ok := (fun k_ => some k_ ≠ (.slice Ao23 t137.length co23 : Value).ownBlock ∧ some k_ ≠ (.slice Ao87 x147002_3.length co87 : Value).ownBlock ∧ k_ ≠ gb140 ∧ k_ ≠ gb146)) (by (with_reducible repeat first | apply Kd.R_alloc | apply Kd.R_drewN | apply Kd.R_drew); exact Kd.R_mono HO_135000.out (fun _ hk => ⟨⟨hk.1, ⟨hk.2.2.1, ⟨hk.2.2.2.1, hk.2.2.2.2⟩⟩⟩, hk.2.1⟩)) hg hat); have n1_ := Aside0.mk (Kd.R_over' (by (with_reducible repeat first | apply Kd.R_alloc | apply Kd.R_drewN | apply Kd.R_drew); exact HO_141002.out) (Kd.S_typed (by (with_reducible repeat first | apply Kd.S_alloc | apply Kd.S_drewN | apply Kd.S_drew); exact HO_141003.out)) (by decide) hg); have n2_ := Aside0.mk (blk_grown (g := gb132) (o := .cells #[.slice (some ad135) l0_0.length c0_0] 24 (0, 0)) (by (with_reducible repeat first | apply bn | apply bd | apply ba); exact BK132.out) hg (Kd.S_ne HO_141003.out BK132.out (by decide))); have n3_ := Aside0.mk (blk_grown (g := gb133) (o := .cells #[.slice none 0 0] 28 (0, 0)) (by (with_reducible repeat first | apply bn | apply bd | apply ba); exact BK133.out) hg (Kd.S_ne HO_141003.out BK133.out (by decide))); have n4_ := Aside0.mk (blk_grown (g := gb134) (o := .cells #[u135000] 28 (0, 0)) (by (with_reducible repeat first | apply bn | apply bd | apply ba); exact BK134.out) hg (Kd.S_ne HO_141003.out BK134.out (by decide))); have n5_ := Aside0.mk (blk_grown (g := gb136) (o := .cells #[.string ((rd_T44 l0_0 x15_1).f0), .string ((rd_T44 l0_0 x15_1).f1), .slice A135_2 ((rd_T44 l0_0 x15_1).f2).length c135_2, .slice (some ad144) ((rd_T44 l0_0 x15_1).f3).length c135_3] 44 (0, 0)) (by (with_reducible repeat first | apply bn | apply bd | apply ba); exact BK136.out) hg (Kd.S_ne HO_141003.out BK136.out (by decide))); have n6_ := Aside0.mk (blk_grown (g := gb140) (o := .cells #[.string ((rd_T44 l0_0 x15_1).f0), .string ((rd_T44 l0_0 x15_1).f1), .slice Ao23 t137.length co23, u141003] 35 (0, 0)) (by (with_reducible repeat first | apply bn | apply bd | apply ba); exact BK140.out) hg (Kd.S_ne HO_141003.out BK140.out (by decide))); have n7_ := Aside0.mk (blk_grown (g := gb145) (o := .cells #[.string ((rd_T48 ((rd_T44 l0_0 x15_1).f3) x30_2).f0), .bool ((rd_T48 ((rd_T44 l0_0 x15_1).f3) x30_2).f1), .slice A144_2 ((rd_T48 ((rd_T44 l0_0 x15_1).f3) x30_2).f2).length c144_2, .string ((rd_T48 ((rd_T44 l0_0 x15_1).f3) x30_2).f3), .slice A144_4 ((rd_T48 ((rd_T44 l0_0 x15_1).f3) x30_2).f4).length c144_4] 48 (0, 0)) (by (with_reducible repeat first | apply bn | apply bd | apply ba); exact BK145.out) hg (Kd.S_ne HO_141003.out BK145.out (by decide))); have n8_ := Aside0.mk (blk_grown (g := gb146) (o := .cells #[.string ((rd_T48 ((rd_T44 l0_0 x15_1).f3) x30_2).f0), .bool ((rd_T48 ((rd_T44 l0_0 x15_1).f3) x30_2).f1), .slice Ao87 x147002_3.length co87, .string ((rd_T48 ((rd_T44 l0_0 x15_1).f3) x30_2).f3)] 40 (0, 0)) (by (with_reducible repeat first | apply bn | apply bd | apply ba); exact BK146.out) hg (Kd.S_away HO_141003.out (fun _ hk => hk.2))); have n9_ := Aside0.mk (hb); have n10_ := Aside0.mk (ho); clear HO_135000; clear HO_141002; clear BK132; clear BK133; clear BK134; clear BK136; clear BK140; clear BK145; clear BK146; clear HB; clear HO_141003; clear HO_147002; have HO_135000 := n0_; have HO_141002 := n1_; have BK132 := n2_; have BK133 := n3_; have BK134 := n4_; have BK136 := n5_; have BK140 := n6_; have BK145 := n7_; have BK146 := n8_; have HB := n9_; have HO154 := n10_; clear n0_ n1_ n2_ n3_ n4_ n5_ n6_ n7_ n8_ n9_ n10_; clear ho hb hg hat; obtain ⟨Ao88, co88, eo88⟩ := Kd.S_slice HO154.out; subst eo88; have hcz89_0 : w86.cell? ⟨gb140, 0, none⟩ = some (.string ((rd_T44 l0_0 x15_1).f0)) := (blk_cell BK140.out 0).trans rfl; have hcz89_1 : w86.cell? ⟨gb140, 1, none⟩ = some (.string ((rd_T44 l0_0 x15_1).f1)) := (blk_cell BK140.out 1).trans rfl; have hcz89_2 : w86.cell? ⟨gb140, 2, none⟩ = some (.slice Ao23 t137.length co23) := (blk_cell BK140.out 2).trans rfl; have hcz89_3 : w86.cell? ⟨gb140, 3, none⟩ = some (u141003) := (blk_cell BK140.out 3).trans rfl; have hfz89_0 := blk_frozen BK140.out 0; have hfz89_1 := blk_frozen BK140.out 1; have hfz89_2 := blk_frozen BK140.out 2; have hfz89_3 := blk_frozen BK140.out 3))
               go_roundg k3
               case measure => have := HK1.out; have := HK2.out; have := HK3.out; omega
               case rel => exact ⟨(wrap64 (x30_2 + 1)), (y152), (.slice Ao88 y152.length co88), (by first | rfl | (simp; done) | (simp [*]; done)), H', ⟨by have := HK1.out; have := HK2.out; have := HK3.out; omega⟩, ⟨by (with_reducible repeat first | apply Kd.R_alloc | apply Kd.R_drewN | apply Kd.R_drew); exact Kd.R_mono (Kd.R_far (p := ⟨gb140, 3, none⟩) (Kd.R_mono HO_135000.out (fun k_ hk => (⟨hk, hk.1.2.2.1⟩ : _ ∧ k_ ≠ gb140))) (fun _ hk => hk.2) (.slice Ao88 y152.length co88)) (fun _ hk => ⟨hk.1.1.1, ⟨hk.1.2, hk.1.1.2.2.1⟩⟩)⟩, ⟨by (with_reducible repeat first | apply Kd.R_alloc | apply Kd.R_drewN | apply Kd.R_drew); exact Kd.R_mono (Kd.R_far (p := ⟨gb140, 3, none⟩) (Kd.R_types HO_141002.out BK140.out (by decide)) (fun _ hk => hk.2) (.slice Ao88 y152.length co88)) (fun _ hk => trivial)⟩, ⟨by (with_reducible repeat first | apply Kd.S_alloc | apply Kd.S_drewN | apply Kd.S_drew); exact Kd.S_mono (Kd.S_far (p := ⟨gb140, 3, none⟩) (Kd.S_types HO154.out BK140.out (by decide)) (fun _ hk => hk.2) (.slice Ao88 y152.length co88)) (fun _ hk => trivial)⟩, ⟨by (with_reducible repeat first | apply bn | apply bd | apply ba); refine blk_far ?_ NB132_140.out _; (with_reducible repeat first | apply bn | apply bd | apply ba); exact BK132.out⟩, ⟨by (with_reducible repeat first | apply bn | apply bd | apply ba); refine blk_far ?_ NB133_140.out _; (with_reducible repeat first | apply bn | apply bd | apply ba); exact BK133.out⟩, ⟨by (with_reducible repeat first | apply bn | apply bd | apply ba); refine blk_far ?_ NB134_140.out _; (with_reducible repeat first | apply bn | apply bd | apply ba); exact BK134.out⟩, ⟨by (with_reducible repeat first | apply bn | apply bd | apply ba); refine blk_far ?_ NB136_140.out _; (with_reducible repeat first | apply bn | apply bd | apply ba); exact BK136.out⟩, ⟨by (with_reducible repeat first | apply bn | apply bd | apply ba); refine blk_put (cs := #[.string ((rd_T44 l0_0 x15_1).f0), .string ((rd_T44 l0_0 x15_1).f1), .slice Ao23 t137.length co23, u141003]) ?_ 3 _ rfl; (with_reducible repeat first | apply bn | apply bd | apply ba); exact BK140.out⟩, ⟨by repeat with_reducible first | exact HB.out | apply below_alloc | apply pw_below_drewN | apply below_drew1 | refine below_set ?_ GE132.out | refine below_set ?_ GE133.out | refine below_set ?_ GE134.out | refine below_set ?_ GE136.out | refine below_set ?_ GE140.out | refine below_set ?_ GE145.out | refine below_set ?_ GE146.out⟩⟩
              ·rw [if_neg c72] at H
               exact absurd H (by simp)
          ·rw [if_neg c32] at H
           exact absurd H (by simp)
         ·rw [if_neg c31] at H
          exact absurd H (by simp)
        ·rw [if_neg c30] at H
         have c30b0 : decide (x30_2 < (((rd_T44 l0_0 x15_1).f3).length : Int)) = false := decide_eq_false c30
         clear c30
         by_cases c90 : x135000_1.length < 1759218604441
         ·rw [if_pos c90] at H
          have LMc90 := Aside0.mk c90
          clear c90
          obtain ⟨y141, hy141⟩ : ∃ y_ : List (S35), y_ = (x135000_1 ++ [(⟨((rd_T44 l0_0 x15_1).f0), ((rd_T44 l0_0 x15_1).f1), t137, x141003_2⟩ : S35)]) := ⟨_, rfl⟩
          replace H : (hier_Of.l0 k2 l0_0 (l0_0.length : Int) (wrap64 (x15_1 + 1)) y141) = some r := by first | (rw [hy141]; with_reducible exact H) | (have H2_ := (Option.bind_some _ _).symm.trans H; rw [hy141]; with_reducible exact H2_) | (have H2_ := (Option.bind_some _ _).symm.trans H; with_reducible exact H2_) | with_reducible exact H | (rw [hy141]; exact H) | exact H
          have Ny141 := Aside0.mk hy141
          clear hy141
          have H' := Aside0.mk H
          clear H
          have hnb91 := NB134_132.out
          have hnc91 := NB132_134.out
          have hnb92 := NB134_133.out
          have hnc92 := NB133_134.out
          have hnb93 := NB134_136.out
          have hnc93 := NB136_134.out
          have hnb94 := NB134_140.out
          have hnc94 := NB140_134.out
          have hcz95_0 : wr.cell? ⟨gb134, 0, none⟩ = some (u135000) := (blk_cell BK134.out 0).trans rfl
          have hfz95_0 := blk_frozen BK134.out 0
          have hnb96 := NB140_132.out
          have hnc96 := NB132_140.out
          have hnb97 := NB140_133.out
          have hnc97 := NB133_140.out
          have hnb98 := NB140_136.out
          have hnc98 := NB136_140.out
          have hcz99_0 : wr.cell? ⟨gb140, 0, none⟩ = some (.string ((rd_T44 l0_0 x15_1).f0)) := (blk_cell BK140.out 0).trans rfl
          have hcz99_1 : wr.cell? ⟨gb140, 1, none⟩ = some (.string ((rd_T44 l0_0 x15_1).f1)) := (blk_cell BK140.out 1).trans rfl
          have hcz99_2 : wr.cell? ⟨gb140, 2, none⟩ = some (.slice Ao23 t137.length co23) := (blk_cell BK140.out 2).trans rfl
          have hcz99_3 : wr.cell? ⟨gb140, 3, none⟩ = some (u141003) := (blk_cell BK140.out 3).trans rfl
          have hfz99_0 := blk_frozen BK140.out 0
          have hfz99_1 := blk_frozen BK140.out 1
          have hfz99_2 := blk_frozen BK140.out 2
          have hfz99_3 := blk_frozen BK140.out 3
          obtain ⟨Ao101, co101, eo101⟩ := Kd.S_slice HO_141003.out
          subst eo101
          go_wp2_with (first | ((with_reducible refine gate_builtin (b := .append) (xs := #[.tmp 64, .tmp 66]) rfl ?_); at_builtin; refine Kd.R_append k35 (w0 := w) w.heap.size rfl (.tmp 64) (.tmp 66) 26 35 (.agg #[(.string ⟨#[]⟩), (.string ⟨#[]⟩), (.slice none 0 0), (.slice none 0 0)]) 80 rfl Try.underlying26 info35 rfl (by decide) (by omega) u135000 x135000_1 (⟨((rd_T44 l0_0 x15_1).f0), ((rd_T44 l0_0 x15_1).f1), t137, x141003_2⟩ : S35) [.string ((rd_T44 l0_0 x15_1).f0), .string ((rd_T44 l0_0 x15_1).f1), .slice Ao23 t137.length co23, .slice Ao101 x141003_2.length co101] (fun k_ => k_ ≠ gb140) (fun k_ => ((fun k_ => k_ ≠ gb140)) k_ ∧ some k_ ≠ (u135000 : Value).ownBlock) rfl rfl ?aP (fun _ hk => hk) ?aF ?aO ?aB ?aS ?aL ?_; (case aP => exact k35_mkM _ _ _ (⟨((rd_T44 l0_0 x15_1).f0), ((rd_T44 l0_0 x15_1).f1), t137, x141003_2⟩ : S35) (Kd.R_mono (Kd.R_types (Kd.R_apart' (HO_141002.out) (Kd.R_typed HO_135000.out) (by decide)) BK140.out (by decide)) (fun k_ hk => ⟨hk.2, hk.1.2⟩)) (Kd.R_mono (Kd.R_types (Kd.R_apart' ((Kd.S_R HO_141003.out)) (Kd.R_typed HO_135000.out) (by decide)) BK140.out (by decide)) (fun k_ hk => ⟨hk.2, hk.1.2⟩))); (case aB => exact (by repeat with_reducible first | exact HB.out | apply below_alloc | apply pw_below_drewN | apply below_drew1 | refine below_set ?_ GE132.out | refine below_set ?_ GE133.out | refine below_set ?_ GE134.out | refine below_set ?_ GE136.out | refine below_set ?_ GE140.out)); (case aF => exact (fun k_ hk => Kd.freshB (g := gb140) (o := .cells #[.string ((rd_T44 l0_0 x15_1).f0), .string ((rd_T44 l0_0 x15_1).f1), .slice Ao23 t137.length co23, .slice Ao101 x141003_2.length co101] 35 (0, 0)) (by (with_reducible repeat first | apply bn | apply bd | apply ba); exact BK140.out) k_ hk)); (case aO => exact (by (with_reducible repeat first | apply Kd.R_alloc | apply Kd.R_drewN | apply Kd.R_drew); exact Kd.R_mono HO_135000.out (fun _ hk => hk.2.2))); (case aS => exact (below_size (by repeat with_reducible first | exact HB.out | apply below_alloc | apply pw_below_drewN | apply below_drew1 | refine below_set ?_ GE132.out | refine below_set ?_ GE133.out | refine below_set ?_ GE134.out | refine below_set ?_ GE136.out | refine below_set ?_ GE140.out))); (case aL => have := LMc90.out; omega); intro v142 w100 ho hb hg hat; rw [← Ny141.out] at ho; have n0_ := Aside0.mk (blk_grown (g := gb132) (o := .cells #[.slice (some ad135) l0_0.length c0_0] 24 (0, 0)) (by (with_reducible repeat first | apply bn | apply bd | apply ba); exact BK132.out) hg (Kd.R_ne HO_135000.out BK132.out (by decide))); have n1_ := Aside0.mk (blk_grown (g := gb133) (o := .cells #[.slice none 0 0] 28 (0, 0)) (by (with_reducible repeat first | apply bn | apply bd | apply ba); exact BK133.out) hg (Kd.R_ne HO_135000.out BK133.out (by decide))); have n2_ := Aside0.mk (blk_grown (g := gb134) (o := .cells #[u135000] 28 (0, 0)) (by (with_reducible repeat first | apply bn | apply bd | apply ba); exact BK134.out) hg (Kd.R_ne HO_135000.out BK134.out (by decide))); have n3_ := Aside0.mk (blk_grown (g := gb136) (o := .cells #[.string ((rd_T44 l0_0 x15_1).f0), .string ((rd_T44 l0_0 x15_1).f1), .slice A135_2 ((rd_T44 l0_0 x15_1).f2).length c135_2, .slice A135_3 ((rd_T44 l0_0 x15_1).f3).length c135_3] 44 (0, 0)) (by (with_reducible repeat first | apply bn | apply bd | apply ba); exact BK136.out) hg (Kd.R_ne HO_135000.out BK136.out (by decide))); have n4_ := Aside0.mk (blk_grown (g := gb140) (o := .cells #[.string ((rd_T44 l0_0 x15_1).f0), .string ((rd_T44 l0_0 x15_1).f1), .slice Ao23 t137.length co23, .slice Ao101 x141003_2.length co101] 35 (0, 0)) (by (with_reducible repeat first | apply bn | apply bd | apply ba); exact BK140.out) hg (Kd.R_away HO_135000.out (fun _ hk => hk.2.2))); have n5_ := Aside0.mk (hb); have n6_ := Aside0.mk (ho); clear BK132; clear BK133; clear BK134; clear BK136; clear BK140; clear HB; clear HO_135000; clear HO_141002; clear HO_141003; have BK132 := n0_; have BK133 := n1_; have BK134 := n2_; have BK136 := n3_; have BK140 := n4_; have HB := n5_; have HO143 := n6_; clear n0_ n1_ n2_ n3_ n4_ n5_ n6_; clear ho hb hg hat; obtain ⟨Ao102, co102, eo102⟩ := Kd.R_slice HO143.out; subst eo102; have hcz103_0 : w100.cell? ⟨gb134, 0, none⟩ = some (u135000) := (blk_cell BK134.out 0).trans rfl; have hfz103_0 := blk_frozen BK134.out 0))
          go_roundg k2
          case measure => have := HK1.out; have := HK2.out; omega
          case rel => exact ⟨(wrap64 (x15_1 + 1)), (y141), (.slice Ao102 y141.length co102), (by first | rfl | (simp; done) | (simp [*]; done)), H', ⟨by have := HK1.out; have := HK2.out; omega⟩, ⟨by (with_reducible repeat first | apply Kd.R_alloc | apply Kd.R_drewN | apply Kd.R_drew); exact Kd.R_mono (Kd.R_far (p := ⟨gb134, 0, none⟩) (Kd.R_types HO143.out BK134.out (by decide)) (fun _ hk => hk.2) (.slice Ao102 y141.length co102)) (fun _ hk => trivial)⟩, ⟨by (with_reducible repeat first | apply bn | apply bd | apply ba); refine blk_far ?_ NB132_134.out _; (with_reducible repeat first | apply bn | apply bd | apply ba); exact BK132.out⟩, ⟨by (with_reducible repeat first | apply bn | apply bd | apply ba); refine blk_far ?_ NB133_134.out _; (with_reducible repeat first | apply bn | apply bd | apply ba); exact BK133.out⟩, ⟨by (with_reducible repeat first | apply bn | apply bd | apply ba); refine blk_put (cs := #[u135000]) ?_ 0 _ rfl; (with_reducible repeat first | apply bn | apply bd | apply ba); exact BK134.out⟩, ⟨by repeat with_reducible first | exact HB.out | apply below_alloc | apply pw_below_drewN | apply below_drew1 | refine below_set ?_ GE132.out | refine below_set ?_ GE133.out | refine below_set ?_ GE134.out | refine below_set ?_ GE136.out | refine below_set ?_ GE140.out⟩⟩
         ·rw [if_neg c90] at H
          exact absurd H (by simp)
     ·rw [if_neg c10] at H
      exact absurd H (by simp)
    ·rw [if_neg c9] at H
     exact absurd H (by simp)
   ·rw [if_neg c8] at H
    have c8b0 : decide (x15_1 < (l0_0.length : Int)) = false := decide_eq_false c8
    clear c8
    obtain rfl := Option.some.inj H
    have hnb104 := NB134_132.out
    have hnc104 := NB132_134.out
    have hnb105 := NB134_133.out
    have hnc105 := NB133_134.out
    have hcz106_0 : wr.cell? ⟨gb134, 0, none⟩ = some (u135000) := (blk_cell BK134.out 0).trans rfl
    have hfz106_0 := blk_frozen BK134.out 0
    obtain ⟨Ao107, co107, eo107⟩ := Kd.R_slice HO_135000.out
    subst eo107
    have hnb108 := NB133_132.out
    have hnc108 := NB132_133.out
    have hcz109_0 : wr.cell? ⟨gb133, 0, none⟩ = some (.slice none 0 0) := (blk_cell BK133.out 0).trans rfl
    have hfz109_0 := blk_frozen BK133.out 0
    go_wp2
    refine bodyPost_ret (results_cell_row rfl _ _ gb133 28 #[.slice Ao107 x135000_1.length co107] (0, 0) _ rfl (by (with_reducible repeat first | apply bn | apply bd | apply ba); refine blk_put (cs := #[.slice none 0 0]) ?_ 0 _ rfl; (with_reducible repeat first | apply bn | apply bd | apply ba); exact BK133.out) Try.underlying28 rfl (by kernel_rfl)) rfl ?_
    exact ⟨_, by first | rfl | (simp [errW_none, errW_some] <;> rfl) | (simp [*, errW_none, errW_some] <;> rfl), by (with_reducible repeat first | apply Kd.R_alloc | apply Kd.R_drewN | apply Kd.R_drew); exact Kd.R_mono (Kd.R_far (p := ⟨gb133, 0, none⟩) (Kd.R_types HO_135000.out BK133.out (by decide)) (fun _ hk => hk.2) (.slice Ao107 x135000_1.length co107)) (fun _ hk => trivial), by repeat with_reducible first | exact HB.out | apply below_alloc | apply pw_below_drewN | apply below_drew1 | refine below_set ?_ GE132.out | refine below_set ?_ GE133.out | refine below_set ?_ GE134.out⟩

end Go.Proofs.Ytkbclcecmcdlfaa.PH
